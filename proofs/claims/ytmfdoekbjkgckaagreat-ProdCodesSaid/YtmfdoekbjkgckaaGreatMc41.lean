import Derived.Test.YtmfdoekbjkgckaaGreatMk4
import Derived.Test.YtmfdoekbjkgckaaGreatMc36
import Derived.Test.YtmfdoekbjkgckaaGreatMkf
namespace Go.Aug.Mc
open Go Go.Aug
set_option linter.unusedSimpArgs false
set_option linter.unusedVariables false
set_option maxHeartbeats 40000000
def QG (n:Nat):List Label:=(List.range n).map Md.G2
def BA (l:List Int)(n j:Nat):List Ins:=(List.range j).map fun i:Nat=>Md.J3 (Md.kM l (i+2)) n
theorem Z38 (n:Nat):QG n++[Md.G2 n]=QG (n+1):=by simp[QG,List.range_succ]
theorem Z3l (l:List Int)(n j:Nat):BA l n j++[Md.J3 (Md.kM l (j+2)) n]=BA l n (j+1):=by simp[BA,List.range_succ]
theorem B2 (n:Nat):(QG n).length=n:=by simp[QG]
theorem Mq (l:List Int)(n j:Nat):(BA l n j).length=j:=by simp[BA]
variable {E:Env} {fn:FuncId->Option (Env->cT->cT)}
section
variable (S:Sur E fn)
include S
theorem SQ:E.lives 8 1=none/\E.lives 8 23=none/\E.lives 8 27=none/\E.lives 8 31=none/\E.lives 8 35=none/\E.lives 8 39=none:=⟨off S 8 1 (by decide) rfl,off S 8 23 (by decide) rfl,off S 8 27 (by decide) rfl,off S 8 31 (by decide) rfl,off S 8 35 (by decide) rfl,off S 8 39 (by decide) rfl⟩
theorem Zg2 (dp:Nat)(l:List Int)(kx:Nat->K)(kr:K)(n:Nat)(W wn r0 r1 r2 r3:Int)(hn:n<6):∀ m j f,j+m=(n+1)->m<=f->
  YR (Zj E 8) (Z5 E fn (dp+2)) (Z9 44 YR (Zj E 8) (Z5 E fn (dp+2)) kx kr f) kx kr (mk .bot 171 [(2,.ref 0 0 0),(3,.fn (.func 24) [.ref 1 0 0]),(4,.ref 2 0 0),(8,aI n),(9,aI (j:Int))]) [.cells [zi,zi,zi,zi,zi,zi,zi,zn,zn,zn] 0 false,.cells [.d (rD l)] 0 false,.cells [aI W,aI wn,aI 6,aI r0,aI r1,aI r2,aI r3,zn,.sref 3 0 0 (j) 2 none,zn] 0 false,.cells ((rC (QG j)).map .d) 0 false]=
  kx 3 (mk .bot 171 ((141,ZZ false)::(140,aI n)::(139,aI ((n+1:Nat):Int))::[(2,.ref 0 0 0),(3,.fn (.func 24) [.ref 1 0 0]),(4,.ref 2 0 0),(8,aI n),(9,aI ((n+1:Nat):Int))])) [.cells [zi,zi,zi,zi,zi,zi,zi,zn,zn,zn] 0 false,.cells [.d (rD l)] 0 false,.cells [aI W,aI wn,aI 6,aI r0,aI r1,aI r2,aI r3,zn,.sref 3 0 0 ((n+1)) 2 none,zn] 0 false,.cells ((rC (QG (n+1))).map .d) 0 false]:=by
 intro m
 induction m with
 | zero=>
  intro j f hj _
  obtain rfl:j=n+1:=by omega
  have hz:¬(((n+1:Nat):Int)<=n):=by omega
  generalize Z9 44 YR _ _ kx kr f=KK
  first | (conv=>lhs;rw[YR]) | rw[YR]
  simp only[eG,go_sem,Z2 S,Z1 S,Nat.reduceLT,Nat.reduceEqDiff,Nat.reduceAdd,Nat.reduceMul,Nat.reduceLeDiff,Int.reduceEq,Int.reduceLT,Int.reduceLE,Int.reduceNeg,reduceCtorEq,SQ S,hz]
 | succ m ih=>
  intro j f hj hf
  obtain⟨f,rfl⟩:∃ g,f=g+1:=⟨f-1,by omega⟩
  have e:=Zdv S dp l kx kr f n W wn r0 r1 r2 r3 j (QG j) (by omega) hn (by rw[B2];omega)
  rw[Z38,B2] at e
  rw[e]
  exact ih (j+1) f (by omega) (by omega)
theorem Z30 (dp:Nat)(l:List Int)(kx:Nat->K)(kr:K)(n:Nat)(W wn r0 r1 r2 r3:Int)(h0:0<n)(hn:n<6)(f:Nat)(hf:10<=f):
  YR (Zj E 8) (Z5 E fn (dp+2)) (Z9 44 YR (Zj E 8) (Z5 E fn (dp+2)) kx kr f) kx kr (mk .bot 171 [(2,.ref 0 0 0),(3,.fn (.func 24) [.ref 1 0 0]),(4,.ref 2 0 0),(8,aI n),(9,aI 0)]) [.cells [zi,zi,zi,zi,zi,zi,zi,zn,zn,zn] 0 false,.cells [.d (rD l)] 0 false,.cells [aI W,aI wn,aI 6,aI r0,aI r1,aI r2,aI r3,zn,zn,zn] 0 false]=
  kx 3 (mk .bot 171 ((141,ZZ false)::(140,aI n)::(139,aI ((n+1:Nat):Int))::[(2,.ref 0 0 0),(3,.fn (.func 24) [.ref 1 0 0]),(4,.ref 2 0 0),(8,aI n),(9,aI ((n+1:Nat):Int))])) [.cells [zi,zi,zi,zi,zi,zi,zi,zn,zn,zn] 0 false,.cells [.d (rD l)] 0 false,.cells [aI W,aI wn,aI 6,aI r0,aI r1,aI r2,aI r3,zn,.sref 3 0 0 ((n+1)) 2 none,zn] 0 false,.cells ((rC (QG (n+1))).map .d) 0 false]:=by
 obtain⟨f,rfl⟩:∃ g,f=g+1:=⟨f-1,by omega⟩
 rw[Zgb S dp l kx kr f n W wn r0 r1 r2 r3 hn]
 exact Zg2 S dp l kx kr n W wn r0 r1 r2 r3 hn n 1 f (by omega) (by omega)
theorem Zg0 (dp:Nat)(l:List Int)(kx:Nat->K)(kr:K)(n:Nat)(ls:List Label)(W wn r0 r1 r2 r3:Int)(hn:n<6):∀ m j f,j+m=n->m<=f->
  YQ (Zj E 8) (Z5 E fn (dp+2)) (Z9 52 YQ (Zj E 8) (Z5 E fn (dp+2)) kx kr f) kx kr (mk .bot 171 [(2,.ref 0 0 0),(3,.fn (.func 24) [.ref 1 0 0]),(4,.ref 2 0 0),(8,aI n),(10,aI (j:Int))]) [.cells [zi,zi,zi,zi,zi,zi,zi,zn,zn,zn] 0 false,.cells [.d (rD l)] 0 false,.cells [aI W,aI wn,aI 6,aI r0,aI r1,aI r2,aI r3,zn,.sref 3 0 0 ls.length 2 none,.sref 4 0 0 (j) 9 none] 0 false,.cells ((rC ls).map .d) 0 false,.cells ((rC (BA l n j)).map .d) 0 false]=
  kx 5 (mk .bot 171 ((156,ZZ false)::(155,aI n)::(154,aI n)::[(2,.ref 0 0 0),(3,.fn (.func 24) [.ref 1 0 0]),(4,.ref 2 0 0),(8,aI n),(10,aI (n:Int))])) [.cells [zi,zi,zi,zi,zi,zi,zi,zn,zn,zn] 0 false,.cells [.d (rD l)] 0 false,.cells [aI W,aI wn,aI 6,aI r0,aI r1,aI r2,aI r3,zn,.sref 3 0 0 ls.length 2 none,.sref 4 0 0 (n) 9 none] 0 false,.cells ((rC ls).map .d) 0 false,.cells ((rC (BA l n n)).map .d) 0 false]:=by
 intro m
 induction m with
 | zero=>
  intro j f hj _
  obtain rfl:n=j:=by omega
  have hz:¬((n:Int)<n):=by omega
  generalize Z9 52 YQ _ _ kx kr f=KK
  first | (conv=>lhs;rw[YQ]) | rw[YQ]
  simp only[eG,go_sem,Z2 S,Z1 S,Nat.reduceLT,Nat.reduceEqDiff,Nat.reduceAdd,Nat.reduceMul,Nat.reduceLeDiff,Int.reduceEq,Int.reduceLT,Int.reduceLE,Int.reduceNeg,reduceCtorEq,SQ S,hz]
 | succ m ih=>
  intro j f hj hf
  obtain⟨f,rfl⟩:∃ g,f=g+1:=⟨f-1,by omega⟩
  have e:=Zdt S dp l kx kr f n ls W wn r0 r1 r2 r3 j (BA l n j) (by omega) hn (by rw[Mq];omega)
  rw[Z3l,Mq] at e
  rw[e]
  exact ih (j+1) f (by omega) (by omega)
theorem Z2z (dp:Nat)(l:List Int)(kx:Nat->K)(kr:K)(n:Nat)(ls:List Label)(W wn r0 r1 r2 r3:Int)(h0:0<n)(hn:n<6)(f:Nat)(hf:10<=f):
  YQ (Zj E 8) (Z5 E fn (dp+2)) (Z9 52 YQ (Zj E 8) (Z5 E fn (dp+2)) kx kr f) kx kr (mk .bot 171 [(2,.ref 0 0 0),(3,.fn (.func 24) [.ref 1 0 0]),(4,.ref 2 0 0),(8,aI n),(10,aI 0)]) [.cells [zi,zi,zi,zi,zi,zi,zi,zn,zn,zn] 0 false,.cells [.d (rD l)] 0 false,.cells [aI W,aI wn,aI 6,aI r0,aI r1,aI r2,aI r3,zn,.sref 3 0 0 ls.length 2 none,zn] 0 false,.cells ((rC ls).map .d) 0 false]=
  kx 5 (mk .bot 171 ((156,ZZ false)::(155,aI n)::(154,aI n)::[(2,.ref 0 0 0),(3,.fn (.func 24) [.ref 1 0 0]),(4,.ref 2 0 0),(8,aI n),(10,aI (n:Int))])) [.cells [zi,zi,zi,zi,zi,zi,zi,zn,zn,zn] 0 false,.cells [.d (rD l)] 0 false,.cells [aI W,aI wn,aI 6,aI r0,aI r1,aI r2,aI r3,zn,.sref 3 0 0 ls.length 2 none,.sref 4 0 0 (n) 9 none] 0 false,.cells ((rC ls).map .d) 0 false,.cells ((rC (BA l n n)).map .d) 0 false]:=by
 obtain⟨f,rfl⟩:∃ g,f=g+1:=⟨f-1,by omega⟩
 rw[Zg9 S dp l kx kr f n ls W wn r0 r1 r2 r3 h0 hn]
 exact Zg0 S dp l kx kr n ls W wn r0 r1 r2 r3 hn (n-1) 1 f (by omega) (by omega)
theorem Zg1 (dp:Nat)(l:List Int)(kx:Nat->K)(kr:K)(n:Nat)(ms:List MemT)(W wn r0 r1 r2 r3:Int)(hn:n<6):∀ m j f,j+m=(n+1)->m<=f->
  YR (Zj E 8) (Z5 E fn (dp+2)) (Z9 44 YR (Zj E 8) (Z5 E fn (dp+2)) kx kr f) kx kr (mk .bot 171 [(2,.ref 0 0 0),(3,.fn (.func 24) [.ref 1 0 0]),(4,.ref 2 0 0),(8,aI n),(9,aI (j:Int))]) [.cells [zi,zi,zi,zi,zi,zi,zi,zn,zn,zn] 0 false,.cells [.d (rD l)] 0 false,.cells [aI W,aI wn,aI 6,aI r0,aI r1,aI r2,aI r3,.sref 3 0 0 ms.length 3 none,.sref 4 0 0 (j) 2 none,zn] 0 false,.cells ((rC ms).map .d) 0 false,.cells ((rC (QG j)).map .d) 0 false]=
  kx 3 (mk .bot 171 ((141,ZZ false)::(140,aI n)::(139,aI ((n+1:Nat):Int))::[(2,.ref 0 0 0),(3,.fn (.func 24) [.ref 1 0 0]),(4,.ref 2 0 0),(8,aI n),(9,aI ((n+1:Nat):Int))])) [.cells [zi,zi,zi,zi,zi,zi,zi,zn,zn,zn] 0 false,.cells [.d (rD l)] 0 false,.cells [aI W,aI wn,aI 6,aI r0,aI r1,aI r2,aI r3,.sref 3 0 0 ms.length 3 none,.sref 4 0 0 ((n+1)) 2 none,zn] 0 false,.cells ((rC ms).map .d) 0 false,.cells ((rC (QG (n+1))).map .d) 0 false]:=by
 intro m
 induction m with
 | zero=>
  intro j f hj _
  obtain rfl:j=n+1:=by omega
  have hz:¬(((n+1:Nat):Int)<=n):=by omega
  generalize Z9 44 YR _ _ kx kr f=KK
  first | (conv=>lhs;rw[YR]) | rw[YR]
  simp only[eG,go_sem,Z2 S,Z1 S,Nat.reduceLT,Nat.reduceEqDiff,Nat.reduceAdd,Nat.reduceMul,Nat.reduceLeDiff,Int.reduceEq,Int.reduceLT,Int.reduceLE,Int.reduceNeg,reduceCtorEq,SQ S,hz]
 | succ m ih=>
  intro j f hj hf
  obtain⟨f,rfl⟩:∃ g,f=g+1:=⟨f-1,by omega⟩
  have e:=Zdu S dp l kx kr f n ms W wn r0 r1 r2 r3 j (QG j) (by omega) hn (by rw[B2];omega)
  rw[Z38,B2] at e
  rw[e]
  exact ih (j+1) f (by omega) (by omega)
theorem G0 (dp:Nat)(l:List Int)(kx:Nat->K)(kr:K)(n:Nat)(ms:List MemT)(W wn r0 r1 r2 r3:Int)(h0:0<n)(hn:n<6)(f:Nat)(hf:10<=f):
  YR (Zj E 8) (Z5 E fn (dp+2)) (Z9 44 YR (Zj E 8) (Z5 E fn (dp+2)) kx kr f) kx kr (mk .bot 171 [(2,.ref 0 0 0),(3,.fn (.func 24) [.ref 1 0 0]),(4,.ref 2 0 0),(8,aI n),(9,aI 0)]) [.cells [zi,zi,zi,zi,zi,zi,zi,zn,zn,zn] 0 false,.cells [.d (rD l)] 0 false,.cells [aI W,aI wn,aI 6,aI r0,aI r1,aI r2,aI r3,.sref 3 0 0 ms.length 3 none,zn,zn] 0 false,.cells ((rC ms).map .d) 0 false]=
  kx 3 (mk .bot 171 ((141,ZZ false)::(140,aI n)::(139,aI ((n+1:Nat):Int))::[(2,.ref 0 0 0),(3,.fn (.func 24) [.ref 1 0 0]),(4,.ref 2 0 0),(8,aI n),(9,aI ((n+1:Nat):Int))])) [.cells [zi,zi,zi,zi,zi,zi,zi,zn,zn,zn] 0 false,.cells [.d (rD l)] 0 false,.cells [aI W,aI wn,aI 6,aI r0,aI r1,aI r2,aI r3,.sref 3 0 0 ms.length 3 none,.sref 4 0 0 ((n+1)) 2 none,zn] 0 false,.cells ((rC ms).map .d) 0 false,.cells ((rC (QG (n+1))).map .d) 0 false]:=by
 obtain⟨f,rfl⟩:∃ g,f=g+1:=⟨f-1,by omega⟩
 rw[Zga S dp l kx kr f n ms W wn r0 r1 r2 r3 hn]
 exact Zg1 S dp l kx kr n ms W wn r0 r1 r2 r3 hn n 1 f (by omega) (by omega)
theorem Zfz (dp:Nat)(l:List Int)(kx:Nat->K)(kr:K)(n:Nat)(ms:List MemT)(ls:List Label)(W wn r0 r1 r2 r3:Int)(hn:n<6):∀ m j f,j+m=n->m<=f->
  YQ (Zj E 8) (Z5 E fn (dp+2)) (Z9 52 YQ (Zj E 8) (Z5 E fn (dp+2)) kx kr f) kx kr (mk .bot 171 [(2,.ref 0 0 0),(3,.fn (.func 24) [.ref 1 0 0]),(4,.ref 2 0 0),(8,aI n),(10,aI (j:Int))]) [.cells [zi,zi,zi,zi,zi,zi,zi,zn,zn,zn] 0 false,.cells [.d (rD l)] 0 false,.cells [aI W,aI wn,aI 6,aI r0,aI r1,aI r2,aI r3,.sref 3 0 0 ms.length 3 none,.sref 4 0 0 ls.length 2 none,.sref 5 0 0 (j) 9 none] 0 false,.cells ((rC ms).map .d) 0 false,.cells ((rC ls).map .d) 0 false,.cells ((rC (BA l n j)).map .d) 0 false]=
  kx 5 (mk .bot 171 ((156,ZZ false)::(155,aI n)::(154,aI n)::[(2,.ref 0 0 0),(3,.fn (.func 24) [.ref 1 0 0]),(4,.ref 2 0 0),(8,aI n),(10,aI (n:Int))])) [.cells [zi,zi,zi,zi,zi,zi,zi,zn,zn,zn] 0 false,.cells [.d (rD l)] 0 false,.cells [aI W,aI wn,aI 6,aI r0,aI r1,aI r2,aI r3,.sref 3 0 0 ms.length 3 none,.sref 4 0 0 ls.length 2 none,.sref 5 0 0 (n) 9 none] 0 false,.cells ((rC ms).map .d) 0 false,.cells ((rC ls).map .d) 0 false,.cells ((rC (BA l n n)).map .d) 0 false]:=by
 intro m
 induction m with
 | zero=>
  intro j f hj _
  obtain rfl:n=j:=by omega
  have hz:¬((n:Int)<n):=by omega
  generalize Z9 52 YQ _ _ kx kr f=KK
  first | (conv=>lhs;rw[YQ]) | rw[YQ]
  simp only[eG,go_sem,Z2 S,Z1 S,Nat.reduceLT,Nat.reduceEqDiff,Nat.reduceAdd,Nat.reduceMul,Nat.reduceLeDiff,Int.reduceEq,Int.reduceLT,Int.reduceLE,Int.reduceNeg,reduceCtorEq,SQ S,hz]
 | succ m ih=>
  intro j f hj hf
  obtain⟨f,rfl⟩:∃ g,f=g+1:=⟨f-1,by omega⟩
  have e:=Zds S dp l kx kr f n ms ls W wn r0 r1 r2 r3 j (BA l n j) (by omega) hn (by rw[Mq];omega)
  rw[Z3l,Mq] at e
  rw[e]
  exact ih (j+1) f (by omega) (by omega)
theorem FZ (dp:Nat)(l:List Int)(kx:Nat->K)(kr:K)(n:Nat)(ms:List MemT)(ls:List Label)(W wn r0 r1 r2 r3:Int)(h0:0<n)(hn:n<6)(f:Nat)(hf:10<=f):
  YQ (Zj E 8) (Z5 E fn (dp+2)) (Z9 52 YQ (Zj E 8) (Z5 E fn (dp+2)) kx kr f) kx kr (mk .bot 171 [(2,.ref 0 0 0),(3,.fn (.func 24) [.ref 1 0 0]),(4,.ref 2 0 0),(8,aI n),(10,aI 0)]) [.cells [zi,zi,zi,zi,zi,zi,zi,zn,zn,zn] 0 false,.cells [.d (rD l)] 0 false,.cells [aI W,aI wn,aI 6,aI r0,aI r1,aI r2,aI r3,.sref 3 0 0 ms.length 3 none,.sref 4 0 0 ls.length 2 none,zn] 0 false,.cells ((rC ms).map .d) 0 false,.cells ((rC ls).map .d) 0 false]=
  kx 5 (mk .bot 171 ((156,ZZ false)::(155,aI n)::(154,aI n)::[(2,.ref 0 0 0),(3,.fn (.func 24) [.ref 1 0 0]),(4,.ref 2 0 0),(8,aI n),(10,aI (n:Int))])) [.cells [zi,zi,zi,zi,zi,zi,zi,zn,zn,zn] 0 false,.cells [.d (rD l)] 0 false,.cells [aI W,aI wn,aI 6,aI r0,aI r1,aI r2,aI r3,.sref 3 0 0 ms.length 3 none,.sref 4 0 0 ls.length 2 none,.sref 5 0 0 (n) 9 none] 0 false,.cells ((rC ms).map .d) 0 false,.cells ((rC ls).map .d) 0 false,.cells ((rC (BA l n n)).map .d) 0 false]:=by
 obtain⟨f,rfl⟩:∃ g,f=g+1:=⟨f-1,by omega⟩
 rw[Zg8 S dp l kx kr f n ms ls W wn r0 r1 r2 r3 h0 hn]
 exact Zfz S dp l kx kr n ms ls W wn r0 r1 r2 r3 hn (n-1) 1 f (by omega) (by omega)
end
open Nat renaming reduceLT -> zN0, reduceEqDiff -> zN1, reduceAdd -> zN2, reduceMul -> zN3, reduceLeDiff -> zN4
open Int renaming reduceEq -> zI0, reduceLT -> zI1, reduceLE -> zI2, reduceNeg -> zI3
theorem FK (m:MemT):(rC [m]).map AV.d=[.d (vt m.name),.d (vb m.secret),.d (vi m.n)]:=rfl
theorem FJ (m k:MemT):(rC [m,k]).map AV.d=[.d (vt m.name),.d (vb m.secret),.d (vi m.n),.d (vt k.name),.d (vb k.secret),.d (vi k.n)]:=rfl
theorem DK:32<=Z4:=by unfold Z4;decide
theorem DX (b0 b1 b2:Blk)(v:Nat)(a b c:DV)(nm:ByteArray)(s:Bool)(n:Int):
  ZS [b0,b1,b2,.cells [.d a,.d b,.d c] v false] 3 32 (.sref 3 v 0 1 3 none) [.d (vt nm),.d (vb s),.d (vi n)] 1=some (.turn 3 (.cells [.d a,.d b,.d c,.d (vt nm),.d (vb s),.d (vi n)] (v+1) false) (.sref 3 (v+1) 0 2 3 none)):=by
 have hx:([AV.d (vt nm),AV.d (vb s),AV.d (vi n)]).all AV.one=true:=rfl
 rw[R9,if_neg (by decide),if_neg (by rw[hx];unfold Z4;simp)]
 simp
variable {E:Env} {fn:FuncId->Option (Env->cT->cT)}
section
variable (S:Sur E fn)
include S
theorem ZQ:E.lives 8 1=none/\E.lives 8 23=none/\E.lives 8 27=none/\E.lives 8 31=none/\E.lives 8 35=none/\E.lives 8 39=none:=⟨off S 8 1 (by decide) rfl,off S 8 23 (by decide) rfl,off S 8 27 (by decide) rfl,off S 8 31 (by decide) rfl,off S 8 35 (by decide) rfl,off S 8 39 (by decide) rfl⟩
theorem Zap (dp:Nat)(l:List Int):Z7 E fn (dp+4) 8 [rD l] (ZP (Md.make l)):=by
 unfold Z7
 show Zz (Z5 E fn (dp+3+1) 8 [.d (rD l)] [])=_
 rw[Yx,S.Z46,Yw,Z7r,Yq _ _ _ _ _ _ _ _ rfl]
 have sf1:∀ x:Int,x.fdiv (2^min 1 64)=Md.ZJ x 1:=fun x=>by rw[Nat.min_eq_left (by decide)];rfl
 have sf8:∀ x:Int,x.fdiv (2^min 8 64)=Md.ZJ x 8:=fun x=>by rw[Nat.min_eq_left (by decide)];rfl
 have sf10:∀ x:Int,x.fdiv (2^min 10 64)=Md.ZJ x 10:=fun x=>by rw[Nat.min_eq_left (by decide)];rfl
 have sf12:∀ x:Int,x.fdiv (2^min 12 64)=Md.ZJ x 12:=fun x=>by rw[Nat.min_eq_left (by decide)];rfl
 have r1':∀ {α:Type} (l:List α),rep l 1=l:=fun l=>by simp[rep]
 have ww:IntKind.i64.wrap (Md.Y9 (Md.kM l 0) 1+1)=Md.Z8 l:=by
  obtain⟨r,h1,h2⟩:=Md.Z3o (Md.kM l 0)
  unfold Md.Z8
  rw[h2];exact YM (by omega) (by omega)
 have wn:IntKind.i64.wrap (((Md.YB (Md.ZJ (Md.kM l 0) 1) 3:Nat):Int)+1)=(Md.YB (Md.ZJ (Md.kM l 0) 1) 3:Nat)+1:=by
  have:=Md.NB (Md.ZJ (Md.kM l 0) 1) (show 0<3 by decide)
  exact YM (by omega) (by omega)
 have wN:IntKind.i64.wrap (Md.Y9 (Md.ZJ (Md.kM l 0) 12) 3+2)=(Md.nM l:Nat):=by
  obtain⟨r,h1,h2⟩:=Md.Mz (Md.ZJ (Md.kM l 0) 12)
  unfold Md.nM
  rw[h2,Int.toNat_natCast,YM (by omega) (by omega)];rfl
 have n6:Md.nM l<6:=by
  obtain⟨r,h1,h2⟩:=Md.Mz (Md.ZJ (Md.kM l 0) 12)
  unfold Md.nM
  rw[h2,Int.toNat_natCast];omega
 have n0:0<Md.nM l:=by unfold Md.nM;omega
 simp only[eG,go_sem,Z2 S,Z1 S,zN0,zN1,zN2,zN3,zN4,zI0,zI1,zI2,zI3,reduceCtorEq,ZQ S,Int.cast_ofNat_Int,DK,l1,DX,YW,YU,YX,YY S,YZ,Dw,CW,Dz,Dx,sf1,sf8,sf10,sf12,DJ,r1',Int.reduceMul,Int.reduceAdd,Int.toNat_zero,Int.reduceToNat,zI1,zI2,and_true,true_and,and_self,JS,gt_iff_lt,ww,wn]
 rw[ZU,Z6 (on S _ _ [2,3,4,5,6,7] (by decide) rfl) rfl _ _ _ _ _ _ _ _ _ rfl]
 simp only[eG,go_sem,Z2 S,Z1 S,zN0,zN1,zN2,zN3,zN4,zI0,zI1,zI2,zI3,reduceCtorEq,ZQ S]
 rw[Zex S (dp+2) l _ _ _ (by decide)]
 have d1:∀ A i,A[i]? =some (.cells ((rC (QG (Md.nM l+1))).map .d) 0 false)->deep A 7 (.sref i 0 0 (Md.nM l+1) 2 none)=some (.lst (rC (QG (Md.nM l+1))) (Md.nM l+1) none,[i]):=
  fun A i h=>Cq h (fun e=>by have:=B2 (Md.nM l+1);rw[e] at this;simp at this) 5 _ 2 none rfl (B2 _).symm
 have d2:∀ A i,A[i]? =some (.cells ((rC (BA l (Md.nM l) (Md.nM l))).map .d) 0 false)->deep A 7 (.sref i 0 0 (Md.nM l) 9 none)=some (.lst (rC (BA l (Md.nM l) (Md.nM l))) (Md.nM l) none,[i]):=
  fun A i h=>Cq h (fun e=>by have:=Mq l (Md.nM l) (Md.nM l);rw[e] at this;simp at this;omega) 5 _ 9 none rfl (Mq _ _ _).symm
 have hl:rD (Md.make l).labels=.lst (rC (QG (Md.nM l+1))) (Md.nM l+1) none:=by
  show DV.lst (rC (QG (Md.nM l+1))) (QG (Md.nM l+1)).length none=_
  rw[B2]
 have hi:rD (Md.make l).ins=.lst (rC (BA l (Md.nM l) (Md.nM l))) (Md.nM l) none:=by
  show DV.lst (rC (BA l (Md.nM l) (Md.nM l))) (BA l (Md.nM l) (Md.nM l)).length none=_
  rw[Mq]
 by_cases a1:0<Md.Y9 (Md.ZJ (Md.kM l 1) 8) 3
 ·by_cases a2 : Md.Z8 l = 1
  ·by_cases a3 : Md.Y9 (Md.ZJ (Md.kM l 1) 10) 3 = 0
   ·skip
    by_cases a4:0<Md.Y9 (Md.ZJ (Md.kM l 1) 12) 3
    ·by_cases a5 : IntKind.i64.wrap ((Md.Qk l (Md.Z8 l)).2.2 + Md.Z8 l) <= 3
     ·have hms : Md.Qv l (Md.Z8 l) = [⟨⟨#[109]⟩, false, 2⟩] := by simp [Md.Qv, Md.JG, Md.Q5, a1, eq_true a2, eq_true a3, a4, a5]
      have d0:∀ A i,A[i]? =some (.cells ((rC ([⟨⟨#[109]⟩,false,2⟩]:List MemT)).map .d) 0 false)->deep A 7 (.sref i 0 0 1 3 none)=some (.lst (rC ([⟨⟨#[109]⟩,false,2⟩]:List MemT)) 1 none,[i]):=fun A i h=>Cq h (by simp) 5 _ 3 none rfl rfl
      have e1:=fun kx kr f hf=>G0 S (dp+1) l kx kr (Md.nM l) ([⟨⟨#[109]⟩,false,2⟩]:List MemT) (Md.Z8 l) (Md.YB (Md.ZJ (Md.kM l 0) 1) 3+1) (Md.QT l (Md.Z8 l)).1 (Md.QS l (Md.Z8 l)).1 (Md.QR l (Md.Z8 l)).1 (Md.Qk l (Md.Z8 l)).1 n0 n6 f hf
      have e2:=fun kx kr f hf=>FZ S (dp+1) l kx kr (Md.nM l) ([⟨⟨#[109]⟩,false,2⟩]:List MemT) (QG (Md.nM l+1)) (Md.Z8 l) (Md.YB (Md.ZJ (Md.kM l 0) 1) 3+1) (Md.QT l (Md.Z8 l)).1 (Md.QS l (Md.Z8 l)).1 (Md.QR l (Md.Z8 l)).1 (Md.Qk l (Md.Z8 l)).1 n0 n6 f hf
      simp only[B2] at e2
      simp only[FK,FJ,List.length_cons,List.length_nil,zN2] at e1 e2
      simp only[eG,go_sem,Z2 S,Z1 S,zN0,zN1,zN2,zN3,zN4,zI0,zI1,zI2,zI3,reduceCtorEq,ZQ S,Int.cast_ofNat_Int,DK,l1,DX,YW,YU,YX,YY S,YZ,Dw,CW,Dz,Dx,sf1,sf8,sf10,sf12,DJ,r1',Int.reduceMul,Int.reduceAdd,Int.toNat_zero,Int.reduceToNat,zI1,zI2,and_true,true_and,and_self,JS,gt_iff_lt,wN,a1,eq_true a2,eq_true a3,a4,a5]
      rw[ZU,Z6 (on S _ _ [2,3,4,8,9] (by decide) rfl) rfl _ _ _ _ _ _ _ _ _ rfl]
      simp only[eG,go_sem,Z2 S,Z1 S,zN0,zN1,zN2,zN3,zN4,zI0,zI1,zI2,zI3,reduceCtorEq,ZQ S]
      rw[e1 _ _ _ (by decide)]
      simp only[eG,go_sem,Z2 S,Z1 S,zN0,zN1,zN2,zN3,zN4,zI0,zI1,zI2,zI3,reduceCtorEq,ZQ S]
      rw[ZU,Z6 (on S _ _ [2,3,4,8,10] (by decide) rfl) rfl _ _ _ _ _ _ _ _ _ rfl]
      simp only[eG,go_sem,Z2 S,Z1 S,zN0,zN1,zN2,zN3,zN4,zI0,zI1,zI2,zI3,reduceCtorEq,ZQ S]
      rw[e2 _ _ _ (by decide)]
      simp only[eG,go_sem,Z2 S,Z1 S,zN0,zN1,zN2,zN3,zN4,zI0,zI1,zI2,zI3,reduceCtorEq,ZQ S]
      rw[d0 _ _ rfl,d1 _ _ rfl,d2 _ _ rfl]
      simp only[eG,go_sem,Z2 S,Z1 S,zN0,zN1,zN2,zN3,zN4,zI0,zI1,zI2,zI3,reduceCtorEq,ZQ S]
      rw[hl,hi,show rD (Md.make l).mems=rD ([⟨⟨#[109]⟩,false,2⟩]:List MemT) from congrArg rD hms]
      rfl
     ·have hms : Md.Qv l (Md.Z8 l) = [⟨⟨#[109]⟩, false, 2⟩] := by simp [Md.Qv, Md.JG, Md.Q5, a1, eq_true a2, eq_true a3, a4, a5]
      have d0:∀ A i,A[i]? =some (.cells ((rC ([⟨⟨#[109]⟩,false,2⟩]:List MemT)).map .d) 0 false)->deep A 7 (.sref i 0 0 1 3 none)=some (.lst (rC ([⟨⟨#[109]⟩,false,2⟩]:List MemT)) 1 none,[i]):=fun A i h=>Cq h (by simp) 5 _ 3 none rfl rfl
      have e1:=fun kx kr f hf=>G0 S (dp+1) l kx kr (Md.nM l) ([⟨⟨#[109]⟩,false,2⟩]:List MemT) (Md.Z8 l) (Md.YB (Md.ZJ (Md.kM l 0) 1) 3+1) (Md.QT l (Md.Z8 l)).1 (Md.QS l (Md.Z8 l)).1 (Md.QR l (Md.Z8 l)).1 (Md.Qk l (Md.Z8 l)).1 n0 n6 f hf
      have e2:=fun kx kr f hf=>FZ S (dp+1) l kx kr (Md.nM l) ([⟨⟨#[109]⟩,false,2⟩]:List MemT) (QG (Md.nM l+1)) (Md.Z8 l) (Md.YB (Md.ZJ (Md.kM l 0) 1) 3+1) (Md.QT l (Md.Z8 l)).1 (Md.QS l (Md.Z8 l)).1 (Md.QR l (Md.Z8 l)).1 (Md.Qk l (Md.Z8 l)).1 n0 n6 f hf
      simp only[B2] at e2
      simp only[FK,FJ,List.length_cons,List.length_nil,zN2] at e1 e2
      simp only[eG,go_sem,Z2 S,Z1 S,zN0,zN1,zN2,zN3,zN4,zI0,zI1,zI2,zI3,reduceCtorEq,ZQ S,Int.cast_ofNat_Int,DK,l1,DX,YW,YU,YX,YY S,YZ,Dw,CW,Dz,Dx,sf1,sf8,sf10,sf12,DJ,r1',Int.reduceMul,Int.reduceAdd,Int.toNat_zero,Int.reduceToNat,zI1,zI2,and_true,true_and,and_self,JS,gt_iff_lt,wN,a1,eq_true a2,eq_true a3,a4,a5]
      rw[ZU,Z6 (on S _ _ [2,3,4,8,9] (by decide) rfl) rfl _ _ _ _ _ _ _ _ _ rfl]
      simp only[eG,go_sem,Z2 S,Z1 S,zN0,zN1,zN2,zN3,zN4,zI0,zI1,zI2,zI3,reduceCtorEq,ZQ S]
      rw[e1 _ _ _ (by decide)]
      simp only[eG,go_sem,Z2 S,Z1 S,zN0,zN1,zN2,zN3,zN4,zI0,zI1,zI2,zI3,reduceCtorEq,ZQ S]
      rw[ZU,Z6 (on S _ _ [2,3,4,8,10] (by decide) rfl) rfl _ _ _ _ _ _ _ _ _ rfl]
      simp only[eG,go_sem,Z2 S,Z1 S,zN0,zN1,zN2,zN3,zN4,zI0,zI1,zI2,zI3,reduceCtorEq,ZQ S]
      rw[e2 _ _ _ (by decide)]
      simp only[eG,go_sem,Z2 S,Z1 S,zN0,zN1,zN2,zN3,zN4,zI0,zI1,zI2,zI3,reduceCtorEq,ZQ S]
      rw[d0 _ _ rfl,d1 _ _ rfl,d2 _ _ rfl]
      simp only[eG,go_sem,Z2 S,Z1 S,zN0,zN1,zN2,zN3,zN4,zI0,zI1,zI2,zI3,reduceCtorEq,ZQ S]
      rw[hl,hi,show rD (Md.make l).mems=rD ([⟨⟨#[109]⟩,false,2⟩]:List MemT) from congrArg rD hms]
      rfl
    ·have hms : Md.Qv l (Md.Z8 l) = [⟨⟨#[109]⟩, false, 2⟩] := by simp [Md.Qv, Md.JG, Md.Q5, a1, eq_true a2, eq_true a3, a4]
     have d0:∀ A i,A[i]? =some (.cells ((rC ([⟨⟨#[109]⟩,false,2⟩]:List MemT)).map .d) 0 false)->deep A 7 (.sref i 0 0 1 3 none)=some (.lst (rC ([⟨⟨#[109]⟩,false,2⟩]:List MemT)) 1 none,[i]):=fun A i h=>Cq h (by simp) 5 _ 3 none rfl rfl
     have e1:=fun kx kr f hf=>G0 S (dp+1) l kx kr (Md.nM l) ([⟨⟨#[109]⟩,false,2⟩]:List MemT) (Md.Z8 l) (Md.YB (Md.ZJ (Md.kM l 0) 1) 3+1) (Md.QT l (Md.Z8 l)).1 (Md.QS l (Md.Z8 l)).1 (Md.QR l (Md.Z8 l)).1 (Md.Qk l (Md.Z8 l)).1 n0 n6 f hf
     have e2:=fun kx kr f hf=>FZ S (dp+1) l kx kr (Md.nM l) ([⟨⟨#[109]⟩,false,2⟩]:List MemT) (QG (Md.nM l+1)) (Md.Z8 l) (Md.YB (Md.ZJ (Md.kM l 0) 1) 3+1) (Md.QT l (Md.Z8 l)).1 (Md.QS l (Md.Z8 l)).1 (Md.QR l (Md.Z8 l)).1 (Md.Qk l (Md.Z8 l)).1 n0 n6 f hf
     simp only[B2] at e2
     simp only[FK,FJ,List.length_cons,List.length_nil,zN2] at e1 e2
     simp only[eG,go_sem,Z2 S,Z1 S,zN0,zN1,zN2,zN3,zN4,zI0,zI1,zI2,zI3,reduceCtorEq,ZQ S,Int.cast_ofNat_Int,DK,l1,DX,YW,YU,YX,YY S,YZ,Dw,CW,Dz,Dx,sf1,sf8,sf10,sf12,DJ,r1',Int.reduceMul,Int.reduceAdd,Int.toNat_zero,Int.reduceToNat,zI1,zI2,and_true,true_and,and_self,JS,gt_iff_lt,wN,a1,eq_true a2,eq_true a3,a4]
     rw[ZU,Z6 (on S _ _ [2,3,4,8,9] (by decide) rfl) rfl _ _ _ _ _ _ _ _ _ rfl]
     simp only[eG,go_sem,Z2 S,Z1 S,zN0,zN1,zN2,zN3,zN4,zI0,zI1,zI2,zI3,reduceCtorEq,ZQ S]
     rw[e1 _ _ _ (by decide)]
     simp only[eG,go_sem,Z2 S,Z1 S,zN0,zN1,zN2,zN3,zN4,zI0,zI1,zI2,zI3,reduceCtorEq,ZQ S]
     rw[ZU,Z6 (on S _ _ [2,3,4,8,10] (by decide) rfl) rfl _ _ _ _ _ _ _ _ _ rfl]
     simp only[eG,go_sem,Z2 S,Z1 S,zN0,zN1,zN2,zN3,zN4,zI0,zI1,zI2,zI3,reduceCtorEq,ZQ S]
     rw[e2 _ _ _ (by decide)]
     simp only[eG,go_sem,Z2 S,Z1 S,zN0,zN1,zN2,zN3,zN4,zI0,zI1,zI2,zI3,reduceCtorEq,ZQ S]
     rw[d0 _ _ rfl,d1 _ _ rfl,d2 _ _ rfl]
     simp only[eG,go_sem,Z2 S,Z1 S,zN0,zN1,zN2,zN3,zN4,zI0,zI1,zI2,zI3,reduceCtorEq,ZQ S]
     rw[hl,hi,show rD (Md.make l).mems=rD ([⟨⟨#[109]⟩,false,2⟩]:List MemT) from congrArg rD hms]
     rfl
   ·skip
    by_cases a4:0<Md.Y9 (Md.ZJ (Md.kM l 1) 12) 3
    ·by_cases a5 : IntKind.i64.wrap ((Md.Qk l (Md.Z8 l)).2.2 + Md.Z8 l) <= 3
     ·have hms : Md.Qv l (Md.Z8 l) = [⟨⟨#[109]⟩, false, 1⟩, ⟨⟨#[115]⟩, true, 1⟩] := by simp [Md.Qv, Md.JG, Md.Q5, a1, eq_true a2, a3, a4, a5]
      have d0:∀ A i,A[i]? =some (.cells ((rC ([⟨⟨#[109]⟩,false,1⟩,⟨⟨#[115]⟩,true,1⟩]:List MemT)).map .d) 0 false)->deep A 7 (.sref i 0 0 2 3 none)=some (.lst (rC ([⟨⟨#[109]⟩,false,1⟩,⟨⟨#[115]⟩,true,1⟩]:List MemT)) 2 none,[i]):=fun A i h=>Cq h (by simp) 5 _ 3 none rfl rfl
      have e1:=fun kx kr f hf=>G0 S (dp+1) l kx kr (Md.nM l) ([⟨⟨#[109]⟩,false,1⟩,⟨⟨#[115]⟩,true,1⟩]:List MemT) (Md.Z8 l) (Md.YB (Md.ZJ (Md.kM l 0) 1) 3+1) (Md.QT l (Md.Z8 l)).1 (Md.QS l (Md.Z8 l)).1 (Md.QR l (Md.Z8 l)).1 (Md.Qk l (Md.Z8 l)).1 n0 n6 f hf
      have e2:=fun kx kr f hf=>FZ S (dp+1) l kx kr (Md.nM l) ([⟨⟨#[109]⟩,false,1⟩,⟨⟨#[115]⟩,true,1⟩]:List MemT) (QG (Md.nM l+1)) (Md.Z8 l) (Md.YB (Md.ZJ (Md.kM l 0) 1) 3+1) (Md.QT l (Md.Z8 l)).1 (Md.QS l (Md.Z8 l)).1 (Md.QR l (Md.Z8 l)).1 (Md.Qk l (Md.Z8 l)).1 n0 n6 f hf
      simp only[B2] at e2
      simp only[FK,FJ,List.length_cons,List.length_nil,zN2] at e1 e2
      simp only[eG,go_sem,Z2 S,Z1 S,zN0,zN1,zN2,zN3,zN4,zI0,zI1,zI2,zI3,reduceCtorEq,ZQ S,Int.cast_ofNat_Int,DK,l1,DX,YW,YU,YX,YY S,YZ,Dw,CW,Dz,Dx,sf1,sf8,sf10,sf12,DJ,r1',Int.reduceMul,Int.reduceAdd,Int.toNat_zero,Int.reduceToNat,zI1,zI2,and_true,true_and,and_self,JS,gt_iff_lt,wN,a1,eq_true a2,a3,a4,a5]
      rw[ZU,Z6 (on S _ _ [2,3,4,8,9] (by decide) rfl) rfl _ _ _ _ _ _ _ _ _ rfl]
      simp only[eG,go_sem,Z2 S,Z1 S,zN0,zN1,zN2,zN3,zN4,zI0,zI1,zI2,zI3,reduceCtorEq,ZQ S]
      rw[e1 _ _ _ (by decide)]
      simp only[eG,go_sem,Z2 S,Z1 S,zN0,zN1,zN2,zN3,zN4,zI0,zI1,zI2,zI3,reduceCtorEq,ZQ S]
      rw[ZU,Z6 (on S _ _ [2,3,4,8,10] (by decide) rfl) rfl _ _ _ _ _ _ _ _ _ rfl]
      simp only[eG,go_sem,Z2 S,Z1 S,zN0,zN1,zN2,zN3,zN4,zI0,zI1,zI2,zI3,reduceCtorEq,ZQ S]
      rw[e2 _ _ _ (by decide)]
      simp only[eG,go_sem,Z2 S,Z1 S,zN0,zN1,zN2,zN3,zN4,zI0,zI1,zI2,zI3,reduceCtorEq,ZQ S]
      rw[d0 _ _ rfl,d1 _ _ rfl,d2 _ _ rfl]
      simp only[eG,go_sem,Z2 S,Z1 S,zN0,zN1,zN2,zN3,zN4,zI0,zI1,zI2,zI3,reduceCtorEq,ZQ S]
      rw[hl,hi,show rD (Md.make l).mems=rD ([⟨⟨#[109]⟩,false,1⟩,⟨⟨#[115]⟩,true,1⟩]:List MemT) from congrArg rD hms]
      rfl
     ·have hms : Md.Qv l (Md.Z8 l) = [⟨⟨#[109]⟩, false, 1⟩] := by simp [Md.Qv, Md.JG, Md.Q5, a1, eq_true a2, a3, a4, a5]
      have d0:∀ A i,A[i]? =some (.cells ((rC ([⟨⟨#[109]⟩,false,1⟩]:List MemT)).map .d) 0 false)->deep A 7 (.sref i 0 0 1 3 none)=some (.lst (rC ([⟨⟨#[109]⟩,false,1⟩]:List MemT)) 1 none,[i]):=fun A i h=>Cq h (by simp) 5 _ 3 none rfl rfl
      have e1:=fun kx kr f hf=>G0 S (dp+1) l kx kr (Md.nM l) ([⟨⟨#[109]⟩,false,1⟩]:List MemT) (Md.Z8 l) (Md.YB (Md.ZJ (Md.kM l 0) 1) 3+1) (Md.QT l (Md.Z8 l)).1 (Md.QS l (Md.Z8 l)).1 (Md.QR l (Md.Z8 l)).1 (Md.Qk l (Md.Z8 l)).1 n0 n6 f hf
      have e2:=fun kx kr f hf=>FZ S (dp+1) l kx kr (Md.nM l) ([⟨⟨#[109]⟩,false,1⟩]:List MemT) (QG (Md.nM l+1)) (Md.Z8 l) (Md.YB (Md.ZJ (Md.kM l 0) 1) 3+1) (Md.QT l (Md.Z8 l)).1 (Md.QS l (Md.Z8 l)).1 (Md.QR l (Md.Z8 l)).1 (Md.Qk l (Md.Z8 l)).1 n0 n6 f hf
      simp only[B2] at e2
      simp only[FK,FJ,List.length_cons,List.length_nil,zN2] at e1 e2
      simp only[eG,go_sem,Z2 S,Z1 S,zN0,zN1,zN2,zN3,zN4,zI0,zI1,zI2,zI3,reduceCtorEq,ZQ S,Int.cast_ofNat_Int,DK,l1,DX,YW,YU,YX,YY S,YZ,Dw,CW,Dz,Dx,sf1,sf8,sf10,sf12,DJ,r1',Int.reduceMul,Int.reduceAdd,Int.toNat_zero,Int.reduceToNat,zI1,zI2,and_true,true_and,and_self,JS,gt_iff_lt,wN,a1,eq_true a2,a3,a4,a5]
      rw[ZU,Z6 (on S _ _ [2,3,4,8,9] (by decide) rfl) rfl _ _ _ _ _ _ _ _ _ rfl]
      simp only[eG,go_sem,Z2 S,Z1 S,zN0,zN1,zN2,zN3,zN4,zI0,zI1,zI2,zI3,reduceCtorEq,ZQ S]
      rw[e1 _ _ _ (by decide)]
      simp only[eG,go_sem,Z2 S,Z1 S,zN0,zN1,zN2,zN3,zN4,zI0,zI1,zI2,zI3,reduceCtorEq,ZQ S]
      rw[ZU,Z6 (on S _ _ [2,3,4,8,10] (by decide) rfl) rfl _ _ _ _ _ _ _ _ _ rfl]
      simp only[eG,go_sem,Z2 S,Z1 S,zN0,zN1,zN2,zN3,zN4,zI0,zI1,zI2,zI3,reduceCtorEq,ZQ S]
      rw[e2 _ _ _ (by decide)]
      simp only[eG,go_sem,Z2 S,Z1 S,zN0,zN1,zN2,zN3,zN4,zI0,zI1,zI2,zI3,reduceCtorEq,ZQ S]
      rw[d0 _ _ rfl,d1 _ _ rfl,d2 _ _ rfl]
      simp only[eG,go_sem,Z2 S,Z1 S,zN0,zN1,zN2,zN3,zN4,zI0,zI1,zI2,zI3,reduceCtorEq,ZQ S]
      rw[hl,hi,show rD (Md.make l).mems=rD ([⟨⟨#[109]⟩,false,1⟩]:List MemT) from congrArg rD hms]
      rfl
    ·have hms : Md.Qv l (Md.Z8 l) = [⟨⟨#[109]⟩, false, 1⟩] := by simp [Md.Qv, Md.JG, Md.Q5, a1, eq_true a2, a3, a4]
     have d0:∀ A i,A[i]? =some (.cells ((rC ([⟨⟨#[109]⟩,false,1⟩]:List MemT)).map .d) 0 false)->deep A 7 (.sref i 0 0 1 3 none)=some (.lst (rC ([⟨⟨#[109]⟩,false,1⟩]:List MemT)) 1 none,[i]):=fun A i h=>Cq h (by simp) 5 _ 3 none rfl rfl
     have e1:=fun kx kr f hf=>G0 S (dp+1) l kx kr (Md.nM l) ([⟨⟨#[109]⟩,false,1⟩]:List MemT) (Md.Z8 l) (Md.YB (Md.ZJ (Md.kM l 0) 1) 3+1) (Md.QT l (Md.Z8 l)).1 (Md.QS l (Md.Z8 l)).1 (Md.QR l (Md.Z8 l)).1 (Md.Qk l (Md.Z8 l)).1 n0 n6 f hf
     have e2:=fun kx kr f hf=>FZ S (dp+1) l kx kr (Md.nM l) ([⟨⟨#[109]⟩,false,1⟩]:List MemT) (QG (Md.nM l+1)) (Md.Z8 l) (Md.YB (Md.ZJ (Md.kM l 0) 1) 3+1) (Md.QT l (Md.Z8 l)).1 (Md.QS l (Md.Z8 l)).1 (Md.QR l (Md.Z8 l)).1 (Md.Qk l (Md.Z8 l)).1 n0 n6 f hf
     simp only[B2] at e2
     simp only[FK,FJ,List.length_cons,List.length_nil,zN2] at e1 e2
     simp only[eG,go_sem,Z2 S,Z1 S,zN0,zN1,zN2,zN3,zN4,zI0,zI1,zI2,zI3,reduceCtorEq,ZQ S,Int.cast_ofNat_Int,DK,l1,DX,YW,YU,YX,YY S,YZ,Dw,CW,Dz,Dx,sf1,sf8,sf10,sf12,DJ,r1',Int.reduceMul,Int.reduceAdd,Int.toNat_zero,Int.reduceToNat,zI1,zI2,and_true,true_and,and_self,JS,gt_iff_lt,wN,a1,eq_true a2,a3,a4]
     rw[ZU,Z6 (on S _ _ [2,3,4,8,9] (by decide) rfl) rfl _ _ _ _ _ _ _ _ _ rfl]
     simp only[eG,go_sem,Z2 S,Z1 S,zN0,zN1,zN2,zN3,zN4,zI0,zI1,zI2,zI3,reduceCtorEq,ZQ S]
     rw[e1 _ _ _ (by decide)]
     simp only[eG,go_sem,Z2 S,Z1 S,zN0,zN1,zN2,zN3,zN4,zI0,zI1,zI2,zI3,reduceCtorEq,ZQ S]
     rw[ZU,Z6 (on S _ _ [2,3,4,8,10] (by decide) rfl) rfl _ _ _ _ _ _ _ _ _ rfl]
     simp only[eG,go_sem,Z2 S,Z1 S,zN0,zN1,zN2,zN3,zN4,zI0,zI1,zI2,zI3,reduceCtorEq,ZQ S]
     rw[e2 _ _ _ (by decide)]
     simp only[eG,go_sem,Z2 S,Z1 S,zN0,zN1,zN2,zN3,zN4,zI0,zI1,zI2,zI3,reduceCtorEq,ZQ S]
     rw[d0 _ _ rfl,d1 _ _ rfl,d2 _ _ rfl]
     simp only[eG,go_sem,Z2 S,Z1 S,zN0,zN1,zN2,zN3,zN4,zI0,zI1,zI2,zI3,reduceCtorEq,ZQ S]
     rw[hl,hi,show rD (Md.make l).mems=rD ([⟨⟨#[109]⟩,false,1⟩]:List MemT) from congrArg rD hms]
     rfl
  ·skip
   by_cases a4:0<Md.Y9 (Md.ZJ (Md.kM l 1) 12) 3
   ·by_cases a5 : IntKind.i64.wrap ((Md.Qk l (Md.Z8 l)).2.2 + Md.Z8 l) <= 3
    ·have hms : Md.Qv l (Md.Z8 l) = [⟨⟨#[109]⟩, false, 1⟩, ⟨⟨#[115]⟩, true, 1⟩] := by simp [Md.Qv, Md.JG, Md.Q5, a1, a2, a4, a5]
     have d0:∀ A i,A[i]? =some (.cells ((rC ([⟨⟨#[109]⟩,false,1⟩,⟨⟨#[115]⟩,true,1⟩]:List MemT)).map .d) 0 false)->deep A 7 (.sref i 0 0 2 3 none)=some (.lst (rC ([⟨⟨#[109]⟩,false,1⟩,⟨⟨#[115]⟩,true,1⟩]:List MemT)) 2 none,[i]):=fun A i h=>Cq h (by simp) 5 _ 3 none rfl rfl
     have e1:=fun kx kr f hf=>G0 S (dp+1) l kx kr (Md.nM l) ([⟨⟨#[109]⟩,false,1⟩,⟨⟨#[115]⟩,true,1⟩]:List MemT) (Md.Z8 l) (Md.YB (Md.ZJ (Md.kM l 0) 1) 3+1) (Md.QT l (Md.Z8 l)).1 (Md.QS l (Md.Z8 l)).1 (Md.QR l (Md.Z8 l)).1 (Md.Qk l (Md.Z8 l)).1 n0 n6 f hf
     have e2:=fun kx kr f hf=>FZ S (dp+1) l kx kr (Md.nM l) ([⟨⟨#[109]⟩,false,1⟩,⟨⟨#[115]⟩,true,1⟩]:List MemT) (QG (Md.nM l+1)) (Md.Z8 l) (Md.YB (Md.ZJ (Md.kM l 0) 1) 3+1) (Md.QT l (Md.Z8 l)).1 (Md.QS l (Md.Z8 l)).1 (Md.QR l (Md.Z8 l)).1 (Md.Qk l (Md.Z8 l)).1 n0 n6 f hf
     simp only[B2] at e2
     simp only[FK,FJ,List.length_cons,List.length_nil,zN2] at e1 e2
     simp only[eG,go_sem,Z2 S,Z1 S,zN0,zN1,zN2,zN3,zN4,zI0,zI1,zI2,zI3,reduceCtorEq,ZQ S,Int.cast_ofNat_Int,DK,l1,DX,YW,YU,YX,YY S,YZ,Dw,CW,Dz,Dx,sf1,sf8,sf10,sf12,DJ,r1',Int.reduceMul,Int.reduceAdd,Int.toNat_zero,Int.reduceToNat,zI1,zI2,and_true,true_and,and_self,JS,gt_iff_lt,wN,a1,a2,a4,a5]
     rw[ZU,Z6 (on S _ _ [2,3,4,8,9] (by decide) rfl) rfl _ _ _ _ _ _ _ _ _ rfl]
     simp only[eG,go_sem,Z2 S,Z1 S,zN0,zN1,zN2,zN3,zN4,zI0,zI1,zI2,zI3,reduceCtorEq,ZQ S]
     rw[e1 _ _ _ (by decide)]
     simp only[eG,go_sem,Z2 S,Z1 S,zN0,zN1,zN2,zN3,zN4,zI0,zI1,zI2,zI3,reduceCtorEq,ZQ S]
     rw[ZU,Z6 (on S _ _ [2,3,4,8,10] (by decide) rfl) rfl _ _ _ _ _ _ _ _ _ rfl]
     simp only[eG,go_sem,Z2 S,Z1 S,zN0,zN1,zN2,zN3,zN4,zI0,zI1,zI2,zI3,reduceCtorEq,ZQ S]
     rw[e2 _ _ _ (by decide)]
     simp only[eG,go_sem,Z2 S,Z1 S,zN0,zN1,zN2,zN3,zN4,zI0,zI1,zI2,zI3,reduceCtorEq,ZQ S]
     rw[d0 _ _ rfl,d1 _ _ rfl,d2 _ _ rfl]
     simp only[eG,go_sem,Z2 S,Z1 S,zN0,zN1,zN2,zN3,zN4,zI0,zI1,zI2,zI3,reduceCtorEq,ZQ S]
     rw[hl,hi,show rD (Md.make l).mems=rD ([⟨⟨#[109]⟩,false,1⟩,⟨⟨#[115]⟩,true,1⟩]:List MemT) from congrArg rD hms]
     rfl
    ·have hms : Md.Qv l (Md.Z8 l) = [⟨⟨#[109]⟩, false, 1⟩] := by simp [Md.Qv, Md.JG, Md.Q5, a1, a2, a4, a5]
     have d0:∀ A i,A[i]? =some (.cells ((rC ([⟨⟨#[109]⟩,false,1⟩]:List MemT)).map .d) 0 false)->deep A 7 (.sref i 0 0 1 3 none)=some (.lst (rC ([⟨⟨#[109]⟩,false,1⟩]:List MemT)) 1 none,[i]):=fun A i h=>Cq h (by simp) 5 _ 3 none rfl rfl
     have e1:=fun kx kr f hf=>G0 S (dp+1) l kx kr (Md.nM l) ([⟨⟨#[109]⟩,false,1⟩]:List MemT) (Md.Z8 l) (Md.YB (Md.ZJ (Md.kM l 0) 1) 3+1) (Md.QT l (Md.Z8 l)).1 (Md.QS l (Md.Z8 l)).1 (Md.QR l (Md.Z8 l)).1 (Md.Qk l (Md.Z8 l)).1 n0 n6 f hf
     have e2:=fun kx kr f hf=>FZ S (dp+1) l kx kr (Md.nM l) ([⟨⟨#[109]⟩,false,1⟩]:List MemT) (QG (Md.nM l+1)) (Md.Z8 l) (Md.YB (Md.ZJ (Md.kM l 0) 1) 3+1) (Md.QT l (Md.Z8 l)).1 (Md.QS l (Md.Z8 l)).1 (Md.QR l (Md.Z8 l)).1 (Md.Qk l (Md.Z8 l)).1 n0 n6 f hf
     simp only[B2] at e2
     simp only[FK,FJ,List.length_cons,List.length_nil,zN2] at e1 e2
     simp only[eG,go_sem,Z2 S,Z1 S,zN0,zN1,zN2,zN3,zN4,zI0,zI1,zI2,zI3,reduceCtorEq,ZQ S,Int.cast_ofNat_Int,DK,l1,DX,YW,YU,YX,YY S,YZ,Dw,CW,Dz,Dx,sf1,sf8,sf10,sf12,DJ,r1',Int.reduceMul,Int.reduceAdd,Int.toNat_zero,Int.reduceToNat,zI1,zI2,and_true,true_and,and_self,JS,gt_iff_lt,wN,a1,a2,a4,a5]
     rw[ZU,Z6 (on S _ _ [2,3,4,8,9] (by decide) rfl) rfl _ _ _ _ _ _ _ _ _ rfl]
     simp only[eG,go_sem,Z2 S,Z1 S,zN0,zN1,zN2,zN3,zN4,zI0,zI1,zI2,zI3,reduceCtorEq,ZQ S]
     rw[e1 _ _ _ (by decide)]
     simp only[eG,go_sem,Z2 S,Z1 S,zN0,zN1,zN2,zN3,zN4,zI0,zI1,zI2,zI3,reduceCtorEq,ZQ S]
     rw[ZU,Z6 (on S _ _ [2,3,4,8,10] (by decide) rfl) rfl _ _ _ _ _ _ _ _ _ rfl]
     simp only[eG,go_sem,Z2 S,Z1 S,zN0,zN1,zN2,zN3,zN4,zI0,zI1,zI2,zI3,reduceCtorEq,ZQ S]
     rw[e2 _ _ _ (by decide)]
     simp only[eG,go_sem,Z2 S,Z1 S,zN0,zN1,zN2,zN3,zN4,zI0,zI1,zI2,zI3,reduceCtorEq,ZQ S]
     rw[d0 _ _ rfl,d1 _ _ rfl,d2 _ _ rfl]
     simp only[eG,go_sem,Z2 S,Z1 S,zN0,zN1,zN2,zN3,zN4,zI0,zI1,zI2,zI3,reduceCtorEq,ZQ S]
     rw[hl,hi,show rD (Md.make l).mems=rD ([⟨⟨#[109]⟩,false,1⟩]:List MemT) from congrArg rD hms]
     rfl
   ·have hms : Md.Qv l (Md.Z8 l) = [⟨⟨#[109]⟩, false, 1⟩] := by simp [Md.Qv, Md.JG, Md.Q5, a1, a2, a4]
    have d0:∀ A i,A[i]? =some (.cells ((rC ([⟨⟨#[109]⟩,false,1⟩]:List MemT)).map .d) 0 false)->deep A 7 (.sref i 0 0 1 3 none)=some (.lst (rC ([⟨⟨#[109]⟩,false,1⟩]:List MemT)) 1 none,[i]):=fun A i h=>Cq h (by simp) 5 _ 3 none rfl rfl
    have e1:=fun kx kr f hf=>G0 S (dp+1) l kx kr (Md.nM l) ([⟨⟨#[109]⟩,false,1⟩]:List MemT) (Md.Z8 l) (Md.YB (Md.ZJ (Md.kM l 0) 1) 3+1) (Md.QT l (Md.Z8 l)).1 (Md.QS l (Md.Z8 l)).1 (Md.QR l (Md.Z8 l)).1 (Md.Qk l (Md.Z8 l)).1 n0 n6 f hf
    have e2:=fun kx kr f hf=>FZ S (dp+1) l kx kr (Md.nM l) ([⟨⟨#[109]⟩,false,1⟩]:List MemT) (QG (Md.nM l+1)) (Md.Z8 l) (Md.YB (Md.ZJ (Md.kM l 0) 1) 3+1) (Md.QT l (Md.Z8 l)).1 (Md.QS l (Md.Z8 l)).1 (Md.QR l (Md.Z8 l)).1 (Md.Qk l (Md.Z8 l)).1 n0 n6 f hf
    simp only[B2] at e2
    simp only[FK,FJ,List.length_cons,List.length_nil,zN2] at e1 e2
    simp only[eG,go_sem,Z2 S,Z1 S,zN0,zN1,zN2,zN3,zN4,zI0,zI1,zI2,zI3,reduceCtorEq,ZQ S,Int.cast_ofNat_Int,DK,l1,DX,YW,YU,YX,YY S,YZ,Dw,CW,Dz,Dx,sf1,sf8,sf10,sf12,DJ,r1',Int.reduceMul,Int.reduceAdd,Int.toNat_zero,Int.reduceToNat,zI1,zI2,and_true,true_and,and_self,JS,gt_iff_lt,wN,a1,a2,a4]
    rw[ZU,Z6 (on S _ _ [2,3,4,8,9] (by decide) rfl) rfl _ _ _ _ _ _ _ _ _ rfl]
    simp only[eG,go_sem,Z2 S,Z1 S,zN0,zN1,zN2,zN3,zN4,zI0,zI1,zI2,zI3,reduceCtorEq,ZQ S]
    rw[e1 _ _ _ (by decide)]
    simp only[eG,go_sem,Z2 S,Z1 S,zN0,zN1,zN2,zN3,zN4,zI0,zI1,zI2,zI3,reduceCtorEq,ZQ S]
    rw[ZU,Z6 (on S _ _ [2,3,4,8,10] (by decide) rfl) rfl _ _ _ _ _ _ _ _ _ rfl]
    simp only[eG,go_sem,Z2 S,Z1 S,zN0,zN1,zN2,zN3,zN4,zI0,zI1,zI2,zI3,reduceCtorEq,ZQ S]
    rw[e2 _ _ _ (by decide)]
    simp only[eG,go_sem,Z2 S,Z1 S,zN0,zN1,zN2,zN3,zN4,zI0,zI1,zI2,zI3,reduceCtorEq,ZQ S]
    rw[d0 _ _ rfl,d1 _ _ rfl,d2 _ _ rfl]
    simp only[eG,go_sem,Z2 S,Z1 S,zN0,zN1,zN2,zN3,zN4,zI0,zI1,zI2,zI3,reduceCtorEq,ZQ S]
    rw[hl,hi,show rD (Md.make l).mems=rD ([⟨⟨#[109]⟩,false,1⟩]:List MemT) from congrArg rD hms]
    rfl
 ·skip
  by_cases a4:0<Md.Y9 (Md.ZJ (Md.kM l 1) 12) 3
  ·by_cases a5 : IntKind.i64.wrap ((Md.Qk l (Md.Z8 l)).2.2 + Md.Z8 l) <= 3
   ·have hms : Md.Qv l (Md.Z8 l) = [⟨⟨#[115]⟩, true, 1⟩] := by simp [Md.Qv, Md.JG, Md.Q5, a1, a4, a5]
    have d0:∀ A i,A[i]? =some (.cells ((rC ([⟨⟨#[115]⟩,true,1⟩]:List MemT)).map .d) 0 false)->deep A 7 (.sref i 0 0 1 3 none)=some (.lst (rC ([⟨⟨#[115]⟩,true,1⟩]:List MemT)) 1 none,[i]):=fun A i h=>Cq h (by simp) 5 _ 3 none rfl rfl
    have e1:=fun kx kr f hf=>G0 S (dp+1) l kx kr (Md.nM l) ([⟨⟨#[115]⟩,true,1⟩]:List MemT) (Md.Z8 l) (Md.YB (Md.ZJ (Md.kM l 0) 1) 3+1) (Md.QT l (Md.Z8 l)).1 (Md.QS l (Md.Z8 l)).1 (Md.QR l (Md.Z8 l)).1 (Md.Qk l (Md.Z8 l)).1 n0 n6 f hf
    have e2:=fun kx kr f hf=>FZ S (dp+1) l kx kr (Md.nM l) ([⟨⟨#[115]⟩,true,1⟩]:List MemT) (QG (Md.nM l+1)) (Md.Z8 l) (Md.YB (Md.ZJ (Md.kM l 0) 1) 3+1) (Md.QT l (Md.Z8 l)).1 (Md.QS l (Md.Z8 l)).1 (Md.QR l (Md.Z8 l)).1 (Md.Qk l (Md.Z8 l)).1 n0 n6 f hf
    simp only[B2] at e2
    simp only[FK,FJ,List.length_cons,List.length_nil,zN2] at e1 e2
    simp only[eG,go_sem,Z2 S,Z1 S,zN0,zN1,zN2,zN3,zN4,zI0,zI1,zI2,zI3,reduceCtorEq,ZQ S,Int.cast_ofNat_Int,DK,l1,DX,YW,YU,YX,YY S,YZ,Dw,CW,Dz,Dx,sf1,sf8,sf10,sf12,DJ,r1',Int.reduceMul,Int.reduceAdd,Int.toNat_zero,Int.reduceToNat,zI1,zI2,and_true,true_and,and_self,JS,gt_iff_lt,wN,a1,a4,a5]
    rw[ZU,Z6 (on S _ _ [2,3,4,8,9] (by decide) rfl) rfl _ _ _ _ _ _ _ _ _ rfl]
    simp only[eG,go_sem,Z2 S,Z1 S,zN0,zN1,zN2,zN3,zN4,zI0,zI1,zI2,zI3,reduceCtorEq,ZQ S]
    rw[e1 _ _ _ (by decide)]
    simp only[eG,go_sem,Z2 S,Z1 S,zN0,zN1,zN2,zN3,zN4,zI0,zI1,zI2,zI3,reduceCtorEq,ZQ S]
    rw[ZU,Z6 (on S _ _ [2,3,4,8,10] (by decide) rfl) rfl _ _ _ _ _ _ _ _ _ rfl]
    simp only[eG,go_sem,Z2 S,Z1 S,zN0,zN1,zN2,zN3,zN4,zI0,zI1,zI2,zI3,reduceCtorEq,ZQ S]
    rw[e2 _ _ _ (by decide)]
    simp only[eG,go_sem,Z2 S,Z1 S,zN0,zN1,zN2,zN3,zN4,zI0,zI1,zI2,zI3,reduceCtorEq,ZQ S]
    rw[d0 _ _ rfl,d1 _ _ rfl,d2 _ _ rfl]
    simp only[eG,go_sem,Z2 S,Z1 S,zN0,zN1,zN2,zN3,zN4,zI0,zI1,zI2,zI3,reduceCtorEq,ZQ S]
    rw[hl,hi,show rD (Md.make l).mems=rD ([⟨⟨#[115]⟩,true,1⟩]:List MemT) from congrArg rD hms]
    rfl
   ·have hms : Md.Qv l (Md.Z8 l) = [] := by simp [Md.Qv, Md.JG, Md.Q5, a1, a4, a5]
    have e1:=fun kx kr f hf=>Z30 S (dp+1) l kx kr (Md.nM l) (Md.Z8 l) (Md.YB (Md.ZJ (Md.kM l 0) 1) 3+1) (Md.QT l (Md.Z8 l)).1 (Md.QS l (Md.Z8 l)).1 (Md.QR l (Md.Z8 l)).1 (Md.Qk l (Md.Z8 l)).1 n0 n6 f hf
    have e2:=fun kx kr f hf=>Z2z S (dp+1) l kx kr (Md.nM l) (QG (Md.nM l+1)) (Md.Z8 l) (Md.YB (Md.ZJ (Md.kM l 0) 1) 3+1) (Md.QT l (Md.Z8 l)).1 (Md.QS l (Md.Z8 l)).1 (Md.QR l (Md.Z8 l)).1 (Md.Qk l (Md.Z8 l)).1 n0 n6 f hf
    simp only[B2] at e2
    simp only[eG,go_sem,Z2 S,Z1 S,zN0,zN1,zN2,zN3,zN4,zI0,zI1,zI2,zI3,reduceCtorEq,ZQ S,Int.cast_ofNat_Int,DK,l1,DX,YW,YU,YX,YY S,YZ,Dw,CW,Dz,Dx,sf1,sf8,sf10,sf12,DJ,r1',Int.reduceMul,Int.reduceAdd,Int.toNat_zero,Int.reduceToNat,zI1,zI2,and_true,true_and,and_self,JS,gt_iff_lt,wN,a1,a4,a5]
    rw[ZU,Z6 (on S _ _ [2,3,4,8,9] (by decide) rfl) rfl _ _ _ _ _ _ _ _ _ rfl]
    simp only[eG,go_sem,Z2 S,Z1 S,zN0,zN1,zN2,zN3,zN4,zI0,zI1,zI2,zI3,reduceCtorEq,ZQ S]
    rw[e1 _ _ _ (by decide)]
    simp only[eG,go_sem,Z2 S,Z1 S,zN0,zN1,zN2,zN3,zN4,zI0,zI1,zI2,zI3,reduceCtorEq,ZQ S]
    rw[ZU,Z6 (on S _ _ [2,3,4,8,10] (by decide) rfl) rfl _ _ _ _ _ _ _ _ _ rfl]
    simp only[eG,go_sem,Z2 S,Z1 S,zN0,zN1,zN2,zN3,zN4,zI0,zI1,zI2,zI3,reduceCtorEq,ZQ S]
    rw[e2 _ _ _ (by decide)]
    simp only[eG,go_sem,Z2 S,Z1 S,zN0,zN1,zN2,zN3,zN4,zI0,zI1,zI2,zI3,reduceCtorEq,ZQ S]
    rw[d1 _ _ rfl,d2 _ _ rfl]
    simp only[eG,go_sem,Z2 S,Z1 S,zN0,zN1,zN2,zN3,zN4,zI0,zI1,zI2,zI3,reduceCtorEq,ZQ S]
    rw[hl,hi,show rD (Md.make l).mems=rD ([]:List MemT) from congrArg rD hms]
    rfl
  ·have hms : Md.Qv l (Md.Z8 l) = [] := by simp [Md.Qv, Md.JG, Md.Q5, a1, a4]
   have e1:=fun kx kr f hf=>Z30 S (dp+1) l kx kr (Md.nM l) (Md.Z8 l) (Md.YB (Md.ZJ (Md.kM l 0) 1) 3+1) (Md.QT l (Md.Z8 l)).1 (Md.QS l (Md.Z8 l)).1 (Md.QR l (Md.Z8 l)).1 (Md.Qk l (Md.Z8 l)).1 n0 n6 f hf
   have e2:=fun kx kr f hf=>Z2z S (dp+1) l kx kr (Md.nM l) (QG (Md.nM l+1)) (Md.Z8 l) (Md.YB (Md.ZJ (Md.kM l 0) 1) 3+1) (Md.QT l (Md.Z8 l)).1 (Md.QS l (Md.Z8 l)).1 (Md.QR l (Md.Z8 l)).1 (Md.Qk l (Md.Z8 l)).1 n0 n6 f hf
   simp only[B2] at e2
   simp only[eG,go_sem,Z2 S,Z1 S,zN0,zN1,zN2,zN3,zN4,zI0,zI1,zI2,zI3,reduceCtorEq,ZQ S,Int.cast_ofNat_Int,DK,l1,DX,YW,YU,YX,YY S,YZ,Dw,CW,Dz,Dx,sf1,sf8,sf10,sf12,DJ,r1',Int.reduceMul,Int.reduceAdd,Int.toNat_zero,Int.reduceToNat,zI1,zI2,and_true,true_and,and_self,JS,gt_iff_lt,wN,a1,a4]
   rw[ZU,Z6 (on S _ _ [2,3,4,8,9] (by decide) rfl) rfl _ _ _ _ _ _ _ _ _ rfl]
   simp only[eG,go_sem,Z2 S,Z1 S,zN0,zN1,zN2,zN3,zN4,zI0,zI1,zI2,zI3,reduceCtorEq,ZQ S]
   rw[e1 _ _ _ (by decide)]
   simp only[eG,go_sem,Z2 S,Z1 S,zN0,zN1,zN2,zN3,zN4,zI0,zI1,zI2,zI3,reduceCtorEq,ZQ S]
   rw[ZU,Z6 (on S _ _ [2,3,4,8,10] (by decide) rfl) rfl _ _ _ _ _ _ _ _ _ rfl]
   simp only[eG,go_sem,Z2 S,Z1 S,zN0,zN1,zN2,zN3,zN4,zI0,zI1,zI2,zI3,reduceCtorEq,ZQ S]
   rw[e2 _ _ _ (by decide)]
   simp only[eG,go_sem,Z2 S,Z1 S,zN0,zN1,zN2,zN3,zN4,zI0,zI1,zI2,zI3,reduceCtorEq,ZQ S]
   rw[d1 _ _ rfl,d2 _ _ rfl]
   simp only[eG,go_sem,Z2 S,Z1 S,zN0,zN1,zN2,zN3,zN4,zI0,zI1,zI2,zI3,reduceCtorEq,ZQ S]
   rw[hl,hi,show rD (Md.make l).mems=rD ([]:List MemT) from congrArg rD hms]
   rfl
theorem Zhz (dp:Nat)(l:List Int)(A:List Blk)(nb:Nat):ZX false E (Z5 E fn (dp+4)) 8 A nb (some ([rD l],[]))=some (.made (.d (ZP (Md.make l))) []):=
 Z7.deep (Zap S dp l ) (np S 8 (by decide)) A nb
end
set_option maxRecDepth 200000
theorem XM (n:Int):((Md.FA n).reg=true->0<=(Md.FA n).n/\(Md.FA n).n<=3):=by
 obtain⟨r,h1,h2⟩:=Md.Mz n
 intro _
 unfold Md.FA
 split<;>(simp only[h2];omega)
theorem Zf9:∀ k<18,1<=Md.K2.getD k 0/\Md.K2.getD k 0<=11:=by decide
theorem Zfn (x:Int)(n:Nat):1<=(Md.J3 x n).kind/\(Md.J3 x n).kind<=12/\0<=(Md.J3 x n).d/\(Md.J3 x n).d<=3/\0<=(Md.J3 x n).target/\(Md.J3 x n).target<=n/\((Md.J3 x n).a.reg=true->0<=(Md.J3 x n).a.n/\(Md.J3 x n).a.n<=3)/\((Md.J3 x n).b.reg=true->0<=(Md.J3 x n).b.n/\(Md.J3 x n).b.n<=3):=by
 obtain⟨d,d1,d2⟩:=Md.Mz (Md.ZJ x 14)
 have ht:=Md.NB (Md.ZJ x 18) (show 0<n+1 by omega)
 have hk:=Zf9 _ (Md.NB x (show 0<18 by decide))
 have ha:=XM (Md.ZJ x 8)
 have hb:=XM (Md.ZJ x 11)
 have h0:(Md.v0).reg=true->0<=(Md.v0).n/\(Md.v0).n<=3:=fun h=>by cases h
 unfold Md.J3
 simp only
 generalize Md.K2.getD (Md.YB x 18) 0=k at hk
 rw[d2]
 split
 ·exact⟨(by show(1:Int)<=1;decide),(by show(1:Int)<=12;decide),by show(0:Int)<=d;omega,by show(d:Int)<=3;omega,Int.le_refl _,by show(0:Int)<=n;omega,ha,hb⟩
 split
 ·exact⟨hk.1,by show k<=12;omega,by show(0:Int)<=d;omega,by show(d:Int)<=3;omega,Int.le_refl _,by show(0:Int)<=n;omega,ha,hb⟩
 split
 ·exact⟨(by show(1:Int)<=5;decide),(by show(5:Int)<=12;decide),Int.le_refl _,(by show(0:Int)<=3;decide),by show(0:Int)<=(Md.YB (Md.ZJ x 18) (n+1):Nat);omega,by show((Md.YB (Md.ZJ x 18) (n+1):Nat):Int)<=n;omega,ha,hb⟩
 split
 ·exact⟨hk.1,by show k<=12;omega,Int.le_refl _,(by show(0:Int)<=3;decide),by show(0:Int)<=(Md.YB (Md.ZJ x 18) (n+1):Nat);omega,by show((Md.YB (Md.ZJ x 18) (n+1):Nat):Int)<=n;omega,h0,h0⟩
 split
 ·exact⟨(by show(1:Int)<=7;decide),(by show(7:Int)<=12;decide),Int.le_refl _,(by show(0:Int)<=3;decide),Int.le_refl _,by show(0:Int)<=n;omega,ha,h0⟩
 ·exact⟨hk.1,by show k<=12;omega,Int.le_refl _,(by show(0:Int)<=3;decide),Int.le_refl _,by show(0:Int)<=n;omega,h0,h0⟩
theorem Zea (l:List Int):Md.Fine (Md.make l):=by
 have hn:=Ze9 l
 have hl3:=Md.NB (Md.ZJ (Md.kM l 0) 1) (show 0<3 by decide)
 have hlen:(Md.make l).ins.length=Md.nM l:=by show((List.range (Md.nM l)).map _).length=_;rw[List.length_map,List.length_range]
 refine⟨Ze6 l,⟨?_,?_⟩,by omega,fun x hx=> ?_⟩
 ·show(1:Int)<=(Md.YB (Md.ZJ (Md.kM l 0) 1) 3:Nat)+1;omega
 ·show((Md.YB (Md.ZJ (Md.kM l 0) 1) 3:Nat):Int)+1<=3;omega
 ·have hx : x ∈ (List.range (Md.nM l)).map fun i : Nat => Md.J3 (Md.kM l (i + 2)) (Md.nM l) := hx
  obtain⟨i,_,rfl⟩:=List.mem_map.1 hx
  have:=Zfn (Md.kM l (i+2)) (Md.nM l)
  rw[hlen]
  exact this
theorem Zeb (l:List Int):ZT (Md.make l).mems<=1000:=by
 have h:=(MC (Md.make l).mems).2
 have h2:(Md.make l).mems.length<=2:=by
  show(Md.Qv l (Md.Z8 l)).length<=2
  have h1:(Md.JG l (Md.Z8 l)).length<=1:=by unfold Md.JG;split<;>simp
  unfold Md.Qv
  split
  ·rw[List.length_append,List.length_singleton];omega
  ·omega
 omega
theorem SOk.inv {N:Int}{p:Prog}(hp:Md.Fine p){s:State}(h:SOk N s):Md.Inv N p (Md.DU s):=Md.Inv.begin hp h.mem h.mv h.rg h.stk h.pc
end Go.Aug.Mc
