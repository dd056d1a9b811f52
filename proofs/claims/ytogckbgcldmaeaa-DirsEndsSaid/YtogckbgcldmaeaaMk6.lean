import Derived.Test.YtogckbgcldmaeaaMk4
namespace Go.Aug.Mc
open Go Go.Aug
set_option linter.unusedSimpArgs false
set_option linter.unusedVariables false
set_option maxHeartbeats 40000000
def labsM (n:Nat):List Label:=(List.range n).map Md.labM
def inssM (l:List Int)(n j:Nat):List Ins:=(List.range j).map fun i:Nat=>Md.insN (Md.kM l (i+2)) n
theorem labs_s (n:Nat):labsM n++[Md.labM n]=labsM (n+1):=by simp[labsM,List.range_succ]
theorem inss_s (l:List Int)(n j:Nat):inssM l n j++[Md.insN (Md.kM l (j+2)) n]=inssM l n (j+1):=by simp[inssM,List.range_succ]
theorem labs_l (n:Nat):(labsM n).length=n:=by simp[labsM]
theorem inss_l (l:List Int)(n j:Nat):(inssM l n j).length=j:=by simp[inssM]
variable {E:Env} {fn:FuncId->Option (Env->CallT->CallT)}
section
variable (S:Sur E fn)
include S
theorem of_17_Mk5:E.lives 17 1=none/\E.lives 17 23=none/\E.lives 17 27=none/\E.lives 17 31=none/\E.lives 17 35=none/\E.lives 17 39=none:=⟨off S 17 1 (by decide) rfl,off S 17 23 (by decide) rfl,off S 17 27 (by decide) rfl,off S 17 31 (by decide) rfl,off S 17 35 (by decide) rfl,off S 17 39 (by decide) rfl⟩
theorem go44_0 (dp:Nat)(l:List Int)(kx:Nat->K)(kr:K)(n:Nat)(W wn r0 r1 r2 r3:Int)(hn:n<6):∀ m j f,j+m=(n+1)->m<=f->
  B44_w6_Make (inn E 17) (evC E fn (dp+2)) (loopK 44 B44_w6_Make (inn E 17) (evC E fn (dp+2)) kx kr f) kx kr (mk .bot 171 [(2,.ref 0 0 0),(3,.fn (.func 47) [.ref 1 0 0]),(4,.ref 2 0 0),(8,aint n),(9,aint (j:Int))]) [.cells [zi,zi,zi,zi,zi,zi,zi,zn,zn,zn] 0 false,.cells [.d (rowD l)] 0 false,.cells [aint W,aint wn,aint 6,aint r0,aint r1,aint r2,aint r3,zn,.sref 3 0 0 (j) 2 none,zn] 0 false,.cells ((rowC (labsM j)).map .d) 0 false]=
  kx 3 (mk .bot 171 ((141,abool false)::(140,aint n)::(139,aint ((n+1:Nat):Int))::[(2,.ref 0 0 0),(3,.fn (.func 47) [.ref 1 0 0]),(4,.ref 2 0 0),(8,aint n),(9,aint ((n+1:Nat):Int))])) [.cells [zi,zi,zi,zi,zi,zi,zi,zn,zn,zn] 0 false,.cells [.d (rowD l)] 0 false,.cells [aint W,aint wn,aint 6,aint r0,aint r1,aint r2,aint r3,zn,.sref 3 0 0 ((n+1)) 2 none,zn] 0 false,.cells ((rowC (labsM (n+1))).map .d) 0 false]:=by
 intro m
 induction m with
 | zero=>
  intro j f hj _
  obtain rfl:j=n+1:=by omega
  have hz:¬(((n+1:Nat):Int)<=n):=by omega
  generalize loopK 44 B44_w6_Make _ _ kx kr f=KK
  first | (conv=>lhs;rw[B44_w6_Make]) | rw[B44_w6_Make]
  simp only[eG,go_sem,thq S,nbr S,Nat.reduceLT,Nat.reduceEqDiff,Nat.reduceAdd,Nat.reduceMul,Nat.reduceLeDiff,Int.reduceEq,Int.reduceLT,Int.reduceLE,Int.reduceNeg,reduceCtorEq,of_17_Mk5 S,hz]
 | succ m ih=>
  intro j f hj hf
  obtain⟨f,rfl⟩:∃ g,f=g+1:=⟨f-1,by omega⟩
  have e:=nxt44_0 S dp l kx kr f n W wn r0 r1 r2 r3 j (labsM j) (by omega) hn (by rw[labs_l];omega)
  rw[labs_s,labs_l] at e
  rw[e]
  exact ih (j+1) f (by omega) (by omega)
theorem loop44_0 (dp:Nat)(l:List Int)(kx:Nat->K)(kr:K)(n:Nat)(W wn r0 r1 r2 r3:Int)(h0:0<n)(hn:n<6)(f:Nat)(hf:10<=f):
  B44_w6_Make (inn E 17) (evC E fn (dp+2)) (loopK 44 B44_w6_Make (inn E 17) (evC E fn (dp+2)) kx kr f) kx kr (mk .bot 171 [(2,.ref 0 0 0),(3,.fn (.func 47) [.ref 1 0 0]),(4,.ref 2 0 0),(8,aint n),(9,aint 0)]) [.cells [zi,zi,zi,zi,zi,zi,zi,zn,zn,zn] 0 false,.cells [.d (rowD l)] 0 false,.cells [aint W,aint wn,aint 6,aint r0,aint r1,aint r2,aint r3,zn,zn,zn] 0 false]=
  kx 3 (mk .bot 171 ((141,abool false)::(140,aint n)::(139,aint ((n+1:Nat):Int))::[(2,.ref 0 0 0),(3,.fn (.func 47) [.ref 1 0 0]),(4,.ref 2 0 0),(8,aint n),(9,aint ((n+1:Nat):Int))])) [.cells [zi,zi,zi,zi,zi,zi,zi,zn,zn,zn] 0 false,.cells [.d (rowD l)] 0 false,.cells [aint W,aint wn,aint 6,aint r0,aint r1,aint r2,aint r3,zn,.sref 3 0 0 ((n+1)) 2 none,zn] 0 false,.cells ((rowC (labsM (n+1))).map .d) 0 false]:=by
 obtain⟨f,rfl⟩:∃ g,f=g+1:=⟨f-1,by omega⟩
 rw[fst44_0 S dp l kx kr f n W wn r0 r1 r2 r3 hn]
 exact go44_0 S dp l kx kr n W wn r0 r1 r2 r3 hn n 1 f (by omega) (by omega)
theorem go52_0 (dp:Nat)(l:List Int)(kx:Nat->K)(kr:K)(n:Nat)(ls:List Label)(W wn r0 r1 r2 r3:Int)(hn:n<6):∀ m j f,j+m=n->m<=f->
  B52_w6_Make (inn E 17) (evC E fn (dp+2)) (loopK 52 B52_w6_Make (inn E 17) (evC E fn (dp+2)) kx kr f) kx kr (mk .bot 171 [(2,.ref 0 0 0),(3,.fn (.func 47) [.ref 1 0 0]),(4,.ref 2 0 0),(8,aint n),(10,aint (j:Int))]) [.cells [zi,zi,zi,zi,zi,zi,zi,zn,zn,zn] 0 false,.cells [.d (rowD l)] 0 false,.cells [aint W,aint wn,aint 6,aint r0,aint r1,aint r2,aint r3,zn,.sref 3 0 0 ls.length 2 none,.sref 4 0 0 (j) 9 none] 0 false,.cells ((rowC ls).map .d) 0 false,.cells ((rowC (inssM l n j)).map .d) 0 false]=
  kx 5 (mk .bot 171 ((156,abool false)::(155,aint n)::(154,aint n)::[(2,.ref 0 0 0),(3,.fn (.func 47) [.ref 1 0 0]),(4,.ref 2 0 0),(8,aint n),(10,aint (n:Int))])) [.cells [zi,zi,zi,zi,zi,zi,zi,zn,zn,zn] 0 false,.cells [.d (rowD l)] 0 false,.cells [aint W,aint wn,aint 6,aint r0,aint r1,aint r2,aint r3,zn,.sref 3 0 0 ls.length 2 none,.sref 4 0 0 (n) 9 none] 0 false,.cells ((rowC ls).map .d) 0 false,.cells ((rowC (inssM l n n)).map .d) 0 false]:=by
 intro m
 induction m with
 | zero=>
  intro j f hj _
  obtain rfl:n=j:=by omega
  have hz:¬((n:Int)<n):=by omega
  generalize loopK 52 B52_w6_Make _ _ kx kr f=KK
  first | (conv=>lhs;rw[B52_w6_Make]) | rw[B52_w6_Make]
  simp only[eG,go_sem,thq S,nbr S,Nat.reduceLT,Nat.reduceEqDiff,Nat.reduceAdd,Nat.reduceMul,Nat.reduceLeDiff,Int.reduceEq,Int.reduceLT,Int.reduceLE,Int.reduceNeg,reduceCtorEq,of_17_Mk5 S,hz]
 | succ m ih=>
  intro j f hj hf
  obtain⟨f,rfl⟩:∃ g,f=g+1:=⟨f-1,by omega⟩
  have e:=nxt52_0 S dp l kx kr f n ls W wn r0 r1 r2 r3 j (inssM l n j) (by omega) hn (by rw[inss_l];omega)
  rw[inss_s,inss_l] at e
  rw[e]
  exact ih (j+1) f (by omega) (by omega)
theorem loop52_0 (dp:Nat)(l:List Int)(kx:Nat->K)(kr:K)(n:Nat)(ls:List Label)(W wn r0 r1 r2 r3:Int)(h0:0<n)(hn:n<6)(f:Nat)(hf:10<=f):
  B52_w6_Make (inn E 17) (evC E fn (dp+2)) (loopK 52 B52_w6_Make (inn E 17) (evC E fn (dp+2)) kx kr f) kx kr (mk .bot 171 [(2,.ref 0 0 0),(3,.fn (.func 47) [.ref 1 0 0]),(4,.ref 2 0 0),(8,aint n),(10,aint 0)]) [.cells [zi,zi,zi,zi,zi,zi,zi,zn,zn,zn] 0 false,.cells [.d (rowD l)] 0 false,.cells [aint W,aint wn,aint 6,aint r0,aint r1,aint r2,aint r3,zn,.sref 3 0 0 ls.length 2 none,zn] 0 false,.cells ((rowC ls).map .d) 0 false]=
  kx 5 (mk .bot 171 ((156,abool false)::(155,aint n)::(154,aint n)::[(2,.ref 0 0 0),(3,.fn (.func 47) [.ref 1 0 0]),(4,.ref 2 0 0),(8,aint n),(10,aint (n:Int))])) [.cells [zi,zi,zi,zi,zi,zi,zi,zn,zn,zn] 0 false,.cells [.d (rowD l)] 0 false,.cells [aint W,aint wn,aint 6,aint r0,aint r1,aint r2,aint r3,zn,.sref 3 0 0 ls.length 2 none,.sref 4 0 0 (n) 9 none] 0 false,.cells ((rowC ls).map .d) 0 false,.cells ((rowC (inssM l n n)).map .d) 0 false]:=by
 obtain⟨f,rfl⟩:∃ g,f=g+1:=⟨f-1,by omega⟩
 rw[fst52_0 S dp l kx kr f n ls W wn r0 r1 r2 r3 h0 hn]
 exact go52_0 S dp l kx kr n ls W wn r0 r1 r2 r3 hn (n-1) 1 f (by omega) (by omega)
theorem go44_1 (dp:Nat)(l:List Int)(kx:Nat->K)(kr:K)(n:Nat)(ms:List MemT)(W wn r0 r1 r2 r3:Int)(hn:n<6):∀ m j f,j+m=(n+1)->m<=f->
  B44_w6_Make (inn E 17) (evC E fn (dp+2)) (loopK 44 B44_w6_Make (inn E 17) (evC E fn (dp+2)) kx kr f) kx kr (mk .bot 171 [(2,.ref 0 0 0),(3,.fn (.func 47) [.ref 1 0 0]),(4,.ref 2 0 0),(8,aint n),(9,aint (j:Int))]) [.cells [zi,zi,zi,zi,zi,zi,zi,zn,zn,zn] 0 false,.cells [.d (rowD l)] 0 false,.cells [aint W,aint wn,aint 6,aint r0,aint r1,aint r2,aint r3,.sref 3 0 0 ms.length 3 none,.sref 4 0 0 (j) 2 none,zn] 0 false,.cells ((rowC ms).map .d) 0 false,.cells ((rowC (labsM j)).map .d) 0 false]=
  kx 3 (mk .bot 171 ((141,abool false)::(140,aint n)::(139,aint ((n+1:Nat):Int))::[(2,.ref 0 0 0),(3,.fn (.func 47) [.ref 1 0 0]),(4,.ref 2 0 0),(8,aint n),(9,aint ((n+1:Nat):Int))])) [.cells [zi,zi,zi,zi,zi,zi,zi,zn,zn,zn] 0 false,.cells [.d (rowD l)] 0 false,.cells [aint W,aint wn,aint 6,aint r0,aint r1,aint r2,aint r3,.sref 3 0 0 ms.length 3 none,.sref 4 0 0 ((n+1)) 2 none,zn] 0 false,.cells ((rowC ms).map .d) 0 false,.cells ((rowC (labsM (n+1))).map .d) 0 false]:=by
 intro m
 induction m with
 | zero=>
  intro j f hj _
  obtain rfl:j=n+1:=by omega
  have hz:¬(((n+1:Nat):Int)<=n):=by omega
  generalize loopK 44 B44_w6_Make _ _ kx kr f=KK
  first | (conv=>lhs;rw[B44_w6_Make]) | rw[B44_w6_Make]
  simp only[eG,go_sem,thq S,nbr S,Nat.reduceLT,Nat.reduceEqDiff,Nat.reduceAdd,Nat.reduceMul,Nat.reduceLeDiff,Int.reduceEq,Int.reduceLT,Int.reduceLE,Int.reduceNeg,reduceCtorEq,of_17_Mk5 S,hz]
 | succ m ih=>
  intro j f hj hf
  obtain⟨f,rfl⟩:∃ g,f=g+1:=⟨f-1,by omega⟩
  have e:=nxt44_1 S dp l kx kr f n ms W wn r0 r1 r2 r3 j (labsM j) (by omega) hn (by rw[labs_l];omega)
  rw[labs_s,labs_l] at e
  rw[e]
  exact ih (j+1) f (by omega) (by omega)
theorem loop44_1 (dp:Nat)(l:List Int)(kx:Nat->K)(kr:K)(n:Nat)(ms:List MemT)(W wn r0 r1 r2 r3:Int)(h0:0<n)(hn:n<6)(f:Nat)(hf:10<=f):
  B44_w6_Make (inn E 17) (evC E fn (dp+2)) (loopK 44 B44_w6_Make (inn E 17) (evC E fn (dp+2)) kx kr f) kx kr (mk .bot 171 [(2,.ref 0 0 0),(3,.fn (.func 47) [.ref 1 0 0]),(4,.ref 2 0 0),(8,aint n),(9,aint 0)]) [.cells [zi,zi,zi,zi,zi,zi,zi,zn,zn,zn] 0 false,.cells [.d (rowD l)] 0 false,.cells [aint W,aint wn,aint 6,aint r0,aint r1,aint r2,aint r3,.sref 3 0 0 ms.length 3 none,zn,zn] 0 false,.cells ((rowC ms).map .d) 0 false]=
  kx 3 (mk .bot 171 ((141,abool false)::(140,aint n)::(139,aint ((n+1:Nat):Int))::[(2,.ref 0 0 0),(3,.fn (.func 47) [.ref 1 0 0]),(4,.ref 2 0 0),(8,aint n),(9,aint ((n+1:Nat):Int))])) [.cells [zi,zi,zi,zi,zi,zi,zi,zn,zn,zn] 0 false,.cells [.d (rowD l)] 0 false,.cells [aint W,aint wn,aint 6,aint r0,aint r1,aint r2,aint r3,.sref 3 0 0 ms.length 3 none,.sref 4 0 0 ((n+1)) 2 none,zn] 0 false,.cells ((rowC ms).map .d) 0 false,.cells ((rowC (labsM (n+1))).map .d) 0 false]:=by
 obtain⟨f,rfl⟩:∃ g,f=g+1:=⟨f-1,by omega⟩
 rw[fst44_1 S dp l kx kr f n ms W wn r0 r1 r2 r3 hn]
 exact go44_1 S dp l kx kr n ms W wn r0 r1 r2 r3 hn n 1 f (by omega) (by omega)
theorem go52_1 (dp:Nat)(l:List Int)(kx:Nat->K)(kr:K)(n:Nat)(ms:List MemT)(ls:List Label)(W wn r0 r1 r2 r3:Int)(hn:n<6):∀ m j f,j+m=n->m<=f->
  B52_w6_Make (inn E 17) (evC E fn (dp+2)) (loopK 52 B52_w6_Make (inn E 17) (evC E fn (dp+2)) kx kr f) kx kr (mk .bot 171 [(2,.ref 0 0 0),(3,.fn (.func 47) [.ref 1 0 0]),(4,.ref 2 0 0),(8,aint n),(10,aint (j:Int))]) [.cells [zi,zi,zi,zi,zi,zi,zi,zn,zn,zn] 0 false,.cells [.d (rowD l)] 0 false,.cells [aint W,aint wn,aint 6,aint r0,aint r1,aint r2,aint r3,.sref 3 0 0 ms.length 3 none,.sref 4 0 0 ls.length 2 none,.sref 5 0 0 (j) 9 none] 0 false,.cells ((rowC ms).map .d) 0 false,.cells ((rowC ls).map .d) 0 false,.cells ((rowC (inssM l n j)).map .d) 0 false]=
  kx 5 (mk .bot 171 ((156,abool false)::(155,aint n)::(154,aint n)::[(2,.ref 0 0 0),(3,.fn (.func 47) [.ref 1 0 0]),(4,.ref 2 0 0),(8,aint n),(10,aint (n:Int))])) [.cells [zi,zi,zi,zi,zi,zi,zi,zn,zn,zn] 0 false,.cells [.d (rowD l)] 0 false,.cells [aint W,aint wn,aint 6,aint r0,aint r1,aint r2,aint r3,.sref 3 0 0 ms.length 3 none,.sref 4 0 0 ls.length 2 none,.sref 5 0 0 (n) 9 none] 0 false,.cells ((rowC ms).map .d) 0 false,.cells ((rowC ls).map .d) 0 false,.cells ((rowC (inssM l n n)).map .d) 0 false]:=by
 intro m
 induction m with
 | zero=>
  intro j f hj _
  obtain rfl:n=j:=by omega
  have hz:¬((n:Int)<n):=by omega
  generalize loopK 52 B52_w6_Make _ _ kx kr f=KK
  first | (conv=>lhs;rw[B52_w6_Make]) | rw[B52_w6_Make]
  simp only[eG,go_sem,thq S,nbr S,Nat.reduceLT,Nat.reduceEqDiff,Nat.reduceAdd,Nat.reduceMul,Nat.reduceLeDiff,Int.reduceEq,Int.reduceLT,Int.reduceLE,Int.reduceNeg,reduceCtorEq,of_17_Mk5 S,hz]
 | succ m ih=>
  intro j f hj hf
  obtain⟨f,rfl⟩:∃ g,f=g+1:=⟨f-1,by omega⟩
  have e:=nxt52_1 S dp l kx kr f n ms ls W wn r0 r1 r2 r3 j (inssM l n j) (by omega) hn (by rw[inss_l];omega)
  rw[inss_s,inss_l] at e
  rw[e]
  exact ih (j+1) f (by omega) (by omega)
theorem loop52_1 (dp:Nat)(l:List Int)(kx:Nat->K)(kr:K)(n:Nat)(ms:List MemT)(ls:List Label)(W wn r0 r1 r2 r3:Int)(h0:0<n)(hn:n<6)(f:Nat)(hf:10<=f):
  B52_w6_Make (inn E 17) (evC E fn (dp+2)) (loopK 52 B52_w6_Make (inn E 17) (evC E fn (dp+2)) kx kr f) kx kr (mk .bot 171 [(2,.ref 0 0 0),(3,.fn (.func 47) [.ref 1 0 0]),(4,.ref 2 0 0),(8,aint n),(10,aint 0)]) [.cells [zi,zi,zi,zi,zi,zi,zi,zn,zn,zn] 0 false,.cells [.d (rowD l)] 0 false,.cells [aint W,aint wn,aint 6,aint r0,aint r1,aint r2,aint r3,.sref 3 0 0 ms.length 3 none,.sref 4 0 0 ls.length 2 none,zn] 0 false,.cells ((rowC ms).map .d) 0 false,.cells ((rowC ls).map .d) 0 false]=
  kx 5 (mk .bot 171 ((156,abool false)::(155,aint n)::(154,aint n)::[(2,.ref 0 0 0),(3,.fn (.func 47) [.ref 1 0 0]),(4,.ref 2 0 0),(8,aint n),(10,aint (n:Int))])) [.cells [zi,zi,zi,zi,zi,zi,zi,zn,zn,zn] 0 false,.cells [.d (rowD l)] 0 false,.cells [aint W,aint wn,aint 6,aint r0,aint r1,aint r2,aint r3,.sref 3 0 0 ms.length 3 none,.sref 4 0 0 ls.length 2 none,.sref 5 0 0 (n) 9 none] 0 false,.cells ((rowC ms).map .d) 0 false,.cells ((rowC ls).map .d) 0 false,.cells ((rowC (inssM l n n)).map .d) 0 false]:=by
 obtain⟨f,rfl⟩:∃ g,f=g+1:=⟨f-1,by omega⟩
 rw[fst52_1 S dp l kx kr f n ms ls W wn r0 r1 r2 r3 h0 hn]
 exact go52_1 S dp l kx kr n ms ls W wn r0 r1 r2 r3 hn (n-1) 1 f (by omega) (by omega)
end
open Nat renaming reduceLT -> zN0, reduceEqDiff -> zN1, reduceAdd -> zN2, reduceMul -> zN3, reduceLeDiff -> zN4
open Int renaming reduceEq -> zI0, reduceLT -> zI1, reduceLE -> zI2, reduceNeg -> zI3
theorem rowm1 (m:MemT):(rowC [m]).map AV.d=[.d (vt m.name),.d (vb m.secret),.d (vi m.n)]:=rfl
theorem rowm2 (m k:MemT):(rowC [m,k]).map AV.d=[.d (vt m.name),.d (vb m.secret),.d (vi m.n),.d (vt k.name),.d (vb k.secret),.d (vi k.n)]:=rfl
theorem l32:32<=limA:=by unfold limA;decide
theorem app_m2 (b0 b1 b2:Blk)(v:Nat)(a b c:DV)(nm:ByteArray)(s:Bool)(n:Int):
  evApp [b0,b1,b2,.cells [.d a,.d b,.d c] v false] 3 32 (.sref 3 v 0 1 3 none) [.d (vt nm),.d (vb s),.d (vi n)] 1=some (.turn 3 (.cells [.d a,.d b,.d c,.d (vt nm),.d (vb s),.d (vi n)] (v+1) false) (.sref 3 (v+1) 0 2 3 none)):=by
 have hx:([AV.d (vt nm),AV.d (vb s),AV.d (vi n)]).all AV.one=true:=rfl
 rw[evApp_sref,if_neg (by decide),if_neg (by rw[hx];unfold limA;simp)]
 simp
variable {E:Env} {fn:FuncId->Option (Env->CallT->CallT)}
section
variable (S:Sur E fn)
include S
theorem of_17_Mk6:E.lives 17 1=none/\E.lives 17 23=none/\E.lives 17 27=none/\E.lives 17 31=none/\E.lives 17 35=none/\E.lives 17 39=none:=⟨off S 17 1 (by decide) rfl,off S 17 23 (by decide) rfl,off S 17 27 (by decide) rfl,off S 17 31 (by decide) rfl,off S 17 35 (by decide) rfl,off S 17 39 (by decide) rfl⟩
theorem raw_w6_Make (dp:Nat)(l:List Int):Says E fn (dp+4) 17 [rowD l] (progD (Md.make l)):=by
 unfold Says
 show ansOf (evC E fn (dp+3+1) 17 [.d (rowD l)] [])=_
 rw[evC_succ,S.f_w6_Make,apF_some,F_w6_Make,mkF_run _ _ _ _ _ _ _ _ rfl]
 have sf1:∀ x:Int,x.fdiv (2^min 1 64)=Md.shi x 1:=fun x=>by rw[Nat.min_eq_left (by decide)];rfl
 have sf8:∀ x:Int,x.fdiv (2^min 8 64)=Md.shi x 8:=fun x=>by rw[Nat.min_eq_left (by decide)];rfl
 have sf10:∀ x:Int,x.fdiv (2^min 10 64)=Md.shi x 10:=fun x=>by rw[Nat.min_eq_left (by decide)];rfl
 have sf12:∀ x:Int,x.fdiv (2^min 12 64)=Md.shi x 12:=fun x=>by rw[Nat.min_eq_left (by decide)];rfl
 have r1':∀ {α:Type} (l:List α),rep l 1=l:=fun l=>by simp[rep]
 have ww:IntKind.i64.wrap (Md.iand (Md.kM l 0) 1+1)=Md.widM l:=by
  obtain⟨r,h1,h2⟩:=Md.iand1 (Md.kM l 0)
  unfold Md.widM
  rw[h2];exact wrap_i64 (by omega) (by omega)
 have wn:IntKind.i64.wrap (((Md.lowmod (Md.shi (Md.kM l 0) 1) 3:Nat):Int)+1)=(Md.lowmod (Md.shi (Md.kM l 0) 1) 3:Nat)+1:=by
  have:=Md.lowmod_lt (Md.shi (Md.kM l 0) 1) (show 0<3 by decide)
  exact wrap_i64 (by omega) (by omega)
 have wN:IntKind.i64.wrap (Md.iand (Md.shi (Md.kM l 0) 12) 3+2)=(Md.nM l:Nat):=by
  obtain⟨r,h1,h2⟩:=Md.iand3 (Md.shi (Md.kM l 0) 12)
  unfold Md.nM
  rw[h2,Int.toNat_natCast,wrap_i64 (by omega) (by omega)];rfl
 have n6:Md.nM l<6:=by
  obtain⟨r,h1,h2⟩:=Md.iand3 (Md.shi (Md.kM l 0) 12)
  unfold Md.nM
  rw[h2,Int.toNat_natCast];omega
 have n0:0<Md.nM l:=by unfold Md.nM;omega
 simp only[eG,go_sem,thq S,nbr S,zN0,zN1,zN2,zN3,zN4,zI0,zI1,zI2,zI3,reduceCtorEq,of_17_Mk6 S,Int.cast_ofNat_Int,l32,l1,app_m2,o_callVf,deep_ref,dRef_some,c_w6_Make_1 S,b_iand,sh1,sh8,sh10,sh12,sf1,sf8,sf10,sf12,lm3,r1',Int.reduceMul,Int.reduceAdd,Int.toNat_zero,Int.reduceToNat,zI1,zI2,and_true,true_and,and_self,nc_lst1,gt_iff_lt,ww,wn]
 rw[big_eq,loop_in (on S _ _ [2,3,4,5,6,7] (by decide) rfl) rfl _ _ _ _ _ _ _ _ _ rfl]
 simp only[eG,go_sem,thq S,nbr S,zN0,zN1,zN2,zN3,zN4,zI0,zI1,zI2,zI3,reduceCtorEq,of_17_Mk6 S]
 rw[loop12 S (dp+2) l _ _ _ (by decide)]
 have d1:∀ A i,A[i]? =some (.cells ((rowC (labsM (Md.nM l+1))).map .d) 0 false)->deep A 7 (.sref i 0 0 (Md.nM l+1) 2 none)=some (.lst (rowC (labsM (Md.nM l+1))) (Md.nM l+1) none,[i]):=
  fun A i h=>deep_all h (fun e=>by have:=labs_l (Md.nM l+1);rw[e] at this;simp at this) 5 _ 2 none rfl (labs_l _).symm
 have d2:∀ A i,A[i]? =some (.cells ((rowC (inssM l (Md.nM l) (Md.nM l))).map .d) 0 false)->deep A 7 (.sref i 0 0 (Md.nM l) 9 none)=some (.lst (rowC (inssM l (Md.nM l) (Md.nM l))) (Md.nM l) none,[i]):=
  fun A i h=>deep_all h (fun e=>by have:=inss_l l (Md.nM l) (Md.nM l);rw[e] at this;simp at this;omega) 5 _ 9 none rfl (inss_l _ _ _).symm
 have hl:rowD (Md.make l).labels=.lst (rowC (labsM (Md.nM l+1))) (Md.nM l+1) none:=by
  show DV.lst (rowC (labsM (Md.nM l+1))) (labsM (Md.nM l+1)).length none=_
  rw[labs_l]
 have hi:rowD (Md.make l).ins=.lst (rowC (inssM l (Md.nM l) (Md.nM l))) (Md.nM l) none:=by
  show DV.lst (rowC (inssM l (Md.nM l) (Md.nM l))) (inssM l (Md.nM l) (Md.nM l)).length none=_
  rw[inss_l]
 by_cases a1:0<Md.iand (Md.shi (Md.kM l 1) 8) 3
 ·by_cases a2 : Md.widM l = 1
  ·by_cases a3 : Md.iand (Md.shi (Md.kM l 1) 10) 3 = 0
   ·skip
    by_cases a4:0<Md.iand (Md.shi (Md.kM l 1) 12) 3
    ·by_cases a5 : IntKind.i64.wrap ((Md.reg3 l (Md.widM l)).2.2 + Md.widM l) <= 3
     ·have hms : Md.memsM l (Md.widM l) = [⟨⟨#[109]⟩, false, 2⟩] := by simp [Md.memsM, Md.mem1, Md.w64', a1, eq_true a2, eq_true a3, a4, a5]
      have d0:∀ A i,A[i]? =some (.cells ((rowC ([⟨⟨#[109]⟩,false,2⟩]:List MemT)).map .d) 0 false)->deep A 7 (.sref i 0 0 1 3 none)=some (.lst (rowC ([⟨⟨#[109]⟩,false,2⟩]:List MemT)) 1 none,[i]):=fun A i h=>deep_all h (by simp) 5 _ 3 none rfl rfl
      have e1:=fun kx kr f hf=>loop44_1 S (dp+1) l kx kr (Md.nM l) ([⟨⟨#[109]⟩,false,2⟩]:List MemT) (Md.widM l) (Md.lowmod (Md.shi (Md.kM l 0) 1) 3+1) (Md.reg0 l (Md.widM l)).1 (Md.reg1 l (Md.widM l)).1 (Md.reg2 l (Md.widM l)).1 (Md.reg3 l (Md.widM l)).1 n0 n6 f hf
      have e2:=fun kx kr f hf=>loop52_1 S (dp+1) l kx kr (Md.nM l) ([⟨⟨#[109]⟩,false,2⟩]:List MemT) (labsM (Md.nM l+1)) (Md.widM l) (Md.lowmod (Md.shi (Md.kM l 0) 1) 3+1) (Md.reg0 l (Md.widM l)).1 (Md.reg1 l (Md.widM l)).1 (Md.reg2 l (Md.widM l)).1 (Md.reg3 l (Md.widM l)).1 n0 n6 f hf
      simp only[labs_l] at e2
      simp only[rowm1,rowm2,List.length_cons,List.length_nil,zN2] at e1 e2
      simp only[eG,go_sem,thq S,nbr S,zN0,zN1,zN2,zN3,zN4,zI0,zI1,zI2,zI3,reduceCtorEq,of_17_Mk6 S,Int.cast_ofNat_Int,l32,l1,app_m2,o_callVf,deep_ref,dRef_some,c_w6_Make_1 S,b_iand,sh1,sh8,sh10,sh12,sf1,sf8,sf10,sf12,lm3,r1',Int.reduceMul,Int.reduceAdd,Int.toNat_zero,Int.reduceToNat,zI1,zI2,and_true,true_and,and_self,nc_lst1,gt_iff_lt,wN,a1,eq_true a2,eq_true a3,a4,a5]
      rw[big_eq,loop_in (on S _ _ [2,3,4,8,9] (by decide) rfl) rfl _ _ _ _ _ _ _ _ _ rfl]
      simp only[eG,go_sem,thq S,nbr S,zN0,zN1,zN2,zN3,zN4,zI0,zI1,zI2,zI3,reduceCtorEq,of_17_Mk6 S]
      rw[e1 _ _ _ (by decide)]
      simp only[eG,go_sem,thq S,nbr S,zN0,zN1,zN2,zN3,zN4,zI0,zI1,zI2,zI3,reduceCtorEq,of_17_Mk6 S]
      rw[big_eq,loop_in (on S _ _ [2,3,4,8,10] (by decide) rfl) rfl _ _ _ _ _ _ _ _ _ rfl]
      simp only[eG,go_sem,thq S,nbr S,zN0,zN1,zN2,zN3,zN4,zI0,zI1,zI2,zI3,reduceCtorEq,of_17_Mk6 S]
      rw[e2 _ _ _ (by decide)]
      simp only[eG,go_sem,thq S,nbr S,zN0,zN1,zN2,zN3,zN4,zI0,zI1,zI2,zI3,reduceCtorEq,of_17_Mk6 S]
      rw[d0 _ _ rfl,d1 _ _ rfl,d2 _ _ rfl]
      simp only[eG,go_sem,thq S,nbr S,zN0,zN1,zN2,zN3,zN4,zI0,zI1,zI2,zI3,reduceCtorEq,of_17_Mk6 S]
      rw[hl,hi,show rowD (Md.make l).mems=rowD ([⟨⟨#[109]⟩,false,2⟩]:List MemT) from congrArg rowD hms]
      rfl
     ·have hms : Md.memsM l (Md.widM l) = [⟨⟨#[109]⟩, false, 2⟩] := by simp [Md.memsM, Md.mem1, Md.w64', a1, eq_true a2, eq_true a3, a4, a5]
      have d0:∀ A i,A[i]? =some (.cells ((rowC ([⟨⟨#[109]⟩,false,2⟩]:List MemT)).map .d) 0 false)->deep A 7 (.sref i 0 0 1 3 none)=some (.lst (rowC ([⟨⟨#[109]⟩,false,2⟩]:List MemT)) 1 none,[i]):=fun A i h=>deep_all h (by simp) 5 _ 3 none rfl rfl
      have e1:=fun kx kr f hf=>loop44_1 S (dp+1) l kx kr (Md.nM l) ([⟨⟨#[109]⟩,false,2⟩]:List MemT) (Md.widM l) (Md.lowmod (Md.shi (Md.kM l 0) 1) 3+1) (Md.reg0 l (Md.widM l)).1 (Md.reg1 l (Md.widM l)).1 (Md.reg2 l (Md.widM l)).1 (Md.reg3 l (Md.widM l)).1 n0 n6 f hf
      have e2:=fun kx kr f hf=>loop52_1 S (dp+1) l kx kr (Md.nM l) ([⟨⟨#[109]⟩,false,2⟩]:List MemT) (labsM (Md.nM l+1)) (Md.widM l) (Md.lowmod (Md.shi (Md.kM l 0) 1) 3+1) (Md.reg0 l (Md.widM l)).1 (Md.reg1 l (Md.widM l)).1 (Md.reg2 l (Md.widM l)).1 (Md.reg3 l (Md.widM l)).1 n0 n6 f hf
      simp only[labs_l] at e2
      simp only[rowm1,rowm2,List.length_cons,List.length_nil,zN2] at e1 e2
      simp only[eG,go_sem,thq S,nbr S,zN0,zN1,zN2,zN3,zN4,zI0,zI1,zI2,zI3,reduceCtorEq,of_17_Mk6 S,Int.cast_ofNat_Int,l32,l1,app_m2,o_callVf,deep_ref,dRef_some,c_w6_Make_1 S,b_iand,sh1,sh8,sh10,sh12,sf1,sf8,sf10,sf12,lm3,r1',Int.reduceMul,Int.reduceAdd,Int.toNat_zero,Int.reduceToNat,zI1,zI2,and_true,true_and,and_self,nc_lst1,gt_iff_lt,wN,a1,eq_true a2,eq_true a3,a4,a5]
      rw[big_eq,loop_in (on S _ _ [2,3,4,8,9] (by decide) rfl) rfl _ _ _ _ _ _ _ _ _ rfl]
      simp only[eG,go_sem,thq S,nbr S,zN0,zN1,zN2,zN3,zN4,zI0,zI1,zI2,zI3,reduceCtorEq,of_17_Mk6 S]
      rw[e1 _ _ _ (by decide)]
      simp only[eG,go_sem,thq S,nbr S,zN0,zN1,zN2,zN3,zN4,zI0,zI1,zI2,zI3,reduceCtorEq,of_17_Mk6 S]
      rw[big_eq,loop_in (on S _ _ [2,3,4,8,10] (by decide) rfl) rfl _ _ _ _ _ _ _ _ _ rfl]
      simp only[eG,go_sem,thq S,nbr S,zN0,zN1,zN2,zN3,zN4,zI0,zI1,zI2,zI3,reduceCtorEq,of_17_Mk6 S]
      rw[e2 _ _ _ (by decide)]
      simp only[eG,go_sem,thq S,nbr S,zN0,zN1,zN2,zN3,zN4,zI0,zI1,zI2,zI3,reduceCtorEq,of_17_Mk6 S]
      rw[d0 _ _ rfl,d1 _ _ rfl,d2 _ _ rfl]
      simp only[eG,go_sem,thq S,nbr S,zN0,zN1,zN2,zN3,zN4,zI0,zI1,zI2,zI3,reduceCtorEq,of_17_Mk6 S]
      rw[hl,hi,show rowD (Md.make l).mems=rowD ([⟨⟨#[109]⟩,false,2⟩]:List MemT) from congrArg rowD hms]
      rfl
    ·have hms : Md.memsM l (Md.widM l) = [⟨⟨#[109]⟩, false, 2⟩] := by simp [Md.memsM, Md.mem1, Md.w64', a1, eq_true a2, eq_true a3, a4]
     have d0:∀ A i,A[i]? =some (.cells ((rowC ([⟨⟨#[109]⟩,false,2⟩]:List MemT)).map .d) 0 false)->deep A 7 (.sref i 0 0 1 3 none)=some (.lst (rowC ([⟨⟨#[109]⟩,false,2⟩]:List MemT)) 1 none,[i]):=fun A i h=>deep_all h (by simp) 5 _ 3 none rfl rfl
     have e1:=fun kx kr f hf=>loop44_1 S (dp+1) l kx kr (Md.nM l) ([⟨⟨#[109]⟩,false,2⟩]:List MemT) (Md.widM l) (Md.lowmod (Md.shi (Md.kM l 0) 1) 3+1) (Md.reg0 l (Md.widM l)).1 (Md.reg1 l (Md.widM l)).1 (Md.reg2 l (Md.widM l)).1 (Md.reg3 l (Md.widM l)).1 n0 n6 f hf
     have e2:=fun kx kr f hf=>loop52_1 S (dp+1) l kx kr (Md.nM l) ([⟨⟨#[109]⟩,false,2⟩]:List MemT) (labsM (Md.nM l+1)) (Md.widM l) (Md.lowmod (Md.shi (Md.kM l 0) 1) 3+1) (Md.reg0 l (Md.widM l)).1 (Md.reg1 l (Md.widM l)).1 (Md.reg2 l (Md.widM l)).1 (Md.reg3 l (Md.widM l)).1 n0 n6 f hf
     simp only[labs_l] at e2
     simp only[rowm1,rowm2,List.length_cons,List.length_nil,zN2] at e1 e2
     simp only[eG,go_sem,thq S,nbr S,zN0,zN1,zN2,zN3,zN4,zI0,zI1,zI2,zI3,reduceCtorEq,of_17_Mk6 S,Int.cast_ofNat_Int,l32,l1,app_m2,o_callVf,deep_ref,dRef_some,c_w6_Make_1 S,b_iand,sh1,sh8,sh10,sh12,sf1,sf8,sf10,sf12,lm3,r1',Int.reduceMul,Int.reduceAdd,Int.toNat_zero,Int.reduceToNat,zI1,zI2,and_true,true_and,and_self,nc_lst1,gt_iff_lt,wN,a1,eq_true a2,eq_true a3,a4]
     rw[big_eq,loop_in (on S _ _ [2,3,4,8,9] (by decide) rfl) rfl _ _ _ _ _ _ _ _ _ rfl]
     simp only[eG,go_sem,thq S,nbr S,zN0,zN1,zN2,zN3,zN4,zI0,zI1,zI2,zI3,reduceCtorEq,of_17_Mk6 S]
     rw[e1 _ _ _ (by decide)]
     simp only[eG,go_sem,thq S,nbr S,zN0,zN1,zN2,zN3,zN4,zI0,zI1,zI2,zI3,reduceCtorEq,of_17_Mk6 S]
     rw[big_eq,loop_in (on S _ _ [2,3,4,8,10] (by decide) rfl) rfl _ _ _ _ _ _ _ _ _ rfl]
     simp only[eG,go_sem,thq S,nbr S,zN0,zN1,zN2,zN3,zN4,zI0,zI1,zI2,zI3,reduceCtorEq,of_17_Mk6 S]
     rw[e2 _ _ _ (by decide)]
     simp only[eG,go_sem,thq S,nbr S,zN0,zN1,zN2,zN3,zN4,zI0,zI1,zI2,zI3,reduceCtorEq,of_17_Mk6 S]
     rw[d0 _ _ rfl,d1 _ _ rfl,d2 _ _ rfl]
     simp only[eG,go_sem,thq S,nbr S,zN0,zN1,zN2,zN3,zN4,zI0,zI1,zI2,zI3,reduceCtorEq,of_17_Mk6 S]
     rw[hl,hi,show rowD (Md.make l).mems=rowD ([⟨⟨#[109]⟩,false,2⟩]:List MemT) from congrArg rowD hms]
     rfl
   ·skip
    by_cases a4:0<Md.iand (Md.shi (Md.kM l 1) 12) 3
    ·by_cases a5 : IntKind.i64.wrap ((Md.reg3 l (Md.widM l)).2.2 + Md.widM l) <= 3
     ·have hms : Md.memsM l (Md.widM l) = [⟨⟨#[109]⟩, false, 1⟩, ⟨⟨#[115]⟩, true, 1⟩] := by simp [Md.memsM, Md.mem1, Md.w64', a1, eq_true a2, a3, a4, a5]
      have d0:∀ A i,A[i]? =some (.cells ((rowC ([⟨⟨#[109]⟩,false,1⟩,⟨⟨#[115]⟩,true,1⟩]:List MemT)).map .d) 0 false)->deep A 7 (.sref i 0 0 2 3 none)=some (.lst (rowC ([⟨⟨#[109]⟩,false,1⟩,⟨⟨#[115]⟩,true,1⟩]:List MemT)) 2 none,[i]):=fun A i h=>deep_all h (by simp) 5 _ 3 none rfl rfl
      have e1:=fun kx kr f hf=>loop44_1 S (dp+1) l kx kr (Md.nM l) ([⟨⟨#[109]⟩,false,1⟩,⟨⟨#[115]⟩,true,1⟩]:List MemT) (Md.widM l) (Md.lowmod (Md.shi (Md.kM l 0) 1) 3+1) (Md.reg0 l (Md.widM l)).1 (Md.reg1 l (Md.widM l)).1 (Md.reg2 l (Md.widM l)).1 (Md.reg3 l (Md.widM l)).1 n0 n6 f hf
      have e2:=fun kx kr f hf=>loop52_1 S (dp+1) l kx kr (Md.nM l) ([⟨⟨#[109]⟩,false,1⟩,⟨⟨#[115]⟩,true,1⟩]:List MemT) (labsM (Md.nM l+1)) (Md.widM l) (Md.lowmod (Md.shi (Md.kM l 0) 1) 3+1) (Md.reg0 l (Md.widM l)).1 (Md.reg1 l (Md.widM l)).1 (Md.reg2 l (Md.widM l)).1 (Md.reg3 l (Md.widM l)).1 n0 n6 f hf
      simp only[labs_l] at e2
      simp only[rowm1,rowm2,List.length_cons,List.length_nil,zN2] at e1 e2
      simp only[eG,go_sem,thq S,nbr S,zN0,zN1,zN2,zN3,zN4,zI0,zI1,zI2,zI3,reduceCtorEq,of_17_Mk6 S,Int.cast_ofNat_Int,l32,l1,app_m2,o_callVf,deep_ref,dRef_some,c_w6_Make_1 S,b_iand,sh1,sh8,sh10,sh12,sf1,sf8,sf10,sf12,lm3,r1',Int.reduceMul,Int.reduceAdd,Int.toNat_zero,Int.reduceToNat,zI1,zI2,and_true,true_and,and_self,nc_lst1,gt_iff_lt,wN,a1,eq_true a2,a3,a4,a5]
      rw[big_eq,loop_in (on S _ _ [2,3,4,8,9] (by decide) rfl) rfl _ _ _ _ _ _ _ _ _ rfl]
      simp only[eG,go_sem,thq S,nbr S,zN0,zN1,zN2,zN3,zN4,zI0,zI1,zI2,zI3,reduceCtorEq,of_17_Mk6 S]
      rw[e1 _ _ _ (by decide)]
      simp only[eG,go_sem,thq S,nbr S,zN0,zN1,zN2,zN3,zN4,zI0,zI1,zI2,zI3,reduceCtorEq,of_17_Mk6 S]
      rw[big_eq,loop_in (on S _ _ [2,3,4,8,10] (by decide) rfl) rfl _ _ _ _ _ _ _ _ _ rfl]
      simp only[eG,go_sem,thq S,nbr S,zN0,zN1,zN2,zN3,zN4,zI0,zI1,zI2,zI3,reduceCtorEq,of_17_Mk6 S]
      rw[e2 _ _ _ (by decide)]
      simp only[eG,go_sem,thq S,nbr S,zN0,zN1,zN2,zN3,zN4,zI0,zI1,zI2,zI3,reduceCtorEq,of_17_Mk6 S]
      rw[d0 _ _ rfl,d1 _ _ rfl,d2 _ _ rfl]
      simp only[eG,go_sem,thq S,nbr S,zN0,zN1,zN2,zN3,zN4,zI0,zI1,zI2,zI3,reduceCtorEq,of_17_Mk6 S]
      rw[hl,hi,show rowD (Md.make l).mems=rowD ([⟨⟨#[109]⟩,false,1⟩,⟨⟨#[115]⟩,true,1⟩]:List MemT) from congrArg rowD hms]
      rfl
     ·have hms : Md.memsM l (Md.widM l) = [⟨⟨#[109]⟩, false, 1⟩] := by simp [Md.memsM, Md.mem1, Md.w64', a1, eq_true a2, a3, a4, a5]
      have d0:∀ A i,A[i]? =some (.cells ((rowC ([⟨⟨#[109]⟩,false,1⟩]:List MemT)).map .d) 0 false)->deep A 7 (.sref i 0 0 1 3 none)=some (.lst (rowC ([⟨⟨#[109]⟩,false,1⟩]:List MemT)) 1 none,[i]):=fun A i h=>deep_all h (by simp) 5 _ 3 none rfl rfl
      have e1:=fun kx kr f hf=>loop44_1 S (dp+1) l kx kr (Md.nM l) ([⟨⟨#[109]⟩,false,1⟩]:List MemT) (Md.widM l) (Md.lowmod (Md.shi (Md.kM l 0) 1) 3+1) (Md.reg0 l (Md.widM l)).1 (Md.reg1 l (Md.widM l)).1 (Md.reg2 l (Md.widM l)).1 (Md.reg3 l (Md.widM l)).1 n0 n6 f hf
      have e2:=fun kx kr f hf=>loop52_1 S (dp+1) l kx kr (Md.nM l) ([⟨⟨#[109]⟩,false,1⟩]:List MemT) (labsM (Md.nM l+1)) (Md.widM l) (Md.lowmod (Md.shi (Md.kM l 0) 1) 3+1) (Md.reg0 l (Md.widM l)).1 (Md.reg1 l (Md.widM l)).1 (Md.reg2 l (Md.widM l)).1 (Md.reg3 l (Md.widM l)).1 n0 n6 f hf
      simp only[labs_l] at e2
      simp only[rowm1,rowm2,List.length_cons,List.length_nil,zN2] at e1 e2
      simp only[eG,go_sem,thq S,nbr S,zN0,zN1,zN2,zN3,zN4,zI0,zI1,zI2,zI3,reduceCtorEq,of_17_Mk6 S,Int.cast_ofNat_Int,l32,l1,app_m2,o_callVf,deep_ref,dRef_some,c_w6_Make_1 S,b_iand,sh1,sh8,sh10,sh12,sf1,sf8,sf10,sf12,lm3,r1',Int.reduceMul,Int.reduceAdd,Int.toNat_zero,Int.reduceToNat,zI1,zI2,and_true,true_and,and_self,nc_lst1,gt_iff_lt,wN,a1,eq_true a2,a3,a4,a5]
      rw[big_eq,loop_in (on S _ _ [2,3,4,8,9] (by decide) rfl) rfl _ _ _ _ _ _ _ _ _ rfl]
      simp only[eG,go_sem,thq S,nbr S,zN0,zN1,zN2,zN3,zN4,zI0,zI1,zI2,zI3,reduceCtorEq,of_17_Mk6 S]
      rw[e1 _ _ _ (by decide)]
      simp only[eG,go_sem,thq S,nbr S,zN0,zN1,zN2,zN3,zN4,zI0,zI1,zI2,zI3,reduceCtorEq,of_17_Mk6 S]
      rw[big_eq,loop_in (on S _ _ [2,3,4,8,10] (by decide) rfl) rfl _ _ _ _ _ _ _ _ _ rfl]
      simp only[eG,go_sem,thq S,nbr S,zN0,zN1,zN2,zN3,zN4,zI0,zI1,zI2,zI3,reduceCtorEq,of_17_Mk6 S]
      rw[e2 _ _ _ (by decide)]
      simp only[eG,go_sem,thq S,nbr S,zN0,zN1,zN2,zN3,zN4,zI0,zI1,zI2,zI3,reduceCtorEq,of_17_Mk6 S]
      rw[d0 _ _ rfl,d1 _ _ rfl,d2 _ _ rfl]
      simp only[eG,go_sem,thq S,nbr S,zN0,zN1,zN2,zN3,zN4,zI0,zI1,zI2,zI3,reduceCtorEq,of_17_Mk6 S]
      rw[hl,hi,show rowD (Md.make l).mems=rowD ([⟨⟨#[109]⟩,false,1⟩]:List MemT) from congrArg rowD hms]
      rfl
    ·have hms : Md.memsM l (Md.widM l) = [⟨⟨#[109]⟩, false, 1⟩] := by simp [Md.memsM, Md.mem1, Md.w64', a1, eq_true a2, a3, a4]
     have d0:∀ A i,A[i]? =some (.cells ((rowC ([⟨⟨#[109]⟩,false,1⟩]:List MemT)).map .d) 0 false)->deep A 7 (.sref i 0 0 1 3 none)=some (.lst (rowC ([⟨⟨#[109]⟩,false,1⟩]:List MemT)) 1 none,[i]):=fun A i h=>deep_all h (by simp) 5 _ 3 none rfl rfl
     have e1:=fun kx kr f hf=>loop44_1 S (dp+1) l kx kr (Md.nM l) ([⟨⟨#[109]⟩,false,1⟩]:List MemT) (Md.widM l) (Md.lowmod (Md.shi (Md.kM l 0) 1) 3+1) (Md.reg0 l (Md.widM l)).1 (Md.reg1 l (Md.widM l)).1 (Md.reg2 l (Md.widM l)).1 (Md.reg3 l (Md.widM l)).1 n0 n6 f hf
     have e2:=fun kx kr f hf=>loop52_1 S (dp+1) l kx kr (Md.nM l) ([⟨⟨#[109]⟩,false,1⟩]:List MemT) (labsM (Md.nM l+1)) (Md.widM l) (Md.lowmod (Md.shi (Md.kM l 0) 1) 3+1) (Md.reg0 l (Md.widM l)).1 (Md.reg1 l (Md.widM l)).1 (Md.reg2 l (Md.widM l)).1 (Md.reg3 l (Md.widM l)).1 n0 n6 f hf
     simp only[labs_l] at e2
     simp only[rowm1,rowm2,List.length_cons,List.length_nil,zN2] at e1 e2
     simp only[eG,go_sem,thq S,nbr S,zN0,zN1,zN2,zN3,zN4,zI0,zI1,zI2,zI3,reduceCtorEq,of_17_Mk6 S,Int.cast_ofNat_Int,l32,l1,app_m2,o_callVf,deep_ref,dRef_some,c_w6_Make_1 S,b_iand,sh1,sh8,sh10,sh12,sf1,sf8,sf10,sf12,lm3,r1',Int.reduceMul,Int.reduceAdd,Int.toNat_zero,Int.reduceToNat,zI1,zI2,and_true,true_and,and_self,nc_lst1,gt_iff_lt,wN,a1,eq_true a2,a3,a4]
     rw[big_eq,loop_in (on S _ _ [2,3,4,8,9] (by decide) rfl) rfl _ _ _ _ _ _ _ _ _ rfl]
     simp only[eG,go_sem,thq S,nbr S,zN0,zN1,zN2,zN3,zN4,zI0,zI1,zI2,zI3,reduceCtorEq,of_17_Mk6 S]
     rw[e1 _ _ _ (by decide)]
     simp only[eG,go_sem,thq S,nbr S,zN0,zN1,zN2,zN3,zN4,zI0,zI1,zI2,zI3,reduceCtorEq,of_17_Mk6 S]
     rw[big_eq,loop_in (on S _ _ [2,3,4,8,10] (by decide) rfl) rfl _ _ _ _ _ _ _ _ _ rfl]
     simp only[eG,go_sem,thq S,nbr S,zN0,zN1,zN2,zN3,zN4,zI0,zI1,zI2,zI3,reduceCtorEq,of_17_Mk6 S]
     rw[e2 _ _ _ (by decide)]
     simp only[eG,go_sem,thq S,nbr S,zN0,zN1,zN2,zN3,zN4,zI0,zI1,zI2,zI3,reduceCtorEq,of_17_Mk6 S]
     rw[d0 _ _ rfl,d1 _ _ rfl,d2 _ _ rfl]
     simp only[eG,go_sem,thq S,nbr S,zN0,zN1,zN2,zN3,zN4,zI0,zI1,zI2,zI3,reduceCtorEq,of_17_Mk6 S]
     rw[hl,hi,show rowD (Md.make l).mems=rowD ([⟨⟨#[109]⟩,false,1⟩]:List MemT) from congrArg rowD hms]
     rfl
  ·skip
   by_cases a4:0<Md.iand (Md.shi (Md.kM l 1) 12) 3
   ·by_cases a5 : IntKind.i64.wrap ((Md.reg3 l (Md.widM l)).2.2 + Md.widM l) <= 3
    ·have hms : Md.memsM l (Md.widM l) = [⟨⟨#[109]⟩, false, 1⟩, ⟨⟨#[115]⟩, true, 1⟩] := by simp [Md.memsM, Md.mem1, Md.w64', a1, a2, a4, a5]
     have d0:∀ A i,A[i]? =some (.cells ((rowC ([⟨⟨#[109]⟩,false,1⟩,⟨⟨#[115]⟩,true,1⟩]:List MemT)).map .d) 0 false)->deep A 7 (.sref i 0 0 2 3 none)=some (.lst (rowC ([⟨⟨#[109]⟩,false,1⟩,⟨⟨#[115]⟩,true,1⟩]:List MemT)) 2 none,[i]):=fun A i h=>deep_all h (by simp) 5 _ 3 none rfl rfl
     have e1:=fun kx kr f hf=>loop44_1 S (dp+1) l kx kr (Md.nM l) ([⟨⟨#[109]⟩,false,1⟩,⟨⟨#[115]⟩,true,1⟩]:List MemT) (Md.widM l) (Md.lowmod (Md.shi (Md.kM l 0) 1) 3+1) (Md.reg0 l (Md.widM l)).1 (Md.reg1 l (Md.widM l)).1 (Md.reg2 l (Md.widM l)).1 (Md.reg3 l (Md.widM l)).1 n0 n6 f hf
     have e2:=fun kx kr f hf=>loop52_1 S (dp+1) l kx kr (Md.nM l) ([⟨⟨#[109]⟩,false,1⟩,⟨⟨#[115]⟩,true,1⟩]:List MemT) (labsM (Md.nM l+1)) (Md.widM l) (Md.lowmod (Md.shi (Md.kM l 0) 1) 3+1) (Md.reg0 l (Md.widM l)).1 (Md.reg1 l (Md.widM l)).1 (Md.reg2 l (Md.widM l)).1 (Md.reg3 l (Md.widM l)).1 n0 n6 f hf
     simp only[labs_l] at e2
     simp only[rowm1,rowm2,List.length_cons,List.length_nil,zN2] at e1 e2
     simp only[eG,go_sem,thq S,nbr S,zN0,zN1,zN2,zN3,zN4,zI0,zI1,zI2,zI3,reduceCtorEq,of_17_Mk6 S,Int.cast_ofNat_Int,l32,l1,app_m2,o_callVf,deep_ref,dRef_some,c_w6_Make_1 S,b_iand,sh1,sh8,sh10,sh12,sf1,sf8,sf10,sf12,lm3,r1',Int.reduceMul,Int.reduceAdd,Int.toNat_zero,Int.reduceToNat,zI1,zI2,and_true,true_and,and_self,nc_lst1,gt_iff_lt,wN,a1,a2,a4,a5]
     rw[big_eq,loop_in (on S _ _ [2,3,4,8,9] (by decide) rfl) rfl _ _ _ _ _ _ _ _ _ rfl]
     simp only[eG,go_sem,thq S,nbr S,zN0,zN1,zN2,zN3,zN4,zI0,zI1,zI2,zI3,reduceCtorEq,of_17_Mk6 S]
     rw[e1 _ _ _ (by decide)]
     simp only[eG,go_sem,thq S,nbr S,zN0,zN1,zN2,zN3,zN4,zI0,zI1,zI2,zI3,reduceCtorEq,of_17_Mk6 S]
     rw[big_eq,loop_in (on S _ _ [2,3,4,8,10] (by decide) rfl) rfl _ _ _ _ _ _ _ _ _ rfl]
     simp only[eG,go_sem,thq S,nbr S,zN0,zN1,zN2,zN3,zN4,zI0,zI1,zI2,zI3,reduceCtorEq,of_17_Mk6 S]
     rw[e2 _ _ _ (by decide)]
     simp only[eG,go_sem,thq S,nbr S,zN0,zN1,zN2,zN3,zN4,zI0,zI1,zI2,zI3,reduceCtorEq,of_17_Mk6 S]
     rw[d0 _ _ rfl,d1 _ _ rfl,d2 _ _ rfl]
     simp only[eG,go_sem,thq S,nbr S,zN0,zN1,zN2,zN3,zN4,zI0,zI1,zI2,zI3,reduceCtorEq,of_17_Mk6 S]
     rw[hl,hi,show rowD (Md.make l).mems=rowD ([⟨⟨#[109]⟩,false,1⟩,⟨⟨#[115]⟩,true,1⟩]:List MemT) from congrArg rowD hms]
     rfl
    ·have hms : Md.memsM l (Md.widM l) = [⟨⟨#[109]⟩, false, 1⟩] := by simp [Md.memsM, Md.mem1, Md.w64', a1, a2, a4, a5]
     have d0:∀ A i,A[i]? =some (.cells ((rowC ([⟨⟨#[109]⟩,false,1⟩]:List MemT)).map .d) 0 false)->deep A 7 (.sref i 0 0 1 3 none)=some (.lst (rowC ([⟨⟨#[109]⟩,false,1⟩]:List MemT)) 1 none,[i]):=fun A i h=>deep_all h (by simp) 5 _ 3 none rfl rfl
     have e1:=fun kx kr f hf=>loop44_1 S (dp+1) l kx kr (Md.nM l) ([⟨⟨#[109]⟩,false,1⟩]:List MemT) (Md.widM l) (Md.lowmod (Md.shi (Md.kM l 0) 1) 3+1) (Md.reg0 l (Md.widM l)).1 (Md.reg1 l (Md.widM l)).1 (Md.reg2 l (Md.widM l)).1 (Md.reg3 l (Md.widM l)).1 n0 n6 f hf
     have e2:=fun kx kr f hf=>loop52_1 S (dp+1) l kx kr (Md.nM l) ([⟨⟨#[109]⟩,false,1⟩]:List MemT) (labsM (Md.nM l+1)) (Md.widM l) (Md.lowmod (Md.shi (Md.kM l 0) 1) 3+1) (Md.reg0 l (Md.widM l)).1 (Md.reg1 l (Md.widM l)).1 (Md.reg2 l (Md.widM l)).1 (Md.reg3 l (Md.widM l)).1 n0 n6 f hf
     simp only[labs_l] at e2
     simp only[rowm1,rowm2,List.length_cons,List.length_nil,zN2] at e1 e2
     simp only[eG,go_sem,thq S,nbr S,zN0,zN1,zN2,zN3,zN4,zI0,zI1,zI2,zI3,reduceCtorEq,of_17_Mk6 S,Int.cast_ofNat_Int,l32,l1,app_m2,o_callVf,deep_ref,dRef_some,c_w6_Make_1 S,b_iand,sh1,sh8,sh10,sh12,sf1,sf8,sf10,sf12,lm3,r1',Int.reduceMul,Int.reduceAdd,Int.toNat_zero,Int.reduceToNat,zI1,zI2,and_true,true_and,and_self,nc_lst1,gt_iff_lt,wN,a1,a2,a4,a5]
     rw[big_eq,loop_in (on S _ _ [2,3,4,8,9] (by decide) rfl) rfl _ _ _ _ _ _ _ _ _ rfl]
     simp only[eG,go_sem,thq S,nbr S,zN0,zN1,zN2,zN3,zN4,zI0,zI1,zI2,zI3,reduceCtorEq,of_17_Mk6 S]
     rw[e1 _ _ _ (by decide)]
     simp only[eG,go_sem,thq S,nbr S,zN0,zN1,zN2,zN3,zN4,zI0,zI1,zI2,zI3,reduceCtorEq,of_17_Mk6 S]
     rw[big_eq,loop_in (on S _ _ [2,3,4,8,10] (by decide) rfl) rfl _ _ _ _ _ _ _ _ _ rfl]
     simp only[eG,go_sem,thq S,nbr S,zN0,zN1,zN2,zN3,zN4,zI0,zI1,zI2,zI3,reduceCtorEq,of_17_Mk6 S]
     rw[e2 _ _ _ (by decide)]
     simp only[eG,go_sem,thq S,nbr S,zN0,zN1,zN2,zN3,zN4,zI0,zI1,zI2,zI3,reduceCtorEq,of_17_Mk6 S]
     rw[d0 _ _ rfl,d1 _ _ rfl,d2 _ _ rfl]
     simp only[eG,go_sem,thq S,nbr S,zN0,zN1,zN2,zN3,zN4,zI0,zI1,zI2,zI3,reduceCtorEq,of_17_Mk6 S]
     rw[hl,hi,show rowD (Md.make l).mems=rowD ([⟨⟨#[109]⟩,false,1⟩]:List MemT) from congrArg rowD hms]
     rfl
   ·have hms : Md.memsM l (Md.widM l) = [⟨⟨#[109]⟩, false, 1⟩] := by simp [Md.memsM, Md.mem1, Md.w64', a1, a2, a4]
    have d0:∀ A i,A[i]? =some (.cells ((rowC ([⟨⟨#[109]⟩,false,1⟩]:List MemT)).map .d) 0 false)->deep A 7 (.sref i 0 0 1 3 none)=some (.lst (rowC ([⟨⟨#[109]⟩,false,1⟩]:List MemT)) 1 none,[i]):=fun A i h=>deep_all h (by simp) 5 _ 3 none rfl rfl
    have e1:=fun kx kr f hf=>loop44_1 S (dp+1) l kx kr (Md.nM l) ([⟨⟨#[109]⟩,false,1⟩]:List MemT) (Md.widM l) (Md.lowmod (Md.shi (Md.kM l 0) 1) 3+1) (Md.reg0 l (Md.widM l)).1 (Md.reg1 l (Md.widM l)).1 (Md.reg2 l (Md.widM l)).1 (Md.reg3 l (Md.widM l)).1 n0 n6 f hf
    have e2:=fun kx kr f hf=>loop52_1 S (dp+1) l kx kr (Md.nM l) ([⟨⟨#[109]⟩,false,1⟩]:List MemT) (labsM (Md.nM l+1)) (Md.widM l) (Md.lowmod (Md.shi (Md.kM l 0) 1) 3+1) (Md.reg0 l (Md.widM l)).1 (Md.reg1 l (Md.widM l)).1 (Md.reg2 l (Md.widM l)).1 (Md.reg3 l (Md.widM l)).1 n0 n6 f hf
    simp only[labs_l] at e2
    simp only[rowm1,rowm2,List.length_cons,List.length_nil,zN2] at e1 e2
    simp only[eG,go_sem,thq S,nbr S,zN0,zN1,zN2,zN3,zN4,zI0,zI1,zI2,zI3,reduceCtorEq,of_17_Mk6 S,Int.cast_ofNat_Int,l32,l1,app_m2,o_callVf,deep_ref,dRef_some,c_w6_Make_1 S,b_iand,sh1,sh8,sh10,sh12,sf1,sf8,sf10,sf12,lm3,r1',Int.reduceMul,Int.reduceAdd,Int.toNat_zero,Int.reduceToNat,zI1,zI2,and_true,true_and,and_self,nc_lst1,gt_iff_lt,wN,a1,a2,a4]
    rw[big_eq,loop_in (on S _ _ [2,3,4,8,9] (by decide) rfl) rfl _ _ _ _ _ _ _ _ _ rfl]
    simp only[eG,go_sem,thq S,nbr S,zN0,zN1,zN2,zN3,zN4,zI0,zI1,zI2,zI3,reduceCtorEq,of_17_Mk6 S]
    rw[e1 _ _ _ (by decide)]
    simp only[eG,go_sem,thq S,nbr S,zN0,zN1,zN2,zN3,zN4,zI0,zI1,zI2,zI3,reduceCtorEq,of_17_Mk6 S]
    rw[big_eq,loop_in (on S _ _ [2,3,4,8,10] (by decide) rfl) rfl _ _ _ _ _ _ _ _ _ rfl]
    simp only[eG,go_sem,thq S,nbr S,zN0,zN1,zN2,zN3,zN4,zI0,zI1,zI2,zI3,reduceCtorEq,of_17_Mk6 S]
    rw[e2 _ _ _ (by decide)]
    simp only[eG,go_sem,thq S,nbr S,zN0,zN1,zN2,zN3,zN4,zI0,zI1,zI2,zI3,reduceCtorEq,of_17_Mk6 S]
    rw[d0 _ _ rfl,d1 _ _ rfl,d2 _ _ rfl]
    simp only[eG,go_sem,thq S,nbr S,zN0,zN1,zN2,zN3,zN4,zI0,zI1,zI2,zI3,reduceCtorEq,of_17_Mk6 S]
    rw[hl,hi,show rowD (Md.make l).mems=rowD ([⟨⟨#[109]⟩,false,1⟩]:List MemT) from congrArg rowD hms]
    rfl
 ·skip
  by_cases a4:0<Md.iand (Md.shi (Md.kM l 1) 12) 3
  ·by_cases a5 : IntKind.i64.wrap ((Md.reg3 l (Md.widM l)).2.2 + Md.widM l) <= 3
   ·have hms : Md.memsM l (Md.widM l) = [⟨⟨#[115]⟩, true, 1⟩] := by simp [Md.memsM, Md.mem1, Md.w64', a1, a4, a5]
    have d0:∀ A i,A[i]? =some (.cells ((rowC ([⟨⟨#[115]⟩,true,1⟩]:List MemT)).map .d) 0 false)->deep A 7 (.sref i 0 0 1 3 none)=some (.lst (rowC ([⟨⟨#[115]⟩,true,1⟩]:List MemT)) 1 none,[i]):=fun A i h=>deep_all h (by simp) 5 _ 3 none rfl rfl
    have e1:=fun kx kr f hf=>loop44_1 S (dp+1) l kx kr (Md.nM l) ([⟨⟨#[115]⟩,true,1⟩]:List MemT) (Md.widM l) (Md.lowmod (Md.shi (Md.kM l 0) 1) 3+1) (Md.reg0 l (Md.widM l)).1 (Md.reg1 l (Md.widM l)).1 (Md.reg2 l (Md.widM l)).1 (Md.reg3 l (Md.widM l)).1 n0 n6 f hf
    have e2:=fun kx kr f hf=>loop52_1 S (dp+1) l kx kr (Md.nM l) ([⟨⟨#[115]⟩,true,1⟩]:List MemT) (labsM (Md.nM l+1)) (Md.widM l) (Md.lowmod (Md.shi (Md.kM l 0) 1) 3+1) (Md.reg0 l (Md.widM l)).1 (Md.reg1 l (Md.widM l)).1 (Md.reg2 l (Md.widM l)).1 (Md.reg3 l (Md.widM l)).1 n0 n6 f hf
    simp only[labs_l] at e2
    simp only[rowm1,rowm2,List.length_cons,List.length_nil,zN2] at e1 e2
    simp only[eG,go_sem,thq S,nbr S,zN0,zN1,zN2,zN3,zN4,zI0,zI1,zI2,zI3,reduceCtorEq,of_17_Mk6 S,Int.cast_ofNat_Int,l32,l1,app_m2,o_callVf,deep_ref,dRef_some,c_w6_Make_1 S,b_iand,sh1,sh8,sh10,sh12,sf1,sf8,sf10,sf12,lm3,r1',Int.reduceMul,Int.reduceAdd,Int.toNat_zero,Int.reduceToNat,zI1,zI2,and_true,true_and,and_self,nc_lst1,gt_iff_lt,wN,a1,a4,a5]
    rw[big_eq,loop_in (on S _ _ [2,3,4,8,9] (by decide) rfl) rfl _ _ _ _ _ _ _ _ _ rfl]
    simp only[eG,go_sem,thq S,nbr S,zN0,zN1,zN2,zN3,zN4,zI0,zI1,zI2,zI3,reduceCtorEq,of_17_Mk6 S]
    rw[e1 _ _ _ (by decide)]
    simp only[eG,go_sem,thq S,nbr S,zN0,zN1,zN2,zN3,zN4,zI0,zI1,zI2,zI3,reduceCtorEq,of_17_Mk6 S]
    rw[big_eq,loop_in (on S _ _ [2,3,4,8,10] (by decide) rfl) rfl _ _ _ _ _ _ _ _ _ rfl]
    simp only[eG,go_sem,thq S,nbr S,zN0,zN1,zN2,zN3,zN4,zI0,zI1,zI2,zI3,reduceCtorEq,of_17_Mk6 S]
    rw[e2 _ _ _ (by decide)]
    simp only[eG,go_sem,thq S,nbr S,zN0,zN1,zN2,zN3,zN4,zI0,zI1,zI2,zI3,reduceCtorEq,of_17_Mk6 S]
    rw[d0 _ _ rfl,d1 _ _ rfl,d2 _ _ rfl]
    simp only[eG,go_sem,thq S,nbr S,zN0,zN1,zN2,zN3,zN4,zI0,zI1,zI2,zI3,reduceCtorEq,of_17_Mk6 S]
    rw[hl,hi,show rowD (Md.make l).mems=rowD ([⟨⟨#[115]⟩,true,1⟩]:List MemT) from congrArg rowD hms]
    rfl
   ·have hms : Md.memsM l (Md.widM l) = [] := by simp [Md.memsM, Md.mem1, Md.w64', a1, a4, a5]
    have e1:=fun kx kr f hf=>loop44_0 S (dp+1) l kx kr (Md.nM l) (Md.widM l) (Md.lowmod (Md.shi (Md.kM l 0) 1) 3+1) (Md.reg0 l (Md.widM l)).1 (Md.reg1 l (Md.widM l)).1 (Md.reg2 l (Md.widM l)).1 (Md.reg3 l (Md.widM l)).1 n0 n6 f hf
    have e2:=fun kx kr f hf=>loop52_0 S (dp+1) l kx kr (Md.nM l) (labsM (Md.nM l+1)) (Md.widM l) (Md.lowmod (Md.shi (Md.kM l 0) 1) 3+1) (Md.reg0 l (Md.widM l)).1 (Md.reg1 l (Md.widM l)).1 (Md.reg2 l (Md.widM l)).1 (Md.reg3 l (Md.widM l)).1 n0 n6 f hf
    simp only[labs_l] at e2
    simp only[eG,go_sem,thq S,nbr S,zN0,zN1,zN2,zN3,zN4,zI0,zI1,zI2,zI3,reduceCtorEq,of_17_Mk6 S,Int.cast_ofNat_Int,l32,l1,app_m2,o_callVf,deep_ref,dRef_some,c_w6_Make_1 S,b_iand,sh1,sh8,sh10,sh12,sf1,sf8,sf10,sf12,lm3,r1',Int.reduceMul,Int.reduceAdd,Int.toNat_zero,Int.reduceToNat,zI1,zI2,and_true,true_and,and_self,nc_lst1,gt_iff_lt,wN,a1,a4,a5]
    rw[big_eq,loop_in (on S _ _ [2,3,4,8,9] (by decide) rfl) rfl _ _ _ _ _ _ _ _ _ rfl]
    simp only[eG,go_sem,thq S,nbr S,zN0,zN1,zN2,zN3,zN4,zI0,zI1,zI2,zI3,reduceCtorEq,of_17_Mk6 S]
    rw[e1 _ _ _ (by decide)]
    simp only[eG,go_sem,thq S,nbr S,zN0,zN1,zN2,zN3,zN4,zI0,zI1,zI2,zI3,reduceCtorEq,of_17_Mk6 S]
    rw[big_eq,loop_in (on S _ _ [2,3,4,8,10] (by decide) rfl) rfl _ _ _ _ _ _ _ _ _ rfl]
    simp only[eG,go_sem,thq S,nbr S,zN0,zN1,zN2,zN3,zN4,zI0,zI1,zI2,zI3,reduceCtorEq,of_17_Mk6 S]
    rw[e2 _ _ _ (by decide)]
    simp only[eG,go_sem,thq S,nbr S,zN0,zN1,zN2,zN3,zN4,zI0,zI1,zI2,zI3,reduceCtorEq,of_17_Mk6 S]
    rw[d1 _ _ rfl,d2 _ _ rfl]
    simp only[eG,go_sem,thq S,nbr S,zN0,zN1,zN2,zN3,zN4,zI0,zI1,zI2,zI3,reduceCtorEq,of_17_Mk6 S]
    rw[hl,hi,show rowD (Md.make l).mems=rowD ([]:List MemT) from congrArg rowD hms]
    rfl
  ·have hms : Md.memsM l (Md.widM l) = [] := by simp [Md.memsM, Md.mem1, Md.w64', a1, a4]
   have e1:=fun kx kr f hf=>loop44_0 S (dp+1) l kx kr (Md.nM l) (Md.widM l) (Md.lowmod (Md.shi (Md.kM l 0) 1) 3+1) (Md.reg0 l (Md.widM l)).1 (Md.reg1 l (Md.widM l)).1 (Md.reg2 l (Md.widM l)).1 (Md.reg3 l (Md.widM l)).1 n0 n6 f hf
   have e2:=fun kx kr f hf=>loop52_0 S (dp+1) l kx kr (Md.nM l) (labsM (Md.nM l+1)) (Md.widM l) (Md.lowmod (Md.shi (Md.kM l 0) 1) 3+1) (Md.reg0 l (Md.widM l)).1 (Md.reg1 l (Md.widM l)).1 (Md.reg2 l (Md.widM l)).1 (Md.reg3 l (Md.widM l)).1 n0 n6 f hf
   simp only[labs_l] at e2
   simp only[eG,go_sem,thq S,nbr S,zN0,zN1,zN2,zN3,zN4,zI0,zI1,zI2,zI3,reduceCtorEq,of_17_Mk6 S,Int.cast_ofNat_Int,l32,l1,app_m2,o_callVf,deep_ref,dRef_some,c_w6_Make_1 S,b_iand,sh1,sh8,sh10,sh12,sf1,sf8,sf10,sf12,lm3,r1',Int.reduceMul,Int.reduceAdd,Int.toNat_zero,Int.reduceToNat,zI1,zI2,and_true,true_and,and_self,nc_lst1,gt_iff_lt,wN,a1,a4]
   rw[big_eq,loop_in (on S _ _ [2,3,4,8,9] (by decide) rfl) rfl _ _ _ _ _ _ _ _ _ rfl]
   simp only[eG,go_sem,thq S,nbr S,zN0,zN1,zN2,zN3,zN4,zI0,zI1,zI2,zI3,reduceCtorEq,of_17_Mk6 S]
   rw[e1 _ _ _ (by decide)]
   simp only[eG,go_sem,thq S,nbr S,zN0,zN1,zN2,zN3,zN4,zI0,zI1,zI2,zI3,reduceCtorEq,of_17_Mk6 S]
   rw[big_eq,loop_in (on S _ _ [2,3,4,8,10] (by decide) rfl) rfl _ _ _ _ _ _ _ _ _ rfl]
   simp only[eG,go_sem,thq S,nbr S,zN0,zN1,zN2,zN3,zN4,zI0,zI1,zI2,zI3,reduceCtorEq,of_17_Mk6 S]
   rw[e2 _ _ _ (by decide)]
   simp only[eG,go_sem,thq S,nbr S,zN0,zN1,zN2,zN3,zN4,zI0,zI1,zI2,zI3,reduceCtorEq,of_17_Mk6 S]
   rw[d1 _ _ rfl,d2 _ _ rfl]
   simp only[eG,go_sem,thq S,nbr S,zN0,zN1,zN2,zN3,zN4,zI0,zI1,zI2,zI3,reduceCtorEq,of_17_Mk6 S]
   rw[hl,hi,show rowD (Md.make l).mems=rowD ([]:List MemT) from congrArg rowD hms]
   rfl
theorem c_w6_Make (dp:Nat)(l:List Int)(A:List Blk)(nb:Nat):evOwnK false E (evC E fn (dp+4)) 17 A nb (some ([rowD l],[]))=some (.made (.d (progD (Md.make l))) []):=
 Says.deep (raw_w6_Make S dp l ) (np S 17 (by decide)) A nb
end
end Go.Aug.Mc
