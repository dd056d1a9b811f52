import Derived.Test.YthnhboimcidhgaaGreatDoorMk3
namespace Go.Aug.Mc
open Go Go.Aug
open Nat renaming reduceLT -> zN0, reduceEqDiff -> zN1, reduceAdd -> zN2, reduceMul -> zN3, reduceLeDiff -> zN4
open Int renaming reduceEq -> zI0, reduceLT -> zI1, reduceLE -> zI2, reduceNeg -> zI3
set_option linter.unusedSimpArgs false
set_option linter.unusedVariables false
set_option maxHeartbeats 40000000
theorem Jx (A:List Blk)(s:Nat)(cs:List DV)(k:Option Nat)(h:cs.length=s):Z0g A false s (.d (.lst cs 1 k))=some (cs.map .d,1):=by
 show(if cs.length=1*s then some (cs.map AV.d,1) else none)=_
 rw[if_pos (by omega)]
theorem Zj6 (n:Nat):Ji .add (.d (vt ⟨#[108]⟩)) (.d (vt (dig n)))=some (.d (vt (Md.labM n).name)):=by
 have e:(⟨#[108]⟩:ByteArray)++dig n=(Md.labM n).name:=by
  apply ByteArray.ext
  simp[dig,Md.labM]
 rw[Y0q _ _ (by rw[<-ByteArray.size_append,e];show(2:Nat)<=_;decide),e]
theorem l24:24<=Zf:=by unfold Zf;decide
theorem l80:80<=Zf:=by unfold Zf;decide
theorem l1:1<=Zf:=by unfold Zf;decide
theorem Zbw {A:List Blk}{bytes j v:Nat}{out:List Label}{nm:ByteArray}{z:Int}(hA:A[j]? =some (.cells ((rC out).map .d) v false))(h1:(out.length+1)*bytes<=Zf)(h2:out.length+1<=Zf):
  Qs A 2 bytes (.sref j v 0 out.length 2 none) [.d (vt nm),.d (vi z)] 1=some (.turn j (.cells ((rC (out++[⟨nm,z⟩])).map .d) (v+1) false) (.sref j (v+1) 0 (out.length+1) 2 none)):=
 Z89 (x:=(⟨nm,z⟩:Label)) hA rfl (by decide) rfl h1 h2
theorem Zbv {A:List Blk}{bytes j v:Nat}{out:List Ins}{k o d an bn tg:Int}{ag bg:Bool}{nm:ByteArray}(hA:A[j]? =some (.cells ((rC out).map .d) v false))(h1:(out.length+1)*bytes<=Zf)(h2:out.length+1<=Zf):
  Qs A 9 bytes (.sref j v 0 out.length 9 none) [.d (vi k),.d (vi o),.d (vi d),.d (vb ag),.d (vi an),.d (vb bg),.d (vi bn),.d (vt nm),.d (vi tg)] 1=some (.turn j (.cells ((rC (out++[⟨k,o,d,⟨ag,an⟩,⟨bg,bn⟩,nm,tg⟩])).map .d) (v+1) false) (.sref j (v+1) 0 (out.length+1) 9 none)):=
 Z89 (x:=(⟨k,o,d,⟨ag,an⟩,⟨bg,bn⟩,nm,tg⟩:Ins)) hA rfl (by decide) rfl h1 h2
variable {E:Env} {fn:FuncId->Option (Env->cT->cT)}
section
variable (S:Sur E fn)
include S
theorem J4:E.lives 13 1=none/\E.lives 13 23=none/\E.lives 13 27=none/\E.lives 13 31=none/\E.lives 13 35=none/\E.lives 13 39=none:=⟨off S 13 1 (by decide) rfl,off S 13 23 (by decide) rfl,off S 13 27 (by decide) rfl,off S 13 31 (by decide) rfl,off S 13 35 (by decide) rfl,off S 13 39 (by decide) rfl⟩
theorem Zzc (dp:Nat)(l:List Int)(kx:Nat->K)(kr:K)(f n:Nat)(W wn r0 r1 r2 r3:Int)(hn:n<6):
  Zd (inn E 13) (evC E fn (dp+2)) (Zi 44 Zd (inn E 13) (evC E fn (dp+2)) kx kr (f+1)) kx kr (mk .bot 171 [(2,.ref 0 0 0),(3,.fn (.func 38) [.ref 1 0 0]),(4,.ref 2 0 0),(8,aI n),(9,aI 0)]) [.cells [zi,zi,zi,zi,zi,zi,zi,zn,zn,zn] 0 false,.cells [.d (rD l)] 0 false,.cells [aI W,aI wn,aI 6,aI r0,aI r1,aI r2,aI r3,zn,zn,zn] 0 false]=
  Zd (inn E 13) (evC E fn (dp+2)) (Zi 44 Zd (inn E 13) (evC E fn (dp+2)) kx kr f) kx kr (mk .bot 171 [(2,.ref 0 0 0),(3,.fn (.func 38) [.ref 1 0 0]),(4,.ref 2 0 0),(8,aI n),(9,aI 1)]) [.cells [zi,zi,zi,zi,zi,zi,zi,zn,zn,zn] 0 false,.cells [.d (rD l)] 0 false,.cells [aI W,aI wn,aI 6,aI r0,aI r1,aI r2,aI r3,zn,.sref 3 0 0 1 2 none,zn] 0 false,.cells ((rC [Md.labM 0]).map .d) 0 false]:=by
 have w1:∀ z:Int,0<=z->z<100->IntKind.i64.wrap z=z:=fun z h1 h2=>Zt (by omega) (by omega)
 have hn1:n<1000:=by omega
 have hjn:(0:Int)<=n:=by omega
 generalize hK:Zi 44 Zd _ _ kx kr (f+1)=KK
 first | (conv=>lhs;rw[Zd]) | rw[Zd]
 simp only[eG,go_sem,thq S,nbr S,zN0,zN1,zN2,zN3,zN4,zI0,zI1,zI2,zI3,reduceCtorEq,J4 S,Zu,Zs,Y0,w1,Zl,Z11 S,Ze S,Z40 S,Int.reduceMul,Int.reduceAdd,Int.toNat_zero,Int.reduceToNat,zI1,zI2,Zj6,Jx,Z97,Zid,l24,l80,l1,Nat.le_refl,and_true,true_and,and_self,hjn,hn1]
 rw[<-hK,Z1 (on S _ _ [2,3,4,8,9] (by decide) rfl) rfl _ _ _ _ _ _ _ _ _ rfl]
 simp only[eG,go_sem,thq S,nbr S,zN0,zN1,zN2,zN3,zN4,zI0,zI1,zI2,zI3,reduceCtorEq,J4 S]
 try rfl
theorem Zyl (dp:Nat)(l:List Int)(kx:Nat->K)(kr:K)(f n:Nat)(W wn r0 r1 r2 r3:Int)(j:Nat)(ls:List Label)(hj:j<=n)(hn:n<6)(hz:ls.length<100):
  Zd (inn E 13) (evC E fn (dp+2)) (Zi 44 Zd (inn E 13) (evC E fn (dp+2)) kx kr (f+1)) kx kr (mk .bot 171 [(2,.ref 0 0 0),(3,.fn (.func 38) [.ref 1 0 0]),(4,.ref 2 0 0),(8,aI n),(9,aI j)]) [.cells [zi,zi,zi,zi,zi,zi,zi,zn,zn,zn] 0 false,.cells [.d (rD l)] 0 false,.cells [aI W,aI wn,aI 6,aI r0,aI r1,aI r2,aI r3,zn,.sref 3 0 0 ls.length 2 none,zn] 0 false,.cells ((rC ls).map .d) 0 false]=
  Zd (inn E 13) (evC E fn (dp+2)) (Zi 44 Zd (inn E 13) (evC E fn (dp+2)) kx kr f) kx kr (mk .bot 171 [(2,.ref 0 0 0),(3,.fn (.func 38) [.ref 1 0 0]),(4,.ref 2 0 0),(8,aI n),(9,aI (j+1))]) [.cells [zi,zi,zi,zi,zi,zi,zi,zn,zn,zn] 0 false,.cells [.d (rD l)] 0 false,.cells [aI W,aI wn,aI 6,aI r0,aI r1,aI r2,aI r3,zn,.sref 3 0 0 (ls.length+1) 2 none,zn] 0 false,.cells ((rC (ls++[Md.labM j])).map .d) 0 false]:=by
 have w1:∀ z:Int,0<=z->z<100->IntKind.i64.wrap z=z:=fun z h1 h2=>Zt (by omega) (by omega)
 have hn1:n<1000:=by omega
 have h6:(j:Int)<6:=by omega
 have h0:(0:Int)<=j:=by omega
 have h02:(0:Int)<=j+2:=by omega
 have wj1:IntKind.i64.wrap ((j:Int)+1)=(j:Int)+1:=w1 _ (by omega) (by omega)
 have wj2:IntKind.i64.wrap ((j:Int)+2)=(j:Int)+2:=w1 _ (by omega) (by omega)
 have hjn:(j:Int)<=n:=by omega
 have k1:(ls.length+1)*24<=Zf:=by unfold Zf;omega
 have k2:ls.length+1<=Zf:=by unfold Zf;omega
 generalize hK:Zi 44 Zd _ _ kx kr (f+1)=KK
 first | (conv=>lhs;rw[Zd]) | rw[Zd]
 simp only[eG,go_sem,thq S,nbr S,zN0,zN1,zN2,zN3,zN4,zI0,zI1,zI2,zI3,reduceCtorEq,J4 S,Zu,Zs,Y0,w1,Zl,Z11 S,Ze S,Z40 S,Int.reduceMul,Int.reduceAdd,Int.toNat_zero,Int.reduceToNat,zI1,zI2,Zj6,Jx,Z97,Zid,l24,l80,l1,Nat.le_refl,and_true,true_and,and_self,h6,h0,h02,wj1,wj2,hjn,k1,k2,hn1,Int.toNat_natCast,Zbw,Zbv]
 rw[<-hK,Z1 (on S _ _ [2,3,4,8,9] (by decide) rfl) rfl _ _ _ _ _ _ _ _ _ rfl]
 simp only[eG,go_sem,thq S,nbr S,zN0,zN1,zN2,zN3,zN4,zI0,zI1,zI2,zI3,reduceCtorEq,J4 S]
 try rfl
theorem Zza (dp:Nat)(l:List Int)(kx:Nat->K)(kr:K)(f n:Nat)(ls:List Label)(W wn r0 r1 r2 r3:Int)(hj:0<n)(hn:n<6):
  Zc (inn E 13) (evC E fn (dp+2)) (Zi 52 Zc (inn E 13) (evC E fn (dp+2)) kx kr (f+1)) kx kr (mk .bot 171 [(2,.ref 0 0 0),(3,.fn (.func 38) [.ref 1 0 0]),(4,.ref 2 0 0),(8,aI n),(10,aI 0)]) [.cells [zi,zi,zi,zi,zi,zi,zi,zn,zn,zn] 0 false,.cells [.d (rD l)] 0 false,.cells [aI W,aI wn,aI 6,aI r0,aI r1,aI r2,aI r3,zn,.sref 3 0 0 ls.length 2 none,zn] 0 false,.cells ((rC ls).map .d) 0 false]=
  Zc (inn E 13) (evC E fn (dp+2)) (Zi 52 Zc (inn E 13) (evC E fn (dp+2)) kx kr f) kx kr (mk .bot 171 [(2,.ref 0 0 0),(3,.fn (.func 38) [.ref 1 0 0]),(4,.ref 2 0 0),(8,aI n),(10,aI 1)]) [.cells [zi,zi,zi,zi,zi,zi,zi,zn,zn,zn] 0 false,.cells [.d (rD l)] 0 false,.cells [aI W,aI wn,aI 6,aI r0,aI r1,aI r2,aI r3,zn,.sref 3 0 0 ls.length 2 none,.sref 4 0 0 1 9 none] 0 false,.cells ((rC ls).map .d) 0 false,.cells ((rC [Md.insN (Md.kM l 2) n]).map .d) 0 false]:=by
 have w1:∀ z:Int,0<=z->z<100->IntKind.i64.wrap z=z:=fun z h1 h2=>Zt (by omega) (by omega)
 have hn1:n<1000:=by omega
 have hjn:(0:Int)<n:=by omega
 generalize hK:Zi 52 Zc _ _ kx kr (f+1)=KK
 first | (conv=>lhs;rw[Zc]) | rw[Zc]
 simp only[eG,go_sem,thq S,nbr S,zN0,zN1,zN2,zN3,zN4,zI0,zI1,zI2,zI3,reduceCtorEq,J4 S,Zu,Zs,Y0,w1,Zl,Z11 S,Ze S,Z40 S,Int.reduceMul,Int.reduceAdd,Int.toNat_zero,Int.reduceToNat,zI1,zI2,Zj6,Jx,Z97,Zid,l24,l80,l1,Nat.le_refl,and_true,true_and,and_self,hjn,hn1]
 rw[<-hK,Z1 (on S _ _ [2,3,4,8,10] (by decide) rfl) rfl _ _ _ _ _ _ _ _ _ rfl]
 simp only[eG,go_sem,thq S,nbr S,zN0,zN1,zN2,zN3,zN4,zI0,zI1,zI2,zI3,reduceCtorEq,J4 S]
 try rfl
theorem Zyj (dp:Nat)(l:List Int)(kx:Nat->K)(kr:K)(f n:Nat)(ls:List Label)(W wn r0 r1 r2 r3:Int)(j:Nat)(is:List Ins)(hj:j<n)(hn:n<6)(hz:is.length<100):
  Zc (inn E 13) (evC E fn (dp+2)) (Zi 52 Zc (inn E 13) (evC E fn (dp+2)) kx kr (f+1)) kx kr (mk .bot 171 [(2,.ref 0 0 0),(3,.fn (.func 38) [.ref 1 0 0]),(4,.ref 2 0 0),(8,aI n),(10,aI j)]) [.cells [zi,zi,zi,zi,zi,zi,zi,zn,zn,zn] 0 false,.cells [.d (rD l)] 0 false,.cells [aI W,aI wn,aI 6,aI r0,aI r1,aI r2,aI r3,zn,.sref 3 0 0 ls.length 2 none,.sref 4 0 0 is.length 9 none] 0 false,.cells ((rC ls).map .d) 0 false,.cells ((rC is).map .d) 0 false]=
  Zc (inn E 13) (evC E fn (dp+2)) (Zi 52 Zc (inn E 13) (evC E fn (dp+2)) kx kr f) kx kr (mk .bot 171 [(2,.ref 0 0 0),(3,.fn (.func 38) [.ref 1 0 0]),(4,.ref 2 0 0),(8,aI n),(10,aI (j+1))]) [.cells [zi,zi,zi,zi,zi,zi,zi,zn,zn,zn] 0 false,.cells [.d (rD l)] 0 false,.cells [aI W,aI wn,aI 6,aI r0,aI r1,aI r2,aI r3,zn,.sref 3 0 0 ls.length 2 none,.sref 4 0 0 (is.length+1) 9 none] 0 false,.cells ((rC ls).map .d) 0 false,.cells ((rC (is++[Md.insN (Md.kM l (j+2)) n])).map .d) 0 false]:=by
 have w1:∀ z:Int,0<=z->z<100->IntKind.i64.wrap z=z:=fun z h1 h2=>Zt (by omega) (by omega)
 have hn1:n<1000:=by omega
 have h6:(j:Int)<6:=by omega
 have h0:(0:Int)<=j:=by omega
 have h02:(0:Int)<=j+2:=by omega
 have wj1:IntKind.i64.wrap ((j:Int)+1)=(j:Int)+1:=w1 _ (by omega) (by omega)
 have wj2:IntKind.i64.wrap ((j:Int)+2)=(j:Int)+2:=w1 _ (by omega) (by omega)
 have hjn:(j:Int)<n:=by omega
 have k1:(is.length+1)*80<=Zf:=by unfold Zf;omega
 have k2:is.length+1<=Zf:=by unfold Zf;omega
 generalize hK:Zi 52 Zc _ _ kx kr (f+1)=KK
 first | (conv=>lhs;rw[Zc]) | rw[Zc]
 simp only[eG,go_sem,thq S,nbr S,zN0,zN1,zN2,zN3,zN4,zI0,zI1,zI2,zI3,reduceCtorEq,J4 S,Zu,Zs,Y0,w1,Zl,Z11 S,Ze S,Z40 S,Int.reduceMul,Int.reduceAdd,Int.toNat_zero,Int.reduceToNat,zI1,zI2,Zj6,Jx,Z97,Zid,l24,l80,l1,Nat.le_refl,and_true,true_and,and_self,h6,h0,h02,wj1,wj2,hjn,k1,k2,hn1,Int.toNat_natCast,Zbw,Zbv]
 rw[<-hK,Z1 (on S _ _ [2,3,4,8,10] (by decide) rfl) rfl _ _ _ _ _ _ _ _ _ rfl]
 simp only[eG,go_sem,thq S,nbr S,zN0,zN1,zN2,zN3,zN4,zI0,zI1,zI2,zI3,reduceCtorEq,J4 S]
 try rfl
theorem Zzb (dp:Nat)(l:List Int)(kx:Nat->K)(kr:K)(f n:Nat)(ms:List MemT)(W wn r0 r1 r2 r3:Int)(hn:n<6):
  Zd (inn E 13) (evC E fn (dp+2)) (Zi 44 Zd (inn E 13) (evC E fn (dp+2)) kx kr (f+1)) kx kr (mk .bot 171 [(2,.ref 0 0 0),(3,.fn (.func 38) [.ref 1 0 0]),(4,.ref 2 0 0),(8,aI n),(9,aI 0)]) [.cells [zi,zi,zi,zi,zi,zi,zi,zn,zn,zn] 0 false,.cells [.d (rD l)] 0 false,.cells [aI W,aI wn,aI 6,aI r0,aI r1,aI r2,aI r3,.sref 3 0 0 ms.length 3 none,zn,zn] 0 false,.cells ((rC ms).map .d) 0 false]=
  Zd (inn E 13) (evC E fn (dp+2)) (Zi 44 Zd (inn E 13) (evC E fn (dp+2)) kx kr f) kx kr (mk .bot 171 [(2,.ref 0 0 0),(3,.fn (.func 38) [.ref 1 0 0]),(4,.ref 2 0 0),(8,aI n),(9,aI 1)]) [.cells [zi,zi,zi,zi,zi,zi,zi,zn,zn,zn] 0 false,.cells [.d (rD l)] 0 false,.cells [aI W,aI wn,aI 6,aI r0,aI r1,aI r2,aI r3,.sref 3 0 0 ms.length 3 none,.sref 4 0 0 1 2 none,zn] 0 false,.cells ((rC ms).map .d) 0 false,.cells ((rC [Md.labM 0]).map .d) 0 false]:=by
 have w1:∀ z:Int,0<=z->z<100->IntKind.i64.wrap z=z:=fun z h1 h2=>Zt (by omega) (by omega)
 have hn1:n<1000:=by omega
 have hjn:(0:Int)<=n:=by omega
 generalize hK:Zi 44 Zd _ _ kx kr (f+1)=KK
 first | (conv=>lhs;rw[Zd]) | rw[Zd]
 simp only[eG,go_sem,thq S,nbr S,zN0,zN1,zN2,zN3,zN4,zI0,zI1,zI2,zI3,reduceCtorEq,J4 S,Zu,Zs,Y0,w1,Zl,Z11 S,Ze S,Z40 S,Int.reduceMul,Int.reduceAdd,Int.toNat_zero,Int.reduceToNat,zI1,zI2,Zj6,Jx,Z97,Zid,l24,l80,l1,Nat.le_refl,and_true,true_and,and_self,hjn,hn1]
 rw[<-hK,Z1 (on S _ _ [2,3,4,8,9] (by decide) rfl) rfl _ _ _ _ _ _ _ _ _ rfl]
 simp only[eG,go_sem,thq S,nbr S,zN0,zN1,zN2,zN3,zN4,zI0,zI1,zI2,zI3,reduceCtorEq,J4 S]
 try rfl
theorem Zyk (dp:Nat)(l:List Int)(kx:Nat->K)(kr:K)(f n:Nat)(ms:List MemT)(W wn r0 r1 r2 r3:Int)(j:Nat)(ls:List Label)(hj:j<=n)(hn:n<6)(hz:ls.length<100):
  Zd (inn E 13) (evC E fn (dp+2)) (Zi 44 Zd (inn E 13) (evC E fn (dp+2)) kx kr (f+1)) kx kr (mk .bot 171 [(2,.ref 0 0 0),(3,.fn (.func 38) [.ref 1 0 0]),(4,.ref 2 0 0),(8,aI n),(9,aI j)]) [.cells [zi,zi,zi,zi,zi,zi,zi,zn,zn,zn] 0 false,.cells [.d (rD l)] 0 false,.cells [aI W,aI wn,aI 6,aI r0,aI r1,aI r2,aI r3,.sref 3 0 0 ms.length 3 none,.sref 4 0 0 ls.length 2 none,zn] 0 false,.cells ((rC ms).map .d) 0 false,.cells ((rC ls).map .d) 0 false]=
  Zd (inn E 13) (evC E fn (dp+2)) (Zi 44 Zd (inn E 13) (evC E fn (dp+2)) kx kr f) kx kr (mk .bot 171 [(2,.ref 0 0 0),(3,.fn (.func 38) [.ref 1 0 0]),(4,.ref 2 0 0),(8,aI n),(9,aI (j+1))]) [.cells [zi,zi,zi,zi,zi,zi,zi,zn,zn,zn] 0 false,.cells [.d (rD l)] 0 false,.cells [aI W,aI wn,aI 6,aI r0,aI r1,aI r2,aI r3,.sref 3 0 0 ms.length 3 none,.sref 4 0 0 (ls.length+1) 2 none,zn] 0 false,.cells ((rC ms).map .d) 0 false,.cells ((rC (ls++[Md.labM j])).map .d) 0 false]:=by
 have w1:∀ z:Int,0<=z->z<100->IntKind.i64.wrap z=z:=fun z h1 h2=>Zt (by omega) (by omega)
 have hn1:n<1000:=by omega
 have h6:(j:Int)<6:=by omega
 have h0:(0:Int)<=j:=by omega
 have h02:(0:Int)<=j+2:=by omega
 have wj1:IntKind.i64.wrap ((j:Int)+1)=(j:Int)+1:=w1 _ (by omega) (by omega)
 have wj2:IntKind.i64.wrap ((j:Int)+2)=(j:Int)+2:=w1 _ (by omega) (by omega)
 have hjn:(j:Int)<=n:=by omega
 have k1:(ls.length+1)*24<=Zf:=by unfold Zf;omega
 have k2:ls.length+1<=Zf:=by unfold Zf;omega
 generalize hK:Zi 44 Zd _ _ kx kr (f+1)=KK
 first | (conv=>lhs;rw[Zd]) | rw[Zd]
 simp only[eG,go_sem,thq S,nbr S,zN0,zN1,zN2,zN3,zN4,zI0,zI1,zI2,zI3,reduceCtorEq,J4 S,Zu,Zs,Y0,w1,Zl,Z11 S,Ze S,Z40 S,Int.reduceMul,Int.reduceAdd,Int.toNat_zero,Int.reduceToNat,zI1,zI2,Zj6,Jx,Z97,Zid,l24,l80,l1,Nat.le_refl,and_true,true_and,and_self,h6,h0,h02,wj1,wj2,hjn,k1,k2,hn1,Int.toNat_natCast,Zbw,Zbv]
 rw[<-hK,Z1 (on S _ _ [2,3,4,8,9] (by decide) rfl) rfl _ _ _ _ _ _ _ _ _ rfl]
 simp only[eG,go_sem,thq S,nbr S,zN0,zN1,zN2,zN3,zN4,zI0,zI1,zI2,zI3,reduceCtorEq,J4 S]
 try rfl
theorem Zz9 (dp:Nat)(l:List Int)(kx:Nat->K)(kr:K)(f n:Nat)(ms:List MemT)(ls:List Label)(W wn r0 r1 r2 r3:Int)(hj:0<n)(hn:n<6):
  Zc (inn E 13) (evC E fn (dp+2)) (Zi 52 Zc (inn E 13) (evC E fn (dp+2)) kx kr (f+1)) kx kr (mk .bot 171 [(2,.ref 0 0 0),(3,.fn (.func 38) [.ref 1 0 0]),(4,.ref 2 0 0),(8,aI n),(10,aI 0)]) [.cells [zi,zi,zi,zi,zi,zi,zi,zn,zn,zn] 0 false,.cells [.d (rD l)] 0 false,.cells [aI W,aI wn,aI 6,aI r0,aI r1,aI r2,aI r3,.sref 3 0 0 ms.length 3 none,.sref 4 0 0 ls.length 2 none,zn] 0 false,.cells ((rC ms).map .d) 0 false,.cells ((rC ls).map .d) 0 false]=
  Zc (inn E 13) (evC E fn (dp+2)) (Zi 52 Zc (inn E 13) (evC E fn (dp+2)) kx kr f) kx kr (mk .bot 171 [(2,.ref 0 0 0),(3,.fn (.func 38) [.ref 1 0 0]),(4,.ref 2 0 0),(8,aI n),(10,aI 1)]) [.cells [zi,zi,zi,zi,zi,zi,zi,zn,zn,zn] 0 false,.cells [.d (rD l)] 0 false,.cells [aI W,aI wn,aI 6,aI r0,aI r1,aI r2,aI r3,.sref 3 0 0 ms.length 3 none,.sref 4 0 0 ls.length 2 none,.sref 5 0 0 1 9 none] 0 false,.cells ((rC ms).map .d) 0 false,.cells ((rC ls).map .d) 0 false,.cells ((rC [Md.insN (Md.kM l 2) n]).map .d) 0 false]:=by
 have w1:∀ z:Int,0<=z->z<100->IntKind.i64.wrap z=z:=fun z h1 h2=>Zt (by omega) (by omega)
 have hn1:n<1000:=by omega
 have hjn:(0:Int)<n:=by omega
 generalize hK:Zi 52 Zc _ _ kx kr (f+1)=KK
 first | (conv=>lhs;rw[Zc]) | rw[Zc]
 simp only[eG,go_sem,thq S,nbr S,zN0,zN1,zN2,zN3,zN4,zI0,zI1,zI2,zI3,reduceCtorEq,J4 S,Zu,Zs,Y0,w1,Zl,Z11 S,Ze S,Z40 S,Int.reduceMul,Int.reduceAdd,Int.toNat_zero,Int.reduceToNat,zI1,zI2,Zj6,Jx,Z97,Zid,l24,l80,l1,Nat.le_refl,and_true,true_and,and_self,hjn,hn1]
 rw[<-hK,Z1 (on S _ _ [2,3,4,8,10] (by decide) rfl) rfl _ _ _ _ _ _ _ _ _ rfl]
 simp only[eG,go_sem,thq S,nbr S,zN0,zN1,zN2,zN3,zN4,zI0,zI1,zI2,zI3,reduceCtorEq,J4 S]
 try rfl
theorem Zyi (dp:Nat)(l:List Int)(kx:Nat->K)(kr:K)(f n:Nat)(ms:List MemT)(ls:List Label)(W wn r0 r1 r2 r3:Int)(j:Nat)(is:List Ins)(hj:j<n)(hn:n<6)(hz:is.length<100):
  Zc (inn E 13) (evC E fn (dp+2)) (Zi 52 Zc (inn E 13) (evC E fn (dp+2)) kx kr (f+1)) kx kr (mk .bot 171 [(2,.ref 0 0 0),(3,.fn (.func 38) [.ref 1 0 0]),(4,.ref 2 0 0),(8,aI n),(10,aI j)]) [.cells [zi,zi,zi,zi,zi,zi,zi,zn,zn,zn] 0 false,.cells [.d (rD l)] 0 false,.cells [aI W,aI wn,aI 6,aI r0,aI r1,aI r2,aI r3,.sref 3 0 0 ms.length 3 none,.sref 4 0 0 ls.length 2 none,.sref 5 0 0 is.length 9 none] 0 false,.cells ((rC ms).map .d) 0 false,.cells ((rC ls).map .d) 0 false,.cells ((rC is).map .d) 0 false]=
  Zc (inn E 13) (evC E fn (dp+2)) (Zi 52 Zc (inn E 13) (evC E fn (dp+2)) kx kr f) kx kr (mk .bot 171 [(2,.ref 0 0 0),(3,.fn (.func 38) [.ref 1 0 0]),(4,.ref 2 0 0),(8,aI n),(10,aI (j+1))]) [.cells [zi,zi,zi,zi,zi,zi,zi,zn,zn,zn] 0 false,.cells [.d (rD l)] 0 false,.cells [aI W,aI wn,aI 6,aI r0,aI r1,aI r2,aI r3,.sref 3 0 0 ms.length 3 none,.sref 4 0 0 ls.length 2 none,.sref 5 0 0 (is.length+1) 9 none] 0 false,.cells ((rC ms).map .d) 0 false,.cells ((rC ls).map .d) 0 false,.cells ((rC (is++[Md.insN (Md.kM l (j+2)) n])).map .d) 0 false]:=by
 have w1:∀ z:Int,0<=z->z<100->IntKind.i64.wrap z=z:=fun z h1 h2=>Zt (by omega) (by omega)
 have hn1:n<1000:=by omega
 have h6:(j:Int)<6:=by omega
 have h0:(0:Int)<=j:=by omega
 have h02:(0:Int)<=j+2:=by omega
 have wj1:IntKind.i64.wrap ((j:Int)+1)=(j:Int)+1:=w1 _ (by omega) (by omega)
 have wj2:IntKind.i64.wrap ((j:Int)+2)=(j:Int)+2:=w1 _ (by omega) (by omega)
 have hjn:(j:Int)<n:=by omega
 have k1:(is.length+1)*80<=Zf:=by unfold Zf;omega
 have k2:is.length+1<=Zf:=by unfold Zf;omega
 generalize hK:Zi 52 Zc _ _ kx kr (f+1)=KK
 first | (conv=>lhs;rw[Zc]) | rw[Zc]
 simp only[eG,go_sem,thq S,nbr S,zN0,zN1,zN2,zN3,zN4,zI0,zI1,zI2,zI3,reduceCtorEq,J4 S,Zu,Zs,Y0,w1,Zl,Z11 S,Ze S,Z40 S,Int.reduceMul,Int.reduceAdd,Int.toNat_zero,Int.reduceToNat,zI1,zI2,Zj6,Jx,Z97,Zid,l24,l80,l1,Nat.le_refl,and_true,true_and,and_self,h6,h0,h02,wj1,wj2,hjn,k1,k2,hn1,Int.toNat_natCast,Zbw,Zbv]
 rw[<-hK,Z1 (on S _ _ [2,3,4,8,10] (by decide) rfl) rfl _ _ _ _ _ _ _ _ _ rfl]
 simp only[eG,go_sem,thq S,nbr S,zN0,zN1,zN2,zN3,zN4,zI0,zI1,zI2,zI3,reduceCtorEq,J4 S]
 try rfl
end
def Z1s (n:Nat):List Label:=(List.range n).map Md.labM
def Z5v (l:List Int)(n j:Nat):List Ins:=(List.range j).map fun i:Nat=>Md.insN (Md.kM l (i+2)) n
theorem Zxc (n:Nat):Z1s n++[Md.labM n]=Z1s (n+1):=by simp[Z1s,List.range_succ]
theorem Zxg (l:List Int)(n j:Nat):Z5v l n j++[Md.insN (Md.kM l (j+2)) n]=Z5v l n (j+1):=by simp[Z5v,List.range_succ]
theorem Z20 (n:Nat):(Z1s n).length=n:=by simp[Z1s]
theorem Zd2 (l:List Int)(n j:Nat):(Z5v l n j).length=j:=by simp[Z5v]
variable {E:Env} {fn:FuncId->Option (Env->cT->cT)}
section
variable (S:Sur E fn)
include S
theorem Z8u:E.lives 13 1=none/\E.lives 13 23=none/\E.lives 13 27=none/\E.lives 13 31=none/\E.lives 13 35=none/\E.lives 13 39=none:=⟨off S 13 1 (by decide) rfl,off S 13 23 (by decide) rfl,off S 13 27 (by decide) rfl,off S 13 31 (by decide) rfl,off S 13 35 (by decide) rfl,off S 13 39 (by decide) rfl⟩
theorem Y1u (dp:Nat)(l:List Int)(kx:Nat->K)(kr:K)(n:Nat)(W wn r0 r1 r2 r3:Int)(hn:n<6):∀ m j f,j+m=(n+1)->m<=f->
  Zd (inn E 13) (evC E fn (dp+2)) (Zi 44 Zd (inn E 13) (evC E fn (dp+2)) kx kr f) kx kr (mk .bot 171 [(2,.ref 0 0 0),(3,.fn (.func 38) [.ref 1 0 0]),(4,.ref 2 0 0),(8,aI n),(9,aI (j:Int))]) [.cells [zi,zi,zi,zi,zi,zi,zi,zn,zn,zn] 0 false,.cells [.d (rD l)] 0 false,.cells [aI W,aI wn,aI 6,aI r0,aI r1,aI r2,aI r3,zn,.sref 3 0 0 (j) 2 none,zn] 0 false,.cells ((rC (Z1s j)).map .d) 0 false]=
  kx 3 (mk .bot 171 ((141,Q7 false)::(140,aI n)::(139,aI ((n+1:Nat):Int))::[(2,.ref 0 0 0),(3,.fn (.func 38) [.ref 1 0 0]),(4,.ref 2 0 0),(8,aI n),(9,aI ((n+1:Nat):Int))])) [.cells [zi,zi,zi,zi,zi,zi,zi,zn,zn,zn] 0 false,.cells [.d (rD l)] 0 false,.cells [aI W,aI wn,aI 6,aI r0,aI r1,aI r2,aI r3,zn,.sref 3 0 0 ((n+1)) 2 none,zn] 0 false,.cells ((rC (Z1s (n+1))).map .d) 0 false]:=by
 intro m
 induction m with
 | zero=>
  intro j f hj _
  obtain rfl:j=n+1:=by omega
  have hz:¬(((n+1:Nat):Int)<=n):=by omega
  generalize Zi 44 Zd _ _ kx kr f=KK
  first | (conv=>lhs;rw[Zd]) | rw[Zd]
  simp only[eG,go_sem,thq S,nbr S,Nat.reduceLT,Nat.reduceEqDiff,Nat.reduceAdd,Nat.reduceMul,Nat.reduceLeDiff,Int.reduceEq,Int.reduceLT,Int.reduceLE,Int.reduceNeg,reduceCtorEq,Z8u S,hz]
 | succ m ih=>
  intro j f hj hf
  obtain⟨f,rfl⟩:∃ g,f=g+1:=⟨f-1,by omega⟩
  have e:=Zyl S dp l kx kr f n W wn r0 r1 r2 r3 j (Z1s j) (by omega) hn (by rw[Z20];omega)
  rw[Zxc,Z20] at e
  rw[e]
  exact ih (j+1) f (by omega) (by omega)
theorem Zpc (dp:Nat)(l:List Int)(kx:Nat->K)(kr:K)(n:Nat)(W wn r0 r1 r2 r3:Int)(h0:0<n)(hn:n<6)(f:Nat)(hf:10<=f):
  Zd (inn E 13) (evC E fn (dp+2)) (Zi 44 Zd (inn E 13) (evC E fn (dp+2)) kx kr f) kx kr (mk .bot 171 [(2,.ref 0 0 0),(3,.fn (.func 38) [.ref 1 0 0]),(4,.ref 2 0 0),(8,aI n),(9,aI 0)]) [.cells [zi,zi,zi,zi,zi,zi,zi,zn,zn,zn] 0 false,.cells [.d (rD l)] 0 false,.cells [aI W,aI wn,aI 6,aI r0,aI r1,aI r2,aI r3,zn,zn,zn] 0 false]=
  kx 3 (mk .bot 171 ((141,Q7 false)::(140,aI n)::(139,aI ((n+1:Nat):Int))::[(2,.ref 0 0 0),(3,.fn (.func 38) [.ref 1 0 0]),(4,.ref 2 0 0),(8,aI n),(9,aI ((n+1:Nat):Int))])) [.cells [zi,zi,zi,zi,zi,zi,zi,zn,zn,zn] 0 false,.cells [.d (rD l)] 0 false,.cells [aI W,aI wn,aI 6,aI r0,aI r1,aI r2,aI r3,zn,.sref 3 0 0 ((n+1)) 2 none,zn] 0 false,.cells ((rC (Z1s (n+1))).map .d) 0 false]:=by
 obtain⟨f,rfl⟩:∃ g,f=g+1:=⟨f-1,by omega⟩
 rw[Zzc S dp l kx kr f n W wn r0 r1 r2 r3 hn]
 exact Y1u S dp l kx kr n W wn r0 r1 r2 r3 hn n 1 f (by omega) (by omega)
theorem Y1s (dp:Nat)(l:List Int)(kx:Nat->K)(kr:K)(n:Nat)(ls:List Label)(W wn r0 r1 r2 r3:Int)(hn:n<6):∀ m j f,j+m=n->m<=f->
  Zc (inn E 13) (evC E fn (dp+2)) (Zi 52 Zc (inn E 13) (evC E fn (dp+2)) kx kr f) kx kr (mk .bot 171 [(2,.ref 0 0 0),(3,.fn (.func 38) [.ref 1 0 0]),(4,.ref 2 0 0),(8,aI n),(10,aI (j:Int))]) [.cells [zi,zi,zi,zi,zi,zi,zi,zn,zn,zn] 0 false,.cells [.d (rD l)] 0 false,.cells [aI W,aI wn,aI 6,aI r0,aI r1,aI r2,aI r3,zn,.sref 3 0 0 ls.length 2 none,.sref 4 0 0 (j) 9 none] 0 false,.cells ((rC ls).map .d) 0 false,.cells ((rC (Z5v l n j)).map .d) 0 false]=
  kx 5 (mk .bot 171 ((156,Q7 false)::(155,aI n)::(154,aI n)::[(2,.ref 0 0 0),(3,.fn (.func 38) [.ref 1 0 0]),(4,.ref 2 0 0),(8,aI n),(10,aI (n:Int))])) [.cells [zi,zi,zi,zi,zi,zi,zi,zn,zn,zn] 0 false,.cells [.d (rD l)] 0 false,.cells [aI W,aI wn,aI 6,aI r0,aI r1,aI r2,aI r3,zn,.sref 3 0 0 ls.length 2 none,.sref 4 0 0 (n) 9 none] 0 false,.cells ((rC ls).map .d) 0 false,.cells ((rC (Z5v l n n)).map .d) 0 false]:=by
 intro m
 induction m with
 | zero=>
  intro j f hj _
  obtain rfl:n=j:=by omega
  have hz:¬((n:Int)<n):=by omega
  generalize Zi 52 Zc _ _ kx kr f=KK
  first | (conv=>lhs;rw[Zc]) | rw[Zc]
  simp only[eG,go_sem,thq S,nbr S,Nat.reduceLT,Nat.reduceEqDiff,Nat.reduceAdd,Nat.reduceMul,Nat.reduceLeDiff,Int.reduceEq,Int.reduceLT,Int.reduceLE,Int.reduceNeg,reduceCtorEq,Z8u S,hz]
 | succ m ih=>
  intro j f hj hf
  obtain⟨f,rfl⟩:∃ g,f=g+1:=⟨f-1,by omega⟩
  have e:=Zyj S dp l kx kr f n ls W wn r0 r1 r2 r3 j (Z5v l n j) (by omega) hn (by rw[Zd2];omega)
  rw[Zxg,Zd2] at e
  rw[e]
  exact ih (j+1) f (by omega) (by omega)
theorem Zpb (dp:Nat)(l:List Int)(kx:Nat->K)(kr:K)(n:Nat)(ls:List Label)(W wn r0 r1 r2 r3:Int)(h0:0<n)(hn:n<6)(f:Nat)(hf:10<=f):
  Zc (inn E 13) (evC E fn (dp+2)) (Zi 52 Zc (inn E 13) (evC E fn (dp+2)) kx kr f) kx kr (mk .bot 171 [(2,.ref 0 0 0),(3,.fn (.func 38) [.ref 1 0 0]),(4,.ref 2 0 0),(8,aI n),(10,aI 0)]) [.cells [zi,zi,zi,zi,zi,zi,zi,zn,zn,zn] 0 false,.cells [.d (rD l)] 0 false,.cells [aI W,aI wn,aI 6,aI r0,aI r1,aI r2,aI r3,zn,.sref 3 0 0 ls.length 2 none,zn] 0 false,.cells ((rC ls).map .d) 0 false]=
  kx 5 (mk .bot 171 ((156,Q7 false)::(155,aI n)::(154,aI n)::[(2,.ref 0 0 0),(3,.fn (.func 38) [.ref 1 0 0]),(4,.ref 2 0 0),(8,aI n),(10,aI (n:Int))])) [.cells [zi,zi,zi,zi,zi,zi,zi,zn,zn,zn] 0 false,.cells [.d (rD l)] 0 false,.cells [aI W,aI wn,aI 6,aI r0,aI r1,aI r2,aI r3,zn,.sref 3 0 0 ls.length 2 none,.sref 4 0 0 (n) 9 none] 0 false,.cells ((rC ls).map .d) 0 false,.cells ((rC (Z5v l n n)).map .d) 0 false]:=by
 obtain⟨f,rfl⟩:∃ g,f=g+1:=⟨f-1,by omega⟩
 rw[Zza S dp l kx kr f n ls W wn r0 r1 r2 r3 h0 hn]
 exact Y1s S dp l kx kr n ls W wn r0 r1 r2 r3 hn (n-1) 1 f (by omega) (by omega)
theorem Y1t (dp:Nat)(l:List Int)(kx:Nat->K)(kr:K)(n:Nat)(ms:List MemT)(W wn r0 r1 r2 r3:Int)(hn:n<6):∀ m j f,j+m=(n+1)->m<=f->
  Zd (inn E 13) (evC E fn (dp+2)) (Zi 44 Zd (inn E 13) (evC E fn (dp+2)) kx kr f) kx kr (mk .bot 171 [(2,.ref 0 0 0),(3,.fn (.func 38) [.ref 1 0 0]),(4,.ref 2 0 0),(8,aI n),(9,aI (j:Int))]) [.cells [zi,zi,zi,zi,zi,zi,zi,zn,zn,zn] 0 false,.cells [.d (rD l)] 0 false,.cells [aI W,aI wn,aI 6,aI r0,aI r1,aI r2,aI r3,.sref 3 0 0 ms.length 3 none,.sref 4 0 0 (j) 2 none,zn] 0 false,.cells ((rC ms).map .d) 0 false,.cells ((rC (Z1s j)).map .d) 0 false]=
  kx 3 (mk .bot 171 ((141,Q7 false)::(140,aI n)::(139,aI ((n+1:Nat):Int))::[(2,.ref 0 0 0),(3,.fn (.func 38) [.ref 1 0 0]),(4,.ref 2 0 0),(8,aI n),(9,aI ((n+1:Nat):Int))])) [.cells [zi,zi,zi,zi,zi,zi,zi,zn,zn,zn] 0 false,.cells [.d (rD l)] 0 false,.cells [aI W,aI wn,aI 6,aI r0,aI r1,aI r2,aI r3,.sref 3 0 0 ms.length 3 none,.sref 4 0 0 ((n+1)) 2 none,zn] 0 false,.cells ((rC ms).map .d) 0 false,.cells ((rC (Z1s (n+1))).map .d) 0 false]:=by
 intro m
 induction m with
 | zero=>
  intro j f hj _
  obtain rfl:j=n+1:=by omega
  have hz:¬(((n+1:Nat):Int)<=n):=by omega
  generalize Zi 44 Zd _ _ kx kr f=KK
  first | (conv=>lhs;rw[Zd]) | rw[Zd]
  simp only[eG,go_sem,thq S,nbr S,Nat.reduceLT,Nat.reduceEqDiff,Nat.reduceAdd,Nat.reduceMul,Nat.reduceLeDiff,Int.reduceEq,Int.reduceLT,Int.reduceLE,Int.reduceNeg,reduceCtorEq,Z8u S,hz]
 | succ m ih=>
  intro j f hj hf
  obtain⟨f,rfl⟩:∃ g,f=g+1:=⟨f-1,by omega⟩
  have e:=Zyk S dp l kx kr f n ms W wn r0 r1 r2 r3 j (Z1s j) (by omega) hn (by rw[Z20];omega)
  rw[Zxc,Z20] at e
  rw[e]
  exact ih (j+1) f (by omega) (by omega)
theorem Z2t (dp:Nat)(l:List Int)(kx:Nat->K)(kr:K)(n:Nat)(ms:List MemT)(W wn r0 r1 r2 r3:Int)(h0:0<n)(hn:n<6)(f:Nat)(hf:10<=f):
  Zd (inn E 13) (evC E fn (dp+2)) (Zi 44 Zd (inn E 13) (evC E fn (dp+2)) kx kr f) kx kr (mk .bot 171 [(2,.ref 0 0 0),(3,.fn (.func 38) [.ref 1 0 0]),(4,.ref 2 0 0),(8,aI n),(9,aI 0)]) [.cells [zi,zi,zi,zi,zi,zi,zi,zn,zn,zn] 0 false,.cells [.d (rD l)] 0 false,.cells [aI W,aI wn,aI 6,aI r0,aI r1,aI r2,aI r3,.sref 3 0 0 ms.length 3 none,zn,zn] 0 false,.cells ((rC ms).map .d) 0 false]=
  kx 3 (mk .bot 171 ((141,Q7 false)::(140,aI n)::(139,aI ((n+1:Nat):Int))::[(2,.ref 0 0 0),(3,.fn (.func 38) [.ref 1 0 0]),(4,.ref 2 0 0),(8,aI n),(9,aI ((n+1:Nat):Int))])) [.cells [zi,zi,zi,zi,zi,zi,zi,zn,zn,zn] 0 false,.cells [.d (rD l)] 0 false,.cells [aI W,aI wn,aI 6,aI r0,aI r1,aI r2,aI r3,.sref 3 0 0 ms.length 3 none,.sref 4 0 0 ((n+1)) 2 none,zn] 0 false,.cells ((rC ms).map .d) 0 false,.cells ((rC (Z1s (n+1))).map .d) 0 false]:=by
 obtain⟨f,rfl⟩:∃ g,f=g+1:=⟨f-1,by omega⟩
 rw[Zzb S dp l kx kr f n ms W wn r0 r1 r2 r3 hn]
 exact Y1t S dp l kx kr n ms W wn r0 r1 r2 r3 hn n 1 f (by omega) (by omega)
theorem Y1r (dp:Nat)(l:List Int)(kx:Nat->K)(kr:K)(n:Nat)(ms:List MemT)(ls:List Label)(W wn r0 r1 r2 r3:Int)(hn:n<6):∀ m j f,j+m=n->m<=f->
  Zc (inn E 13) (evC E fn (dp+2)) (Zi 52 Zc (inn E 13) (evC E fn (dp+2)) kx kr f) kx kr (mk .bot 171 [(2,.ref 0 0 0),(3,.fn (.func 38) [.ref 1 0 0]),(4,.ref 2 0 0),(8,aI n),(10,aI (j:Int))]) [.cells [zi,zi,zi,zi,zi,zi,zi,zn,zn,zn] 0 false,.cells [.d (rD l)] 0 false,.cells [aI W,aI wn,aI 6,aI r0,aI r1,aI r2,aI r3,.sref 3 0 0 ms.length 3 none,.sref 4 0 0 ls.length 2 none,.sref 5 0 0 (j) 9 none] 0 false,.cells ((rC ms).map .d) 0 false,.cells ((rC ls).map .d) 0 false,.cells ((rC (Z5v l n j)).map .d) 0 false]=
  kx 5 (mk .bot 171 ((156,Q7 false)::(155,aI n)::(154,aI n)::[(2,.ref 0 0 0),(3,.fn (.func 38) [.ref 1 0 0]),(4,.ref 2 0 0),(8,aI n),(10,aI (n:Int))])) [.cells [zi,zi,zi,zi,zi,zi,zi,zn,zn,zn] 0 false,.cells [.d (rD l)] 0 false,.cells [aI W,aI wn,aI 6,aI r0,aI r1,aI r2,aI r3,.sref 3 0 0 ms.length 3 none,.sref 4 0 0 ls.length 2 none,.sref 5 0 0 (n) 9 none] 0 false,.cells ((rC ms).map .d) 0 false,.cells ((rC ls).map .d) 0 false,.cells ((rC (Z5v l n n)).map .d) 0 false]:=by
 intro m
 induction m with
 | zero=>
  intro j f hj _
  obtain rfl:n=j:=by omega
  have hz:¬((n:Int)<n):=by omega
  generalize Zi 52 Zc _ _ kx kr f=KK
  first | (conv=>lhs;rw[Zc]) | rw[Zc]
  simp only[eG,go_sem,thq S,nbr S,Nat.reduceLT,Nat.reduceEqDiff,Nat.reduceAdd,Nat.reduceMul,Nat.reduceLeDiff,Int.reduceEq,Int.reduceLT,Int.reduceLE,Int.reduceNeg,reduceCtorEq,Z8u S,hz]
 | succ m ih=>
  intro j f hj hf
  obtain⟨f,rfl⟩:∃ g,f=g+1:=⟨f-1,by omega⟩
  have e:=Zyi S dp l kx kr f n ms ls W wn r0 r1 r2 r3 j (Z5v l n j) (by omega) hn (by rw[Zd2];omega)
  rw[Zxg,Zd2] at e
  rw[e]
  exact ih (j+1) f (by omega) (by omega)
theorem Z2s (dp:Nat)(l:List Int)(kx:Nat->K)(kr:K)(n:Nat)(ms:List MemT)(ls:List Label)(W wn r0 r1 r2 r3:Int)(h0:0<n)(hn:n<6)(f:Nat)(hf:10<=f):
  Zc (inn E 13) (evC E fn (dp+2)) (Zi 52 Zc (inn E 13) (evC E fn (dp+2)) kx kr f) kx kr (mk .bot 171 [(2,.ref 0 0 0),(3,.fn (.func 38) [.ref 1 0 0]),(4,.ref 2 0 0),(8,aI n),(10,aI 0)]) [.cells [zi,zi,zi,zi,zi,zi,zi,zn,zn,zn] 0 false,.cells [.d (rD l)] 0 false,.cells [aI W,aI wn,aI 6,aI r0,aI r1,aI r2,aI r3,.sref 3 0 0 ms.length 3 none,.sref 4 0 0 ls.length 2 none,zn] 0 false,.cells ((rC ms).map .d) 0 false,.cells ((rC ls).map .d) 0 false]=
  kx 5 (mk .bot 171 ((156,Q7 false)::(155,aI n)::(154,aI n)::[(2,.ref 0 0 0),(3,.fn (.func 38) [.ref 1 0 0]),(4,.ref 2 0 0),(8,aI n),(10,aI (n:Int))])) [.cells [zi,zi,zi,zi,zi,zi,zi,zn,zn,zn] 0 false,.cells [.d (rD l)] 0 false,.cells [aI W,aI wn,aI 6,aI r0,aI r1,aI r2,aI r3,.sref 3 0 0 ms.length 3 none,.sref 4 0 0 ls.length 2 none,.sref 5 0 0 (n) 9 none] 0 false,.cells ((rC ms).map .d) 0 false,.cells ((rC ls).map .d) 0 false,.cells ((rC (Z5v l n n)).map .d) 0 false]:=by
 obtain⟨f,rfl⟩:∃ g,f=g+1:=⟨f-1,by omega⟩
 rw[Zz9 S dp l kx kr f n ms ls W wn r0 r1 r2 r3 h0 hn]
 exact Y1r S dp l kx kr n ms ls W wn r0 r1 r2 r3 hn (n-1) 1 f (by omega) (by omega)
end
end Go.Aug.Mc
