import Derived.Test.YtmfdoekbjkgckaaGreatMk3
namespace Go.Aug.Mc
open Go Go.Aug
open Nat renaming reduceLT -> zN0, reduceEqDiff -> zN1, reduceAdd -> zN2, reduceMul -> zN3, reduceLeDiff -> zN4
open Int renaming reduceEq -> zI0, reduceLT -> zI1, reduceLE -> zI2, reduceNeg -> zI3
set_option linter.unusedSimpArgs false
set_option linter.unusedVariables false
set_option maxHeartbeats 40000000
theorem BH (A:List Blk)(s:Nat)(cs:List DV)(k:Option Nat)(h:cs.length=s):E4 A false s (.d (.lst cs 1 k))=some (cs.map .d,1):=by
 show(if cs.length=1*s then some (cs.map AV.d,1) else none)=_
 rw[if_pos (by omega)]
theorem M3 (n:Nat):Q5 .add (.d (vt ⟨#[108]⟩)) (.d (vt (RN n)))=some (.d (vt (Md.Hv n).name)):=by
 have e:(⟨#[108]⟩:ByteArray)++RN n=(Md.Hv n).name:=by
  apply ByteArray.ext
  simp[RN,Md.Hv]
 rw[Z3j _ _ (by rw[<-ByteArray.size_append,e];show(2:Nat)<=_;decide),e]
theorem MJ:24<=Z5:=by unfold Z5;decide
theorem MH:80<=Z5:=by unfold Z5;decide
theorem l1:1<=Z5:=by unfold Z5;decide
theorem WJ {A:List Blk}{bytes j v:Nat}{out:List Label}{nm:ByteArray}{z:Int}(hA:A[j]? =some (.cells ((rC out).map .d) v false))(h1:(out.length+1)*bytes<=Z5)(h2:out.length+1<=Z5):
  Q0 A 2 bytes (.sref j v 0 out.length 2 none) [.d (vt nm),.d (vi z)] 1=some (.turn j (.cells ((rC (out++[⟨nm,z⟩])).map .d) (v+1) false) (.sref j (v+1) 0 (out.length+1) 2 none)):=
 S3 (x:=(⟨nm,z⟩:Label)) hA rfl (by decide) rfl h1 h2
theorem WH {A:List Blk}{bytes j v:Nat}{out:List Ins}{k o d an bn tg:Int}{ag bg:Bool}{nm:ByteArray}(hA:A[j]? =some (.cells ((rC out).map .d) v false))(h1:(out.length+1)*bytes<=Z5)(h2:out.length+1<=Z5):
  Q0 A 9 bytes (.sref j v 0 out.length 9 none) [.d (vi k),.d (vi o),.d (vi d),.d (vb ag),.d (vi an),.d (vb bg),.d (vi bn),.d (vt nm),.d (vi tg)] 1=some (.turn j (.cells ((rC (out++[⟨k,o,d,⟨ag,an⟩,⟨bg,bn⟩,nm,tg⟩])).map .d) (v+1) false) (.sref j (v+1) 0 (out.length+1) 9 none)):=
 S3 (x:=(⟨k,o,d,⟨ag,an⟩,⟨bg,bn⟩,nm,tg⟩:Ins)) hA rfl (by decide) rfl h1 h2
variable {E:Env} {fn:FuncId->Option (Env->cT->cT)}
section
variable (S:Sur E fn)
include S
theorem DN:E.lives 8 1=none/\E.lives 8 23=none/\E.lives 8 27=none/\E.lives 8 31=none/\E.lives 8 35=none/\E.lives 8 39=none:=⟨off S 8 1 (by decide) rfl,off S 8 23 (by decide) rfl,off S 8 27 (by decide) rfl,off S 8 31 (by decide) rfl,off S 8 35 (by decide) rfl,off S 8 39 (by decide) rfl⟩
theorem Zov (dp:Nat)(l:List Int)(kx:Nat->K)(kr:K)(f n:Nat)(W wn r0 r1 r2 r3:Int)(hn:n<6):
  Qx (Zx E 8) (Z4 E fn (dp+2)) (Z9 44 Qx (Zx E 8) (Z4 E fn (dp+2)) kx kr (f+1)) kx kr (mk .bot 171 [(2,.ref 0 0 0),(3,.fn (.func 24) [.ref 1 0 0]),(4,.ref 2 0 0),(8,aI n),(9,aI 0)]) [.cells [zi,zi,zi,zi,zi,zi,zi,zn,zn,zn] 0 false,.cells [.d (rD l)] 0 false,.cells [aI W,aI wn,aI 6,aI r0,aI r1,aI r2,aI r3,zn,zn,zn] 0 false]=
  Qx (Zx E 8) (Z4 E fn (dp+2)) (Z9 44 Qx (Zx E 8) (Z4 E fn (dp+2)) kx kr f) kx kr (mk .bot 171 [(2,.ref 0 0 0),(3,.fn (.func 24) [.ref 1 0 0]),(4,.ref 2 0 0),(8,aI n),(9,aI 1)]) [.cells [zi,zi,zi,zi,zi,zi,zi,zn,zn,zn] 0 false,.cells [.d (rD l)] 0 false,.cells [aI W,aI wn,aI 6,aI r0,aI r1,aI r2,aI r3,zn,.sref 3 0 0 1 2 none,zn] 0 false,.cells ((rC [Md.Hv 0]).map .d) 0 false]:=by
 have w1:∀ z:Int,0<=z->z<100->IntKind.i64.wrap z=z:=fun z h1 h2=>YY (by omega) (by omega)
 have hn1:n<1000:=by omega
 have hjn:(0:Int)<=n:=by omega
 generalize hK:Z9 44 Qx _ _ kx kr (f+1)=KK
 first | (conv=>lhs;rw[Qx]) | rw[Qx]
 simp only[eG,go_sem,Z3 S,Z2 S,zN0,zN1,zN2,zN3,zN4,zI0,zI1,zI2,zI3,reduceCtorEq,DN S,Qj,QG,QF,w1,Z7,N6 S,QH S,N3 S,Int.reduceMul,Int.reduceAdd,Int.toNat_zero,Int.reduceToNat,zI1,zI2,M3,BH,Kz,Kx,MJ,MH,l1,Nat.le_refl,and_true,true_and,and_self,hjn,hn1]
 rw[<-hK,Z8 (on S _ _ [2,3,4,8,9] (by decide) rfl) rfl _ _ _ _ _ _ _ _ _ rfl]
 simp only[eG,go_sem,Z3 S,Z2 S,zN0,zN1,zN2,zN3,zN4,zI0,zI1,zI2,zI3,reduceCtorEq,DN S]
 try rfl
theorem Zma (dp:Nat)(l:List Int)(kx:Nat->K)(kr:K)(f n:Nat)(W wn r0 r1 r2 r3:Int)(j:Nat)(ls:List Label)(hj:j<=n)(hn:n<6)(hz:ls.length<100):
  Qx (Zx E 8) (Z4 E fn (dp+2)) (Z9 44 Qx (Zx E 8) (Z4 E fn (dp+2)) kx kr (f+1)) kx kr (mk .bot 171 [(2,.ref 0 0 0),(3,.fn (.func 24) [.ref 1 0 0]),(4,.ref 2 0 0),(8,aI n),(9,aI j)]) [.cells [zi,zi,zi,zi,zi,zi,zi,zn,zn,zn] 0 false,.cells [.d (rD l)] 0 false,.cells [aI W,aI wn,aI 6,aI r0,aI r1,aI r2,aI r3,zn,.sref 3 0 0 ls.length 2 none,zn] 0 false,.cells ((rC ls).map .d) 0 false]=
  Qx (Zx E 8) (Z4 E fn (dp+2)) (Z9 44 Qx (Zx E 8) (Z4 E fn (dp+2)) kx kr f) kx kr (mk .bot 171 [(2,.ref 0 0 0),(3,.fn (.func 24) [.ref 1 0 0]),(4,.ref 2 0 0),(8,aI n),(9,aI (j+1))]) [.cells [zi,zi,zi,zi,zi,zi,zi,zn,zn,zn] 0 false,.cells [.d (rD l)] 0 false,.cells [aI W,aI wn,aI 6,aI r0,aI r1,aI r2,aI r3,zn,.sref 3 0 0 (ls.length+1) 2 none,zn] 0 false,.cells ((rC (ls++[Md.Hv j])).map .d) 0 false]:=by
 have w1:∀ z:Int,0<=z->z<100->IntKind.i64.wrap z=z:=fun z h1 h2=>YY (by omega) (by omega)
 have hn1:n<1000:=by omega
 have h6:(j:Int)<6:=by omega
 have h0:(0:Int)<=j:=by omega
 have h02:(0:Int)<=j+2:=by omega
 have wj1:IntKind.i64.wrap ((j:Int)+1)=(j:Int)+1:=w1 _ (by omega) (by omega)
 have wj2:IntKind.i64.wrap ((j:Int)+2)=(j:Int)+2:=w1 _ (by omega) (by omega)
 have hjn:(j:Int)<=n:=by omega
 have k1:(ls.length+1)*24<=Z5:=by unfold Z5;omega
 have k2:ls.length+1<=Z5:=by unfold Z5;omega
 generalize hK:Z9 44 Qx _ _ kx kr (f+1)=KK
 first | (conv=>lhs;rw[Qx]) | rw[Qx]
 simp only[eG,go_sem,Z3 S,Z2 S,zN0,zN1,zN2,zN3,zN4,zI0,zI1,zI2,zI3,reduceCtorEq,DN S,Qj,QG,QF,w1,Z7,N6 S,QH S,N3 S,Int.reduceMul,Int.reduceAdd,Int.toNat_zero,Int.reduceToNat,zI1,zI2,M3,BH,Kz,Kx,MJ,MH,l1,Nat.le_refl,and_true,true_and,and_self,h6,h0,h02,wj1,wj2,hjn,k1,k2,hn1,Int.toNat_natCast,WJ,WH]
 rw[<-hK,Z8 (on S _ _ [2,3,4,8,9] (by decide) rfl) rfl _ _ _ _ _ _ _ _ _ rfl]
 simp only[eG,go_sem,Z3 S,Z2 S,zN0,zN1,zN2,zN3,zN4,zI0,zI1,zI2,zI3,reduceCtorEq,DN S]
 try rfl
theorem Zot (dp:Nat)(l:List Int)(kx:Nat->K)(kr:K)(f n:Nat)(ls:List Label)(W wn r0 r1 r2 r3:Int)(hj:0<n)(hn:n<6):
  Qq (Zx E 8) (Z4 E fn (dp+2)) (Z9 52 Qq (Zx E 8) (Z4 E fn (dp+2)) kx kr (f+1)) kx kr (mk .bot 171 [(2,.ref 0 0 0),(3,.fn (.func 24) [.ref 1 0 0]),(4,.ref 2 0 0),(8,aI n),(10,aI 0)]) [.cells [zi,zi,zi,zi,zi,zi,zi,zn,zn,zn] 0 false,.cells [.d (rD l)] 0 false,.cells [aI W,aI wn,aI 6,aI r0,aI r1,aI r2,aI r3,zn,.sref 3 0 0 ls.length 2 none,zn] 0 false,.cells ((rC ls).map .d) 0 false]=
  Qq (Zx E 8) (Z4 E fn (dp+2)) (Z9 52 Qq (Zx E 8) (Z4 E fn (dp+2)) kx kr f) kx kr (mk .bot 171 [(2,.ref 0 0 0),(3,.fn (.func 24) [.ref 1 0 0]),(4,.ref 2 0 0),(8,aI n),(10,aI 1)]) [.cells [zi,zi,zi,zi,zi,zi,zi,zn,zn,zn] 0 false,.cells [.d (rD l)] 0 false,.cells [aI W,aI wn,aI 6,aI r0,aI r1,aI r2,aI r3,zn,.sref 3 0 0 ls.length 2 none,.sref 4 0 0 1 9 none] 0 false,.cells ((rC ls).map .d) 0 false,.cells ((rC [Md.AA (Md.kM l 2) n]).map .d) 0 false]:=by
 have w1:∀ z:Int,0<=z->z<100->IntKind.i64.wrap z=z:=fun z h1 h2=>YY (by omega) (by omega)
 have hn1:n<1000:=by omega
 have hjn:(0:Int)<n:=by omega
 generalize hK:Z9 52 Qq _ _ kx kr (f+1)=KK
 first | (conv=>lhs;rw[Qq]) | rw[Qq]
 simp only[eG,go_sem,Z3 S,Z2 S,zN0,zN1,zN2,zN3,zN4,zI0,zI1,zI2,zI3,reduceCtorEq,DN S,Qj,QG,QF,w1,Z7,N6 S,QH S,N3 S,Int.reduceMul,Int.reduceAdd,Int.toNat_zero,Int.reduceToNat,zI1,zI2,M3,BH,Kz,Kx,MJ,MH,l1,Nat.le_refl,and_true,true_and,and_self,hjn,hn1]
 rw[<-hK,Z8 (on S _ _ [2,3,4,8,10] (by decide) rfl) rfl _ _ _ _ _ _ _ _ _ rfl]
 simp only[eG,go_sem,Z3 S,Z2 S,zN0,zN1,zN2,zN3,zN4,zI0,zI1,zI2,zI3,reduceCtorEq,DN S]
 try rfl
theorem Zm8 (dp:Nat)(l:List Int)(kx:Nat->K)(kr:K)(f n:Nat)(ls:List Label)(W wn r0 r1 r2 r3:Int)(j:Nat)(is:List Ins)(hj:j<n)(hn:n<6)(hz:is.length<100):
  Qq (Zx E 8) (Z4 E fn (dp+2)) (Z9 52 Qq (Zx E 8) (Z4 E fn (dp+2)) kx kr (f+1)) kx kr (mk .bot 171 [(2,.ref 0 0 0),(3,.fn (.func 24) [.ref 1 0 0]),(4,.ref 2 0 0),(8,aI n),(10,aI j)]) [.cells [zi,zi,zi,zi,zi,zi,zi,zn,zn,zn] 0 false,.cells [.d (rD l)] 0 false,.cells [aI W,aI wn,aI 6,aI r0,aI r1,aI r2,aI r3,zn,.sref 3 0 0 ls.length 2 none,.sref 4 0 0 is.length 9 none] 0 false,.cells ((rC ls).map .d) 0 false,.cells ((rC is).map .d) 0 false]=
  Qq (Zx E 8) (Z4 E fn (dp+2)) (Z9 52 Qq (Zx E 8) (Z4 E fn (dp+2)) kx kr f) kx kr (mk .bot 171 [(2,.ref 0 0 0),(3,.fn (.func 24) [.ref 1 0 0]),(4,.ref 2 0 0),(8,aI n),(10,aI (j+1))]) [.cells [zi,zi,zi,zi,zi,zi,zi,zn,zn,zn] 0 false,.cells [.d (rD l)] 0 false,.cells [aI W,aI wn,aI 6,aI r0,aI r1,aI r2,aI r3,zn,.sref 3 0 0 ls.length 2 none,.sref 4 0 0 (is.length+1) 9 none] 0 false,.cells ((rC ls).map .d) 0 false,.cells ((rC (is++[Md.AA (Md.kM l (j+2)) n])).map .d) 0 false]:=by
 have w1:∀ z:Int,0<=z->z<100->IntKind.i64.wrap z=z:=fun z h1 h2=>YY (by omega) (by omega)
 have hn1:n<1000:=by omega
 have h6:(j:Int)<6:=by omega
 have h0:(0:Int)<=j:=by omega
 have h02:(0:Int)<=j+2:=by omega
 have wj1:IntKind.i64.wrap ((j:Int)+1)=(j:Int)+1:=w1 _ (by omega) (by omega)
 have wj2:IntKind.i64.wrap ((j:Int)+2)=(j:Int)+2:=w1 _ (by omega) (by omega)
 have hjn:(j:Int)<n:=by omega
 have k1:(is.length+1)*80<=Z5:=by unfold Z5;omega
 have k2:is.length+1<=Z5:=by unfold Z5;omega
 generalize hK:Z9 52 Qq _ _ kx kr (f+1)=KK
 first | (conv=>lhs;rw[Qq]) | rw[Qq]
 simp only[eG,go_sem,Z3 S,Z2 S,zN0,zN1,zN2,zN3,zN4,zI0,zI1,zI2,zI3,reduceCtorEq,DN S,Qj,QG,QF,w1,Z7,N6 S,QH S,N3 S,Int.reduceMul,Int.reduceAdd,Int.toNat_zero,Int.reduceToNat,zI1,zI2,M3,BH,Kz,Kx,MJ,MH,l1,Nat.le_refl,and_true,true_and,and_self,h6,h0,h02,wj1,wj2,hjn,k1,k2,hn1,Int.toNat_natCast,WJ,WH]
 rw[<-hK,Z8 (on S _ _ [2,3,4,8,10] (by decide) rfl) rfl _ _ _ _ _ _ _ _ _ rfl]
 simp only[eG,go_sem,Z3 S,Z2 S,zN0,zN1,zN2,zN3,zN4,zI0,zI1,zI2,zI3,reduceCtorEq,DN S]
 try rfl
theorem Zou (dp:Nat)(l:List Int)(kx:Nat->K)(kr:K)(f n:Nat)(ms:List MemT)(W wn r0 r1 r2 r3:Int)(hn:n<6):
  Qx (Zx E 8) (Z4 E fn (dp+2)) (Z9 44 Qx (Zx E 8) (Z4 E fn (dp+2)) kx kr (f+1)) kx kr (mk .bot 171 [(2,.ref 0 0 0),(3,.fn (.func 24) [.ref 1 0 0]),(4,.ref 2 0 0),(8,aI n),(9,aI 0)]) [.cells [zi,zi,zi,zi,zi,zi,zi,zn,zn,zn] 0 false,.cells [.d (rD l)] 0 false,.cells [aI W,aI wn,aI 6,aI r0,aI r1,aI r2,aI r3,.sref 3 0 0 ms.length 3 none,zn,zn] 0 false,.cells ((rC ms).map .d) 0 false]=
  Qx (Zx E 8) (Z4 E fn (dp+2)) (Z9 44 Qx (Zx E 8) (Z4 E fn (dp+2)) kx kr f) kx kr (mk .bot 171 [(2,.ref 0 0 0),(3,.fn (.func 24) [.ref 1 0 0]),(4,.ref 2 0 0),(8,aI n),(9,aI 1)]) [.cells [zi,zi,zi,zi,zi,zi,zi,zn,zn,zn] 0 false,.cells [.d (rD l)] 0 false,.cells [aI W,aI wn,aI 6,aI r0,aI r1,aI r2,aI r3,.sref 3 0 0 ms.length 3 none,.sref 4 0 0 1 2 none,zn] 0 false,.cells ((rC ms).map .d) 0 false,.cells ((rC [Md.Hv 0]).map .d) 0 false]:=by
 have w1:∀ z:Int,0<=z->z<100->IntKind.i64.wrap z=z:=fun z h1 h2=>YY (by omega) (by omega)
 have hn1:n<1000:=by omega
 have hjn:(0:Int)<=n:=by omega
 generalize hK:Z9 44 Qx _ _ kx kr (f+1)=KK
 first | (conv=>lhs;rw[Qx]) | rw[Qx]
 simp only[eG,go_sem,Z3 S,Z2 S,zN0,zN1,zN2,zN3,zN4,zI0,zI1,zI2,zI3,reduceCtorEq,DN S,Qj,QG,QF,w1,Z7,N6 S,QH S,N3 S,Int.reduceMul,Int.reduceAdd,Int.toNat_zero,Int.reduceToNat,zI1,zI2,M3,BH,Kz,Kx,MJ,MH,l1,Nat.le_refl,and_true,true_and,and_self,hjn,hn1]
 rw[<-hK,Z8 (on S _ _ [2,3,4,8,9] (by decide) rfl) rfl _ _ _ _ _ _ _ _ _ rfl]
 simp only[eG,go_sem,Z3 S,Z2 S,zN0,zN1,zN2,zN3,zN4,zI0,zI1,zI2,zI3,reduceCtorEq,DN S]
 try rfl
theorem Zm9 (dp:Nat)(l:List Int)(kx:Nat->K)(kr:K)(f n:Nat)(ms:List MemT)(W wn r0 r1 r2 r3:Int)(j:Nat)(ls:List Label)(hj:j<=n)(hn:n<6)(hz:ls.length<100):
  Qx (Zx E 8) (Z4 E fn (dp+2)) (Z9 44 Qx (Zx E 8) (Z4 E fn (dp+2)) kx kr (f+1)) kx kr (mk .bot 171 [(2,.ref 0 0 0),(3,.fn (.func 24) [.ref 1 0 0]),(4,.ref 2 0 0),(8,aI n),(9,aI j)]) [.cells [zi,zi,zi,zi,zi,zi,zi,zn,zn,zn] 0 false,.cells [.d (rD l)] 0 false,.cells [aI W,aI wn,aI 6,aI r0,aI r1,aI r2,aI r3,.sref 3 0 0 ms.length 3 none,.sref 4 0 0 ls.length 2 none,zn] 0 false,.cells ((rC ms).map .d) 0 false,.cells ((rC ls).map .d) 0 false]=
  Qx (Zx E 8) (Z4 E fn (dp+2)) (Z9 44 Qx (Zx E 8) (Z4 E fn (dp+2)) kx kr f) kx kr (mk .bot 171 [(2,.ref 0 0 0),(3,.fn (.func 24) [.ref 1 0 0]),(4,.ref 2 0 0),(8,aI n),(9,aI (j+1))]) [.cells [zi,zi,zi,zi,zi,zi,zi,zn,zn,zn] 0 false,.cells [.d (rD l)] 0 false,.cells [aI W,aI wn,aI 6,aI r0,aI r1,aI r2,aI r3,.sref 3 0 0 ms.length 3 none,.sref 4 0 0 (ls.length+1) 2 none,zn] 0 false,.cells ((rC ms).map .d) 0 false,.cells ((rC (ls++[Md.Hv j])).map .d) 0 false]:=by
 have w1:∀ z:Int,0<=z->z<100->IntKind.i64.wrap z=z:=fun z h1 h2=>YY (by omega) (by omega)
 have hn1:n<1000:=by omega
 have h6:(j:Int)<6:=by omega
 have h0:(0:Int)<=j:=by omega
 have h02:(0:Int)<=j+2:=by omega
 have wj1:IntKind.i64.wrap ((j:Int)+1)=(j:Int)+1:=w1 _ (by omega) (by omega)
 have wj2:IntKind.i64.wrap ((j:Int)+2)=(j:Int)+2:=w1 _ (by omega) (by omega)
 have hjn:(j:Int)<=n:=by omega
 have k1:(ls.length+1)*24<=Z5:=by unfold Z5;omega
 have k2:ls.length+1<=Z5:=by unfold Z5;omega
 generalize hK:Z9 44 Qx _ _ kx kr (f+1)=KK
 first | (conv=>lhs;rw[Qx]) | rw[Qx]
 simp only[eG,go_sem,Z3 S,Z2 S,zN0,zN1,zN2,zN3,zN4,zI0,zI1,zI2,zI3,reduceCtorEq,DN S,Qj,QG,QF,w1,Z7,N6 S,QH S,N3 S,Int.reduceMul,Int.reduceAdd,Int.toNat_zero,Int.reduceToNat,zI1,zI2,M3,BH,Kz,Kx,MJ,MH,l1,Nat.le_refl,and_true,true_and,and_self,h6,h0,h02,wj1,wj2,hjn,k1,k2,hn1,Int.toNat_natCast,WJ,WH]
 rw[<-hK,Z8 (on S _ _ [2,3,4,8,9] (by decide) rfl) rfl _ _ _ _ _ _ _ _ _ rfl]
 simp only[eG,go_sem,Z3 S,Z2 S,zN0,zN1,zN2,zN3,zN4,zI0,zI1,zI2,zI3,reduceCtorEq,DN S]
 try rfl
theorem Zos (dp:Nat)(l:List Int)(kx:Nat->K)(kr:K)(f n:Nat)(ms:List MemT)(ls:List Label)(W wn r0 r1 r2 r3:Int)(hj:0<n)(hn:n<6):
  Qq (Zx E 8) (Z4 E fn (dp+2)) (Z9 52 Qq (Zx E 8) (Z4 E fn (dp+2)) kx kr (f+1)) kx kr (mk .bot 171 [(2,.ref 0 0 0),(3,.fn (.func 24) [.ref 1 0 0]),(4,.ref 2 0 0),(8,aI n),(10,aI 0)]) [.cells [zi,zi,zi,zi,zi,zi,zi,zn,zn,zn] 0 false,.cells [.d (rD l)] 0 false,.cells [aI W,aI wn,aI 6,aI r0,aI r1,aI r2,aI r3,.sref 3 0 0 ms.length 3 none,.sref 4 0 0 ls.length 2 none,zn] 0 false,.cells ((rC ms).map .d) 0 false,.cells ((rC ls).map .d) 0 false]=
  Qq (Zx E 8) (Z4 E fn (dp+2)) (Z9 52 Qq (Zx E 8) (Z4 E fn (dp+2)) kx kr f) kx kr (mk .bot 171 [(2,.ref 0 0 0),(3,.fn (.func 24) [.ref 1 0 0]),(4,.ref 2 0 0),(8,aI n),(10,aI 1)]) [.cells [zi,zi,zi,zi,zi,zi,zi,zn,zn,zn] 0 false,.cells [.d (rD l)] 0 false,.cells [aI W,aI wn,aI 6,aI r0,aI r1,aI r2,aI r3,.sref 3 0 0 ms.length 3 none,.sref 4 0 0 ls.length 2 none,.sref 5 0 0 1 9 none] 0 false,.cells ((rC ms).map .d) 0 false,.cells ((rC ls).map .d) 0 false,.cells ((rC [Md.AA (Md.kM l 2) n]).map .d) 0 false]:=by
 have w1:∀ z:Int,0<=z->z<100->IntKind.i64.wrap z=z:=fun z h1 h2=>YY (by omega) (by omega)
 have hn1:n<1000:=by omega
 have hjn:(0:Int)<n:=by omega
 generalize hK:Z9 52 Qq _ _ kx kr (f+1)=KK
 first | (conv=>lhs;rw[Qq]) | rw[Qq]
 simp only[eG,go_sem,Z3 S,Z2 S,zN0,zN1,zN2,zN3,zN4,zI0,zI1,zI2,zI3,reduceCtorEq,DN S,Qj,QG,QF,w1,Z7,N6 S,QH S,N3 S,Int.reduceMul,Int.reduceAdd,Int.toNat_zero,Int.reduceToNat,zI1,zI2,M3,BH,Kz,Kx,MJ,MH,l1,Nat.le_refl,and_true,true_and,and_self,hjn,hn1]
 rw[<-hK,Z8 (on S _ _ [2,3,4,8,10] (by decide) rfl) rfl _ _ _ _ _ _ _ _ _ rfl]
 simp only[eG,go_sem,Z3 S,Z2 S,zN0,zN1,zN2,zN3,zN4,zI0,zI1,zI2,zI3,reduceCtorEq,DN S]
 try rfl
theorem Zm7 (dp:Nat)(l:List Int)(kx:Nat->K)(kr:K)(f n:Nat)(ms:List MemT)(ls:List Label)(W wn r0 r1 r2 r3:Int)(j:Nat)(is:List Ins)(hj:j<n)(hn:n<6)(hz:is.length<100):
  Qq (Zx E 8) (Z4 E fn (dp+2)) (Z9 52 Qq (Zx E 8) (Z4 E fn (dp+2)) kx kr (f+1)) kx kr (mk .bot 171 [(2,.ref 0 0 0),(3,.fn (.func 24) [.ref 1 0 0]),(4,.ref 2 0 0),(8,aI n),(10,aI j)]) [.cells [zi,zi,zi,zi,zi,zi,zi,zn,zn,zn] 0 false,.cells [.d (rD l)] 0 false,.cells [aI W,aI wn,aI 6,aI r0,aI r1,aI r2,aI r3,.sref 3 0 0 ms.length 3 none,.sref 4 0 0 ls.length 2 none,.sref 5 0 0 is.length 9 none] 0 false,.cells ((rC ms).map .d) 0 false,.cells ((rC ls).map .d) 0 false,.cells ((rC is).map .d) 0 false]=
  Qq (Zx E 8) (Z4 E fn (dp+2)) (Z9 52 Qq (Zx E 8) (Z4 E fn (dp+2)) kx kr f) kx kr (mk .bot 171 [(2,.ref 0 0 0),(3,.fn (.func 24) [.ref 1 0 0]),(4,.ref 2 0 0),(8,aI n),(10,aI (j+1))]) [.cells [zi,zi,zi,zi,zi,zi,zi,zn,zn,zn] 0 false,.cells [.d (rD l)] 0 false,.cells [aI W,aI wn,aI 6,aI r0,aI r1,aI r2,aI r3,.sref 3 0 0 ms.length 3 none,.sref 4 0 0 ls.length 2 none,.sref 5 0 0 (is.length+1) 9 none] 0 false,.cells ((rC ms).map .d) 0 false,.cells ((rC ls).map .d) 0 false,.cells ((rC (is++[Md.AA (Md.kM l (j+2)) n])).map .d) 0 false]:=by
 have w1:∀ z:Int,0<=z->z<100->IntKind.i64.wrap z=z:=fun z h1 h2=>YY (by omega) (by omega)
 have hn1:n<1000:=by omega
 have h6:(j:Int)<6:=by omega
 have h0:(0:Int)<=j:=by omega
 have h02:(0:Int)<=j+2:=by omega
 have wj1:IntKind.i64.wrap ((j:Int)+1)=(j:Int)+1:=w1 _ (by omega) (by omega)
 have wj2:IntKind.i64.wrap ((j:Int)+2)=(j:Int)+2:=w1 _ (by omega) (by omega)
 have hjn:(j:Int)<n:=by omega
 have k1:(is.length+1)*80<=Z5:=by unfold Z5;omega
 have k2:is.length+1<=Z5:=by unfold Z5;omega
 generalize hK:Z9 52 Qq _ _ kx kr (f+1)=KK
 first | (conv=>lhs;rw[Qq]) | rw[Qq]
 simp only[eG,go_sem,Z3 S,Z2 S,zN0,zN1,zN2,zN3,zN4,zI0,zI1,zI2,zI3,reduceCtorEq,DN S,Qj,QG,QF,w1,Z7,N6 S,QH S,N3 S,Int.reduceMul,Int.reduceAdd,Int.toNat_zero,Int.reduceToNat,zI1,zI2,M3,BH,Kz,Kx,MJ,MH,l1,Nat.le_refl,and_true,true_and,and_self,h6,h0,h02,wj1,wj2,hjn,k1,k2,hn1,Int.toNat_natCast,WJ,WH]
 rw[<-hK,Z8 (on S _ _ [2,3,4,8,10] (by decide) rfl) rfl _ _ _ _ _ _ _ _ _ rfl]
 simp only[eG,go_sem,Z3 S,Z2 S,zN0,zN1,zN2,zN3,zN4,zI0,zI1,zI2,zI3,reduceCtorEq,DN S]
 try rfl
end
def JJ (n:Nat):List Label:=(List.range n).map Md.Hv
def D1 (l:List Int)(n j:Nat):List Ins:=(List.range j).map fun i:Nat=>Md.AA (Md.kM l (i+2)) n
theorem Z6q (n:Nat):JJ n++[Md.Hv n]=JJ (n+1):=by simp[JJ,List.range_succ]
theorem Z6z (l:List Int)(n j:Nat):D1 l n j++[Md.AA (Md.kM l (j+2)) n]=D1 l n (j+1):=by simp[D1,List.range_succ]
theorem CK (n:Nat):(JJ n).length=n:=by simp[JJ]
theorem P6 (l:List Int)(n j:Nat):(D1 l n j).length=j:=by simp[D1]
variable {E:Env} {fn:FuncId->Option (Env->cT->cT)}
section
variable (S:Sur E fn)
include S
theorem V2:E.lives 8 1=none/\E.lives 8 23=none/\E.lives 8 27=none/\E.lives 8 31=none/\E.lives 8 35=none/\E.lives 8 39=none:=⟨off S 8 1 (by decide) rfl,off S 8 23 (by decide) rfl,off S 8 27 (by decide) rfl,off S 8 31 (by decide) rfl,off S 8 35 (by decide) rfl,off S 8 39 (by decide) rfl⟩
theorem Zon (dp:Nat)(l:List Int)(kx:Nat->K)(kr:K)(n:Nat)(W wn r0 r1 r2 r3:Int)(hn:n<6):∀ m j f,j+m=(n+1)->m<=f->
  Qx (Zx E 8) (Z4 E fn (dp+2)) (Z9 44 Qx (Zx E 8) (Z4 E fn (dp+2)) kx kr f) kx kr (mk .bot 171 [(2,.ref 0 0 0),(3,.fn (.func 24) [.ref 1 0 0]),(4,.ref 2 0 0),(8,aI n),(9,aI (j:Int))]) [.cells [zi,zi,zi,zi,zi,zi,zi,zn,zn,zn] 0 false,.cells [.d (rD l)] 0 false,.cells [aI W,aI wn,aI 6,aI r0,aI r1,aI r2,aI r3,zn,.sref 3 0 0 (j) 2 none,zn] 0 false,.cells ((rC (JJ j)).map .d) 0 false]=
  kx 3 (mk .bot 171 ((141,YA false)::(140,aI n)::(139,aI ((n+1:Nat):Int))::[(2,.ref 0 0 0),(3,.fn (.func 24) [.ref 1 0 0]),(4,.ref 2 0 0),(8,aI n),(9,aI ((n+1:Nat):Int))])) [.cells [zi,zi,zi,zi,zi,zi,zi,zn,zn,zn] 0 false,.cells [.d (rD l)] 0 false,.cells [aI W,aI wn,aI 6,aI r0,aI r1,aI r2,aI r3,zn,.sref 3 0 0 ((n+1)) 2 none,zn] 0 false,.cells ((rC (JJ (n+1))).map .d) 0 false]:=by
 intro m
 induction m with
 | zero=>
  intro j f hj _
  obtain rfl:j=n+1:=by omega
  have hz:¬(((n+1:Nat):Int)<=n):=by omega
  generalize Z9 44 Qx _ _ kx kr f=KK
  first | (conv=>lhs;rw[Qx]) | rw[Qx]
  simp only[eG,go_sem,Z3 S,Z2 S,Nat.reduceLT,Nat.reduceEqDiff,Nat.reduceAdd,Nat.reduceMul,Nat.reduceLeDiff,Int.reduceEq,Int.reduceLT,Int.reduceLE,Int.reduceNeg,reduceCtorEq,V2 S,hz]
 | succ m ih=>
  intro j f hj hf
  obtain⟨f,rfl⟩:∃ g,f=g+1:=⟨f-1,by omega⟩
  have e:=Zma S dp l kx kr f n W wn r0 r1 r2 r3 j (JJ j) (by omega) hn (by rw[CK];omega)
  rw[Z6q,CK] at e
  rw[e]
  exact ih (j+1) f (by omega) (by omega)
theorem Z6i (dp:Nat)(l:List Int)(kx:Nat->K)(kr:K)(n:Nat)(W wn r0 r1 r2 r3:Int)(h0:0<n)(hn:n<6)(f:Nat)(hf:10<=f):
  Qx (Zx E 8) (Z4 E fn (dp+2)) (Z9 44 Qx (Zx E 8) (Z4 E fn (dp+2)) kx kr f) kx kr (mk .bot 171 [(2,.ref 0 0 0),(3,.fn (.func 24) [.ref 1 0 0]),(4,.ref 2 0 0),(8,aI n),(9,aI 0)]) [.cells [zi,zi,zi,zi,zi,zi,zi,zn,zn,zn] 0 false,.cells [.d (rD l)] 0 false,.cells [aI W,aI wn,aI 6,aI r0,aI r1,aI r2,aI r3,zn,zn,zn] 0 false]=
  kx 3 (mk .bot 171 ((141,YA false)::(140,aI n)::(139,aI ((n+1:Nat):Int))::[(2,.ref 0 0 0),(3,.fn (.func 24) [.ref 1 0 0]),(4,.ref 2 0 0),(8,aI n),(9,aI ((n+1:Nat):Int))])) [.cells [zi,zi,zi,zi,zi,zi,zi,zn,zn,zn] 0 false,.cells [.d (rD l)] 0 false,.cells [aI W,aI wn,aI 6,aI r0,aI r1,aI r2,aI r3,zn,.sref 3 0 0 ((n+1)) 2 none,zn] 0 false,.cells ((rC (JJ (n+1))).map .d) 0 false]:=by
 obtain⟨f,rfl⟩:∃ g,f=g+1:=⟨f-1,by omega⟩
 rw[Zov S dp l kx kr f n W wn r0 r1 r2 r3 hn]
 exact Zon S dp l kx kr n W wn r0 r1 r2 r3 hn n 1 f (by omega) (by omega)
theorem Zol (dp:Nat)(l:List Int)(kx:Nat->K)(kr:K)(n:Nat)(ls:List Label)(W wn r0 r1 r2 r3:Int)(hn:n<6):∀ m j f,j+m=n->m<=f->
  Qq (Zx E 8) (Z4 E fn (dp+2)) (Z9 52 Qq (Zx E 8) (Z4 E fn (dp+2)) kx kr f) kx kr (mk .bot 171 [(2,.ref 0 0 0),(3,.fn (.func 24) [.ref 1 0 0]),(4,.ref 2 0 0),(8,aI n),(10,aI (j:Int))]) [.cells [zi,zi,zi,zi,zi,zi,zi,zn,zn,zn] 0 false,.cells [.d (rD l)] 0 false,.cells [aI W,aI wn,aI 6,aI r0,aI r1,aI r2,aI r3,zn,.sref 3 0 0 ls.length 2 none,.sref 4 0 0 (j) 9 none] 0 false,.cells ((rC ls).map .d) 0 false,.cells ((rC (D1 l n j)).map .d) 0 false]=
  kx 5 (mk .bot 171 ((156,YA false)::(155,aI n)::(154,aI n)::[(2,.ref 0 0 0),(3,.fn (.func 24) [.ref 1 0 0]),(4,.ref 2 0 0),(8,aI n),(10,aI (n:Int))])) [.cells [zi,zi,zi,zi,zi,zi,zi,zn,zn,zn] 0 false,.cells [.d (rD l)] 0 false,.cells [aI W,aI wn,aI 6,aI r0,aI r1,aI r2,aI r3,zn,.sref 3 0 0 ls.length 2 none,.sref 4 0 0 (n) 9 none] 0 false,.cells ((rC ls).map .d) 0 false,.cells ((rC (D1 l n n)).map .d) 0 false]:=by
 intro m
 induction m with
 | zero=>
  intro j f hj _
  obtain rfl:n=j:=by omega
  have hz:¬((n:Int)<n):=by omega
  generalize Z9 52 Qq _ _ kx kr f=KK
  first | (conv=>lhs;rw[Qq]) | rw[Qq]
  simp only[eG,go_sem,Z3 S,Z2 S,Nat.reduceLT,Nat.reduceEqDiff,Nat.reduceAdd,Nat.reduceMul,Nat.reduceLeDiff,Int.reduceEq,Int.reduceLT,Int.reduceLE,Int.reduceNeg,reduceCtorEq,V2 S,hz]
 | succ m ih=>
  intro j f hj hf
  obtain⟨f,rfl⟩:∃ g,f=g+1:=⟨f-1,by omega⟩
  have e:=Zm8 S dp l kx kr f n ls W wn r0 r1 r2 r3 j (D1 l n j) (by omega) hn (by rw[P6];omega)
  rw[Z6z,P6] at e
  rw[e]
  exact ih (j+1) f (by omega) (by omega)
theorem Z6h (dp:Nat)(l:List Int)(kx:Nat->K)(kr:K)(n:Nat)(ls:List Label)(W wn r0 r1 r2 r3:Int)(h0:0<n)(hn:n<6)(f:Nat)(hf:10<=f):
  Qq (Zx E 8) (Z4 E fn (dp+2)) (Z9 52 Qq (Zx E 8) (Z4 E fn (dp+2)) kx kr f) kx kr (mk .bot 171 [(2,.ref 0 0 0),(3,.fn (.func 24) [.ref 1 0 0]),(4,.ref 2 0 0),(8,aI n),(10,aI 0)]) [.cells [zi,zi,zi,zi,zi,zi,zi,zn,zn,zn] 0 false,.cells [.d (rD l)] 0 false,.cells [aI W,aI wn,aI 6,aI r0,aI r1,aI r2,aI r3,zn,.sref 3 0 0 ls.length 2 none,zn] 0 false,.cells ((rC ls).map .d) 0 false]=
  kx 5 (mk .bot 171 ((156,YA false)::(155,aI n)::(154,aI n)::[(2,.ref 0 0 0),(3,.fn (.func 24) [.ref 1 0 0]),(4,.ref 2 0 0),(8,aI n),(10,aI (n:Int))])) [.cells [zi,zi,zi,zi,zi,zi,zi,zn,zn,zn] 0 false,.cells [.d (rD l)] 0 false,.cells [aI W,aI wn,aI 6,aI r0,aI r1,aI r2,aI r3,zn,.sref 3 0 0 ls.length 2 none,.sref 4 0 0 (n) 9 none] 0 false,.cells ((rC ls).map .d) 0 false,.cells ((rC (D1 l n n)).map .d) 0 false]:=by
 obtain⟨f,rfl⟩:∃ g,f=g+1:=⟨f-1,by omega⟩
 rw[Zot S dp l kx kr f n ls W wn r0 r1 r2 r3 h0 hn]
 exact Zol S dp l kx kr n ls W wn r0 r1 r2 r3 hn (n-1) 1 f (by omega) (by omega)
theorem Zom (dp:Nat)(l:List Int)(kx:Nat->K)(kr:K)(n:Nat)(ms:List MemT)(W wn r0 r1 r2 r3:Int)(hn:n<6):∀ m j f,j+m=(n+1)->m<=f->
  Qx (Zx E 8) (Z4 E fn (dp+2)) (Z9 44 Qx (Zx E 8) (Z4 E fn (dp+2)) kx kr f) kx kr (mk .bot 171 [(2,.ref 0 0 0),(3,.fn (.func 24) [.ref 1 0 0]),(4,.ref 2 0 0),(8,aI n),(9,aI (j:Int))]) [.cells [zi,zi,zi,zi,zi,zi,zi,zn,zn,zn] 0 false,.cells [.d (rD l)] 0 false,.cells [aI W,aI wn,aI 6,aI r0,aI r1,aI r2,aI r3,.sref 3 0 0 ms.length 3 none,.sref 4 0 0 (j) 2 none,zn] 0 false,.cells ((rC ms).map .d) 0 false,.cells ((rC (JJ j)).map .d) 0 false]=
  kx 3 (mk .bot 171 ((141,YA false)::(140,aI n)::(139,aI ((n+1:Nat):Int))::[(2,.ref 0 0 0),(3,.fn (.func 24) [.ref 1 0 0]),(4,.ref 2 0 0),(8,aI n),(9,aI ((n+1:Nat):Int))])) [.cells [zi,zi,zi,zi,zi,zi,zi,zn,zn,zn] 0 false,.cells [.d (rD l)] 0 false,.cells [aI W,aI wn,aI 6,aI r0,aI r1,aI r2,aI r3,.sref 3 0 0 ms.length 3 none,.sref 4 0 0 ((n+1)) 2 none,zn] 0 false,.cells ((rC ms).map .d) 0 false,.cells ((rC (JJ (n+1))).map .d) 0 false]:=by
 intro m
 induction m with
 | zero=>
  intro j f hj _
  obtain rfl:j=n+1:=by omega
  have hz:¬(((n+1:Nat):Int)<=n):=by omega
  generalize Z9 44 Qx _ _ kx kr f=KK
  first | (conv=>lhs;rw[Qx]) | rw[Qx]
  simp only[eG,go_sem,Z3 S,Z2 S,Nat.reduceLT,Nat.reduceEqDiff,Nat.reduceAdd,Nat.reduceMul,Nat.reduceLeDiff,Int.reduceEq,Int.reduceLT,Int.reduceLE,Int.reduceNeg,reduceCtorEq,V2 S,hz]
 | succ m ih=>
  intro j f hj hf
  obtain⟨f,rfl⟩:∃ g,f=g+1:=⟨f-1,by omega⟩
  have e:=Zm9 S dp l kx kr f n ms W wn r0 r1 r2 r3 j (JJ j) (by omega) hn (by rw[CK];omega)
  rw[Z6q,CK] at e
  rw[e]
  exact ih (j+1) f (by omega) (by omega)
theorem Hw (dp:Nat)(l:List Int)(kx:Nat->K)(kr:K)(n:Nat)(ms:List MemT)(W wn r0 r1 r2 r3:Int)(h0:0<n)(hn:n<6)(f:Nat)(hf:10<=f):
  Qx (Zx E 8) (Z4 E fn (dp+2)) (Z9 44 Qx (Zx E 8) (Z4 E fn (dp+2)) kx kr f) kx kr (mk .bot 171 [(2,.ref 0 0 0),(3,.fn (.func 24) [.ref 1 0 0]),(4,.ref 2 0 0),(8,aI n),(9,aI 0)]) [.cells [zi,zi,zi,zi,zi,zi,zi,zn,zn,zn] 0 false,.cells [.d (rD l)] 0 false,.cells [aI W,aI wn,aI 6,aI r0,aI r1,aI r2,aI r3,.sref 3 0 0 ms.length 3 none,zn,zn] 0 false,.cells ((rC ms).map .d) 0 false]=
  kx 3 (mk .bot 171 ((141,YA false)::(140,aI n)::(139,aI ((n+1:Nat):Int))::[(2,.ref 0 0 0),(3,.fn (.func 24) [.ref 1 0 0]),(4,.ref 2 0 0),(8,aI n),(9,aI ((n+1:Nat):Int))])) [.cells [zi,zi,zi,zi,zi,zi,zi,zn,zn,zn] 0 false,.cells [.d (rD l)] 0 false,.cells [aI W,aI wn,aI 6,aI r0,aI r1,aI r2,aI r3,.sref 3 0 0 ms.length 3 none,.sref 4 0 0 ((n+1)) 2 none,zn] 0 false,.cells ((rC ms).map .d) 0 false,.cells ((rC (JJ (n+1))).map .d) 0 false]:=by
 obtain⟨f,rfl⟩:∃ g,f=g+1:=⟨f-1,by omega⟩
 rw[Zou S dp l kx kr f n ms W wn r0 r1 r2 r3 hn]
 exact Zom S dp l kx kr n ms W wn r0 r1 r2 r3 hn n 1 f (by omega) (by omega)
theorem Zok (dp:Nat)(l:List Int)(kx:Nat->K)(kr:K)(n:Nat)(ms:List MemT)(ls:List Label)(W wn r0 r1 r2 r3:Int)(hn:n<6):∀ m j f,j+m=n->m<=f->
  Qq (Zx E 8) (Z4 E fn (dp+2)) (Z9 52 Qq (Zx E 8) (Z4 E fn (dp+2)) kx kr f) kx kr (mk .bot 171 [(2,.ref 0 0 0),(3,.fn (.func 24) [.ref 1 0 0]),(4,.ref 2 0 0),(8,aI n),(10,aI (j:Int))]) [.cells [zi,zi,zi,zi,zi,zi,zi,zn,zn,zn] 0 false,.cells [.d (rD l)] 0 false,.cells [aI W,aI wn,aI 6,aI r0,aI r1,aI r2,aI r3,.sref 3 0 0 ms.length 3 none,.sref 4 0 0 ls.length 2 none,.sref 5 0 0 (j) 9 none] 0 false,.cells ((rC ms).map .d) 0 false,.cells ((rC ls).map .d) 0 false,.cells ((rC (D1 l n j)).map .d) 0 false]=
  kx 5 (mk .bot 171 ((156,YA false)::(155,aI n)::(154,aI n)::[(2,.ref 0 0 0),(3,.fn (.func 24) [.ref 1 0 0]),(4,.ref 2 0 0),(8,aI n),(10,aI (n:Int))])) [.cells [zi,zi,zi,zi,zi,zi,zi,zn,zn,zn] 0 false,.cells [.d (rD l)] 0 false,.cells [aI W,aI wn,aI 6,aI r0,aI r1,aI r2,aI r3,.sref 3 0 0 ms.length 3 none,.sref 4 0 0 ls.length 2 none,.sref 5 0 0 (n) 9 none] 0 false,.cells ((rC ms).map .d) 0 false,.cells ((rC ls).map .d) 0 false,.cells ((rC (D1 l n n)).map .d) 0 false]:=by
 intro m
 induction m with
 | zero=>
  intro j f hj _
  obtain rfl:n=j:=by omega
  have hz:¬((n:Int)<n):=by omega
  generalize Z9 52 Qq _ _ kx kr f=KK
  first | (conv=>lhs;rw[Qq]) | rw[Qq]
  simp only[eG,go_sem,Z3 S,Z2 S,Nat.reduceLT,Nat.reduceEqDiff,Nat.reduceAdd,Nat.reduceMul,Nat.reduceLeDiff,Int.reduceEq,Int.reduceLT,Int.reduceLE,Int.reduceNeg,reduceCtorEq,V2 S,hz]
 | succ m ih=>
  intro j f hj hf
  obtain⟨f,rfl⟩:∃ g,f=g+1:=⟨f-1,by omega⟩
  have e:=Zm7 S dp l kx kr f n ms ls W wn r0 r1 r2 r3 j (D1 l n j) (by omega) hn (by rw[P6];omega)
  rw[Z6z,P6] at e
  rw[e]
  exact ih (j+1) f (by omega) (by omega)
theorem Hz (dp:Nat)(l:List Int)(kx:Nat->K)(kr:K)(n:Nat)(ms:List MemT)(ls:List Label)(W wn r0 r1 r2 r3:Int)(h0:0<n)(hn:n<6)(f:Nat)(hf:10<=f):
  Qq (Zx E 8) (Z4 E fn (dp+2)) (Z9 52 Qq (Zx E 8) (Z4 E fn (dp+2)) kx kr f) kx kr (mk .bot 171 [(2,.ref 0 0 0),(3,.fn (.func 24) [.ref 1 0 0]),(4,.ref 2 0 0),(8,aI n),(10,aI 0)]) [.cells [zi,zi,zi,zi,zi,zi,zi,zn,zn,zn] 0 false,.cells [.d (rD l)] 0 false,.cells [aI W,aI wn,aI 6,aI r0,aI r1,aI r2,aI r3,.sref 3 0 0 ms.length 3 none,.sref 4 0 0 ls.length 2 none,zn] 0 false,.cells ((rC ms).map .d) 0 false,.cells ((rC ls).map .d) 0 false]=
  kx 5 (mk .bot 171 ((156,YA false)::(155,aI n)::(154,aI n)::[(2,.ref 0 0 0),(3,.fn (.func 24) [.ref 1 0 0]),(4,.ref 2 0 0),(8,aI n),(10,aI (n:Int))])) [.cells [zi,zi,zi,zi,zi,zi,zi,zn,zn,zn] 0 false,.cells [.d (rD l)] 0 false,.cells [aI W,aI wn,aI 6,aI r0,aI r1,aI r2,aI r3,.sref 3 0 0 ms.length 3 none,.sref 4 0 0 ls.length 2 none,.sref 5 0 0 (n) 9 none] 0 false,.cells ((rC ms).map .d) 0 false,.cells ((rC ls).map .d) 0 false,.cells ((rC (D1 l n n)).map .d) 0 false]:=by
 obtain⟨f,rfl⟩:∃ g,f=g+1:=⟨f-1,by omega⟩
 rw[Zos S dp l kx kr f n ms ls W wn r0 r1 r2 r3 h0 hn]
 exact Zok S dp l kx kr n ms ls W wn r0 r1 r2 r3 hn (n-1) 1 f (by omega) (by omega)
end
end Go.Aug.Mc
