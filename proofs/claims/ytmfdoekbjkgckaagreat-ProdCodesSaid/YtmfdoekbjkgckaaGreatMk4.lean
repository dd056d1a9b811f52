import Derived.Test.YtmfdoekbjkgckaaGreatBr
import Derived.Test.YtmfdoekbjkgckaaGreatMc4
import Derived.Test.YtmfdoekbjkgckaaGreatMl
namespace Go.Aug.Mc
open Go Go.Aug
open Nat renaming reduceLT -> zN0, reduceEqDiff -> zN1, reduceAdd -> zN2, reduceMul -> zN3, reduceLeDiff -> zN4
open Int renaming reduceEq -> zI0, reduceLT -> zI1, reduceLE -> zI2, reduceNeg -> zI3
set_option linter.unusedSimpArgs false
set_option linter.unusedVariables false
set_option maxHeartbeats 40000000
theorem GJ (x:Int)(n:Nat)(h:n<=63):YF .shr (.d (.v (.int .i64 x))) (.d (.v (.int .u64 (n:Int))))=some (aI (Md.ZJ x n)):=by
 rw[X9 _ _ _ _ (Int.natCast_nonneg n),Int.toNat_natCast,Nat.min_eq_left (by show n<=64;omega)];rfl
theorem Dw (x:Int):YF .shr (.d (.v (.int .i64 x))) (.d (.v (.int .u64 1)))=some (aI (Md.ZJ x 1)):=GJ x 1 (by decide)
theorem CW (x:Int):YF .shr (.d (.v (.int .i64 x))) (.d (.v (.int .u64 8)))=some (aI (Md.ZJ x 8)):=GJ x 8 (by decide)
theorem Dz (x:Int):YF .shr (.d (.v (.int .i64 x))) (.d (.v (.int .u64 10)))=some (aI (Md.ZJ x 10)):=GJ x 10 (by decide)
theorem Za2 (x:Int):YF .shr (.d (.v (.int .i64 x))) (.d (.v (.int .u64 11)))=some (aI (Md.ZJ x 11)):=GJ x 11 (by decide)
theorem Dx (x:Int):YF .shr (.d (.v (.int .i64 x))) (.d (.v (.int .u64 12)))=some (aI (Md.ZJ x 12)):=GJ x 12 (by decide)
theorem Za1 (x:Int):YF .shr (.d (.v (.int .i64 x))) (.d (.v (.int .u64 14)))=some (aI (Md.ZJ x 14)):=GJ x 14 (by decide)
theorem Za0 (x:Int):YF .shr (.d (.v (.int .i64 x))) (.d (.v (.int .u64 16)))=some (aI (Md.ZJ x 16)):=GJ x 16 (by decide)
theorem Z9z (x:Int):YF .shr (.d (.v (.int .i64 x))) (.d (.v (.int .u64 18)))=some (aI (Md.ZJ x 18)):=GJ x 18 (by decide)
theorem lm (x:Int)(n:Nat)(h:0<n):YF .rem (aI (Md.Y9 x 255)) (aI (n:Int))=some (aI (Md.YB x n:Nat)):=by
 rw[Xj _ _ _ (by omega),Md.Zem]
theorem Zf0 (x:Int):YF .rem (aI (Md.Y9 x 255)) (aI 18)=some (aI (Md.YB x 18:Nat)):=lm x 18 (by decide)
theorem Zf1 (x:Int):YF .rem (aI (Md.Y9 x 255)) (aI 10)=some (aI (Md.YB x 10:Nat)):=lm x 10 (by decide)
theorem DJ (x:Int):YF .rem (aI (Md.Y9 x 255)) (aI 3)=some (aI (Md.YB x 3:Nat)):=lm x 3 (by decide)
theorem VT {l:List Int}{i:Nat}(h:i<l.length)(n:Nat)(hn:n=l.length)(cs:List DV)(hc:cs=rC l):BE (.d (.lst cs n (some n))) (aI (i:Int)) 1=some (.d (.vptr (vi (l.getD i 0)::rC (l.drop (i+1))))):=by
 subst hn hc
 have:=VS h (s:=1) rfl (some l.length) .i64
 rw[List.getD_eq_getElem?_getD,List.getElem?_eq_getElem h]
 exact this
theorem Zfe (x:Int):BE (.d (.lst [vi 1,vi 1,vi 2,vi 2,vi 2,vi 3,vi 3,vi 4,vi 5,vi 5,vi 5,vi 6,vi 7,vi 8,vi 9,vi 10,vi 11,vi 1] 18 (some 18))) (aI (Md.YB x 18:Nat)) 1=some (.d (.vptr (vi (Md.K2.getD (Md.YB x 18) 0)::rC (Md.K2.drop (Md.YB x 18+1))))):=
 VT (l:=Md.K2) (Md.NB x (by decide)) 18 rfl _ rfl
theorem Zfc (x:Int):BE (.d (.lst [vi 9,vi 10,vi 3,vi 2] 4 (some 4))) (aI (Md.Y9 x 3)) 1=some (.d (.vptr (vi (Md.o4.getD (Md.Y9 x 3).toNat 0)::rC (Md.o4.drop ((Md.Y9 x 3).toNat+1))))):=by
 obtain⟨r,hr,h⟩:=Md.Mz x
 rw[h,Int.toNat_natCast]
 exact VT (l:=Md.o4) hr 4 rfl _ rfl
theorem Z9a (x:Int):IntKind.i64.wrap ((Md.YB x 10:Nat)+1)=(Md.YB x 10:Nat)+1:=by
 have:=Md.NB x (show 0<10 by decide)
 exact YM (by omega) (by omega)
theorem Zez (x:Int)(n:Nat):YF .rem (aI (Md.Y9 x 255)) (aI ((n:Int)+1))=some (aI (Md.YB x (n+1):Nat)):=by
 have:=lm x (n+1) (by omega)
 rw[Int.natCast_add] at this
 exact this
theorem H1 (ps:List (Opd×Opd))(k:K)(tm:List AV)(A:List Blk):Gj ps k tm A=bif BR tm ps then k tm A else none:=id rfl
theorem H0 (tm:List AV):BR tm []=true:=id rfl
theorem Zhb (tm:List AV)(a b:Opd)(l:List (Opd×Opd)):BR tm ((a,b)::l)=(FN (look tm a) (look tm b)&&BR tm l):=id rfl
theorem Zha (i v o j w q:Nat):FN (.ref i v o) (.ref j w q)= !decide (i=j):=by
 show(!Nat.beq i j)=_
 by_cases h:i=j
 ·subst h
  have:Nat.beq i i=true:=Nat.beq_refl i
  rw[this];simp
 ·have:Nat.beq i j=false:=by
   cases hb:Nat.beq i j with
   | false=>rfl
   | true=>exact absurd (Nat.eq_of_beq_eq_true hb) h
  rw[this,decide_eq_false h]
variable {E:Env} {fn:FuncId->Option (Env->cT->cT)}
section
variable (S:Sur E fn)
include S
theorem Z20:E.lives 51 7=none:=off S 51 7 (by decide) rfl
theorem Z22:E.lives 24 7=none:=off S 24 7 (by decide) rfl
theorem Zd8:E.lives 26 13=none/\E.lives 26 17=none/\E.lives 26 19=none/\E.lives 26 21=none/\E.lives 26 25=none/\E.lives 26 29=none/\E.lives 26 31=none/\E.lives 26 35=none:=⟨off S 26 13 (by decide) rfl,off S 26 17 (by decide) rfl,off S 26 19 (by decide) rfl,off S 26 21 (by decide) rfl,off S 26 25 (by decide) rfl,off S 26 29 (by decide) rfl,off S 26 31 (by decide) rfl,off S 26 35 (by decide) rfl⟩
theorem Zam (dp:Nat)(n:Int):Z7 E fn (dp+1) 51 [vi n] (.agg (Cl.cells (Md.FA n))):=by
 unfold Z7
 show Zz (Z5 E fn (dp+1) 51 [.d (vi n)] [])=_
 rw[Yx,S.Z43,Yw,Z7o,Yq _ _ _ _ _ _ _ _ rfl]
 by_cases h:Md.Y9 n 4=0
 ·simp only[eG,go_sem,Z2 S,Z1 S,zN0,zN1,zN2,zN3,zN4,zI0,zI1,zI2,zI3,reduceCtorEq,Z20 S,YZ,h,Md.FA]
 ·simp only[eG,go_sem,Z2 S,Z1 S,zN0,zN1,zN2,zN3,zN4,zI0,zI1,zI2,zI3,reduceCtorEq,Z20 S,YZ,h,Md.FA]
theorem Zhy (dp:Nat)(n:Int)(A:List Blk)(nb:Nat)(us:List Nat):ZX false E (Z5 E fn (dp+1)) 51 A nb (some ([vi n],us))=some (.made (.d (.agg (Cl.cells (Md.FA n)))) []):=
 Z7.flat (Zam S dp n ) (np S 51 (by decide)) (rfl) A nb us
theorem Zao (dp:Nat)(i:Int)(l:List Int)(h0:0<=i):Z7 E fn (dp+1) 24 [vi i,.vptr [rD l]] (vi (Md.kM l i)):=by
 unfold Z7
 show Zz (Z5 E fn (dp+1) 24 [.d (vi i),.d (.vptr [rD l])] [])=_
 rw[Yx,S.Z45,Yw,Z7q,Yq _ _ _ _ _ _ _ _ rfl]
 by_cases h:i<l.length
 ·obtain ⟨e, he⟩ := QB (show i.toNat < l.length by omega)
  simp only[eG,go_sem,Z2 S,Z1 S,zN0,zN1,zN2,zN3,zN4,zI0,zI1,zI2,zI3,reduceCtorEq,Z22 S,h,EK h0 he,he,Option.getD_some,Md.kM]
 ·simp only[eG,go_sem,Z2 S,Z1 S,zN0,zN1,zN2,zN3,zN4,zI0,zI1,zI2,zI3,reduceCtorEq,Z22 S,h,Md.kM,List.getElem?_eq_none (show l.length<=i.toNat by omega),Option.getD_none]
theorem YY (dp:Nat)(i:Int)(l:List Int)(h0:0<=i)(A:List Blk)(nb:Nat)(us:List Nat):ZX false E (Z5 E fn (dp+1)) 24 A nb (some ([vi i,.vptr [rD l]],us))=some (.made (.d (vi (Md.kM l i))) []):=
 Z7.flat (Zao S dp i l h0) (np S 24 (by decide)) (rfl) A nb us
theorem Zan (dp:Nat)(x:Int)(n:Nat)(hn:n<1000):Z7 E fn (dp+2) 26 [vi x,vi (n:Nat)] (.agg (Cl.cells (Md.J3 x n))):=by
 unfold Z7
 show Zz (Z5 E fn (dp+1+1) 26 [.d (vi x),.d (vi (n:Nat))] [])=_
 rw[Yx,S.Z44,Yw,Z7p,Yq _ _ _ _ _ _ _ _ rfl]
 have hw:IntKind.i64.wrap ((n:Int)+1)=(n:Int)+1:=YM (by omega) (by omega)
 have hi:Md.J3 x n=Md.J3 x n:=rfl
 unfold Md.J3
 have r18:∀ {α:Type} (l:List α),rep l 18=l++(l++(l++(l++(l++(l++(l++(l++(l++(l++(l++(l++(l++(l++(l++(l++(l++l)))))))))))))))):=fun l=>by simp[rep]
 have r4:∀ {α:Type} (l:List α),rep l 4=l++(l++(l++l)):=fun l=>by simp[rep]
 simp only[eG,go_sem,Z2 S,Z1 S,zN0,zN1,zN2,zN3,zN4,zI0,zI1,zI2,zI3,reduceCtorEq,Zd8 S,CW,Za2,Za1,Za0,Z9z,YZ,Zf0,Zf1,Zez,Zfe,Zfc,hw,Z9a,Zhy S,r18,r4,H1,H0,Zhb,Zha,Md.v0]
 generalize Md.K2.getD (Md.YB x 18) 0=k
 by_cases k1:k=1
 ·simp only[k1,decide_true,cond_true,if_true]
 by_cases k2:k=2
 ·simp only[k2,decide_true,decide_false,cond_true,cond_false,if_true,if_false,zI0,true_or,or_true]
 by_cases k3:k=3
 ·simp only[k3,decide_true,decide_false,cond_true,cond_false,if_true,if_false,zI0,true_or,or_true]
 by_cases k4:k=4
 ·simp only[k4,decide_true,decide_false,cond_true,cond_false,if_true,if_false,zI0,true_or,or_true,or_false]
 by_cases k5:k=5
 ·simp only[k5,decide_true,decide_false,cond_true,cond_false,if_true,if_false,zI0,true_or,or_true,or_false]
 by_cases k6:k=6
 ·simp only[k6,decide_true,decide_false,cond_true,cond_false,if_true,if_false,zI0,true_or,or_true,or_false]
 by_cases k8:k=8
 ·simp only[k8,decide_true,decide_false,cond_true,cond_false,if_true,if_false,zI0,true_or,or_true,or_false]
 by_cases k7:k=7
 ·simp only[k7,decide_true,decide_false,cond_true,cond_false,if_true,if_false,zI0,true_or,or_true,or_false]
 simp only[k1,k2,k3,k4,k5,k6,k7,k8,decide_false,cond_false,if_false,or_false]
theorem Kw (dp:Nat)(x:Int)(n:Nat)(hn:n<1000)(A:List Blk)(nb:Nat)(us:List Nat):ZX false E (Z5 E fn (dp+2)) 26 A nb (some ([vi x,vi (n:Nat)],us))=some (.made (.d (.agg (Cl.cells (Md.J3 x n)))) []):=
 Z7.flat (Zan S dp x n hn) (np S 26 (by decide)) (rfl) A nb us
end
def NM (n:Nat):ByteArray:=⟨#[(48+n).toUInt8]⟩
theorem Zda (r:Bool)(x:Opd)(E:Env)(call:cT)(tm:List AV)(A:List Blk)(nb:Nat):EV r x E call tm A nb=one? (K7 A r (look tm x)):=id rfl
theorem Z05 (a b:ByteArray)(h:a.size+b.size<=1099511627776):YF .add (.d (vt a)) (.d (vt b))=some (.d (vt (a++b))):=by
 show(K8 .add a b).map _=_
 simp[K8,h]
theorem dg (z:Int):JP [z]++(⟨#[]⟩:ByteArray)=⟨#[UInt8.ofNat z.toNat]⟩:=by
 have:(⟨#[]⟩:ByteArray)=ByteArray.empty:=rfl
 rw[this,ByteArray.append_empty]
 rfl
theorem Z9l (z:Int):YF .add (.d (vt (JP [z]))) (.d (vt ⟨#[]⟩))=some (.d (vt ⟨#[UInt8.ofNat z.toNat]⟩)):=by
 rw[Z05 _ _ (by rw[<-ByteArray.size_append,dg];show(1:Nat)<=_;decide),dg]
theorem Z9k (z:UInt8):YF .eql (.d (vt ⟨#[z]⟩)) (.d (vt ⟨#[]⟩))=some (ZZ false):=by
 simp[YF,K8]
theorem Zc2 (E:Env)(call:cT)(kn:K)(kx:Nat->K)(kr:K)(tm:List AV)(A:List Blk):RW E call kn kx kr tm A=(cQ (cQ (Z3 [st 6 (oV (.t 0)),st 7 (oB .gtr (.t 6) (ci 0)),st 8 (oV (.t 7)),sg 9 8 false (oV (.t 3)),sg 10 8 false (oB .eql (.t 9) (.c (.v (.string ⟨#[]⟩)))),st 11 (QE (.t 8) (.c (.v (.bool true))) (.t 10))]) (cJ 1 (.t 11) (cK) (Q2 0))) (ZK 1 (cQ (Z3 [st 12 (oV (.t 0)),st 13 (oB .rem (.t 12) (ci 10)),st 14 (oB .add (ci 48) (.t 13)),st 15 (D2 .u8 (.t 14)),st 16 (Y2 (rep [.d (.v (.int .u8 0))] 1) 1 1 [(0,1,(.t 15))]),st 17 (EV false (.t 16)),st 18 (oV (.t 3)),st 19 (oB .add (.t 17) (.t 18)),st 3 (oV (.t 19))]) (Z3 [st 20 (oV (.t 0)),st 21 (oB .quo (.t 20) (ci 10)),st 0 (oV (.t 21))])))) E call kn kx kr tm A:=id rfl
variable {E:Env} {fn:FuncId->Option (Env->cT->cT)}
section
variable (S:Sur E fn)
include S
theorem Zd9:E.lives 25 1=none/\E.lives 25 7=none:=⟨off S 25 1 (by decide) rfl,off S 25 7 (by decide) rfl⟩
theorem Zbi (dp:Nat)(n:Int)(hn:0<=n/\n<6):Z7 E fn (dp+1) 25 [vi n] (vt (NM n.toNat)):=by
 unfold Z7
 show Zz (Z5 E fn (dp+1) 25 [.d (vi n)] [])=_
 rw[Yx,S.Z55,Yw,Z8q,Yq _ _ _ _ _ _ _ _ rfl]
 have hloop:∀ kx kr m d T A,Z9 10 RW (Zj E 25) (Z5 E fn dp) kx kr (m+1) (mk d 23 T) A=PV (RW (Zj E 25) (Z5 E fn dp) (Z9 10 RW (Zj E 25) (Z5 E fn dp) kx kr m) kx kr) 23 [0,3] d T A (Q1 A 0 100000 ([0,3].flatMap fun t=>YT 8 (ZG d T t)) []):=fun kx kr m d T A=>Z6 (on S _ _ [0,3] (by decide) rfl) rfl _ _ _ _ _ _ _ _ _ rfl
 have w1:∀ z:Int,0<=z->z<100->IntKind.i64.wrap z=z:=fun z h1 h2=>YM (by omega) (by omega)
 have w2:∀ z:Int,0<=z->z<100->IntKind.u8.wrap z=z:=fun z h1 h2=>by simp only[IntKind.wrap,IntKind.signed,IntKind.bits];simp;omega
 have e0:YF .eql (.d (vt ⟨#[]⟩)) (.d (vt ⟨#[]⟩))=some (ZZ true):=by simp[YF,K8]
 rcases(show n=0∨n=1∨n=2∨n=3∨n=4∨n=5 by omega) with rfl | rfl | rfl | rfl | rfl | rfl
 all_goals simp only[eG,go_sem,Z2 S,Z1 S,Nat.reduceLT,Nat.reduceEqDiff,Nat.reduceAdd,Nat.reduceMul,Nat.reduceLeDiff,Int.reduceEq,Int.reduceLT,Int.reduceLE,Int.reduceNeg,reduceCtorEq,Zd9 S,hloop,Zc2,ne_eq,not_false_eq_true,e0,gt_iff_lt,Int.reduceTMod,Int.reduceTDiv,Int.reduceMod,Int.reduceAdd,w1,w2,Zda,K7,SB,cellsAt,List.getElem?_cons_zero,List.take_succ_cons,List.take_zero,List.drop_zero,true_and,Nat.le_refl,and_self,EZ,Z9l,Z9k,Zq]
 all_goals rfl
theorem KB (dp:Nat)(n:Int)(hn:0<=n/\n<6)(A:List Blk)(nb:Nat)(us:List Nat):ZX false E (Z5 E fn (dp+1)) 25 A nb (some ([vi n],us))=some (.made (.d (vt (NM n.toNat))) []):=
 Z7.flat (Zbi S dp n hn) (np S 25 (by decide)) (rfl) A nb us
end
theorem Aw (x:Int):YF .shr (.d (.v (.int .i64 x))) (.d (.v (.int .u64 0)))=some (aI (Md.ZJ x 0)):=GJ x 0 (by decide)
theorem AC (x:Int):x.fdiv (2^min 0 64)=Md.ZJ x 0:=by rw[Nat.min_eq_left (by decide)];rfl
theorem AB (x:Int):x.fdiv (2^min 2 64)=Md.ZJ x 2:=by rw[Nat.min_eq_left (by decide)];rfl
theorem AA (x:Int):x.fdiv (2^min 4 64)=Md.ZJ x 4:=by rw[Nat.min_eq_left (by decide)];rfl
theorem Av (x:Int):x.fdiv (2^min 6 64)=Md.ZJ x 6:=by rw[Nat.min_eq_left (by decide)];rfl
theorem AN (x:Int):BE (.d (.lst [vi 0,vi 0,vi 1,vi 2] 4 (some 4))) (aI (Md.Y9 x 3)) 1=some (.d (.vptr (vi (Md.r4.getD (Md.Y9 x 3).toNat 0)::rC (Md.r4.drop ((Md.Y9 x 3).toNat+1))))):=by
 obtain⟨r,hr,h⟩:=Md.Mz x
 rw[h,Int.toNat_natCast]
 exact VT (l:=Md.r4) hr 4 rfl _ rfl
theorem YW (E:Env)(l:Nat->Option (List Nat))(m:Nat)(call:cT)(tm:List AV)(A:List Blk)(nb:Nat)(g:FuncId)(args:List Opd)(cap:List AV)(h:ZW g E.br=false):
  WN { br:=E.br,th:=E.th,prim:=E.prim,back:=E.back,lives:=E.lives,live:=l,nb0:=m } call tm A nb args (.fn (.func g) cap)=ZX (ZW g E.th || G3 (l (CU g))) E call g A nb (R2 (Y8 (deep A 8) (args.map (look tm)++cap))):=
 Z5m E l m call A nb g _ h
def Z65 (A:List Blk)(n i:Nat):Option (List AV)->Option (DV×List Nat)
 | some cs=>(Y8 (deep A n) cs).map fun r=>(.vptr r.1,i::r.2)
 | none=>none
theorem YU (A:List Blk)(n i v o:Nat):deep A (n+1) (.ref i v o)=Z65 A n i (cellsAt A i v o):=by
 show(match cellsAt A i v o with | some cs=>_ | none=>none)=_
 cases cellsAt A i v o<;>rfl
theorem YX (A:List Blk)(n i:Nat)(cs:List AV):Z65 A n i (some cs)=(Y8 (deep A n) cs).map fun r=>(.vptr r.1,i::r.2):=id rfl
variable {E:Env} {fn:FuncId->Option (Env->cT->cT)}
section
variable (S:Sur E fn)
include S
theorem YV:E.lives 8 1=none/\E.lives 8 23=none/\E.lives 8 27=none/\E.lives 8 31=none/\E.lives 8 35=none/\E.lives 8 39=none:=⟨off S 8 1 (by decide) rfl,off S 8 23 (by decide) rfl,off S 8 27 (by decide) rfl,off S 8 31 (by decide) rfl,off S 8 35 (by decide) rfl,off S 8 39 (by decide) rfl⟩
theorem Z9q (dp:Nat)(l:List Int)(kx:Nat->K)(kr:K)(f:Nat)(W wn pub sec r0 r1 r2 r3 r:Int)(hr:Md.r4.getD (Md.Y9 (Md.ZJ (Md.kM l 1) 0) 3).toNat 0=r):
  Q9 (Zj E 8) (Z5 E fn (dp+1)) (Z9 12 Q9 (Zj E 8) (Z5 E fn (dp+1)) kx kr (f+1)) kx kr (mk .bot 171 [(2,.ref 0 0 0),(3,.fn (.func 24) [.ref 1 0 0]),(4,.ref 2 0 0),(5,aI pub),(6,aI sec),(7,aI 0)]) [.cells [zi,zi,zi,zi,zi,zi,zi,zn,zn,zn] 0 false,.cells [.d (rD l)] 0 false,.cells [aI W,aI wn,aI 6,aI r0,aI r1,aI r2,aI r3,zn,zn,zn] 0 false]=
  Q9 (Zj E 8) (Z5 E fn (dp+1)) (Z9 12 Q9 (Zj E 8) (Z5 E fn (dp+1)) kx kr f) kx kr (mk .bot 171 [(2,.ref 0 0 0),(3,.fn (.func 24) [.ref 1 0 0]),(4,.ref 2 0 0),(5,aI (Md.Q6 W pub sec r).2.1),(6,aI (Md.Q6 W pub sec r).2.2),(7,aI 1)]) [.cells [zi,zi,zi,zi,zi,zi,zi,zn,zn,zn] 0 false,.cells [.d (rD l)] 0 false,.cells [aI W,aI wn,aI 6,aI (Md.Q6 W pub sec r).1,aI r1,aI r2,aI r3,zn,zn,zn] 0 false]:=by
 have w1:∀ z:Int,0<=z->z<100->IntKind.i64.wrap z=z:=fun z h1 h2=>YM (by omega) (by omega)
 have w2:∀ z:Int,0<=z->z<100->IntKind.u64.wrap z=z:=fun z h1 h2=>MV (by omega) (by omega)
 have r4':∀ {α:Type} (l:List α),rep l 4=l++(l++(l++l)):=fun l=>by simp[rep]
 generalize hK:Z9 12 Q9 _ _ kx kr (f+1)=KK
 first | (conv=>lhs;rw[Q9]) | rw[Q9]
 by_cases c1:r=1
 ·by_cases c2 : IntKind.i64.wrap (pub + W) <= 2
  ·simp only [eG, go_sem, Z2 S, Z1 S, zN0, zN1, zN2, zN3, zN4, zI0, zI1, zI2, zI3, reduceCtorEq, YV S, YU, YX, YW, w1, w2, r4', YY S, Aw, AC, AB, AA, Av, YZ, AN, Int.reduceMul, Int.reduceAdd, Int.toNat_zero, Int.reduceToNat, zI1, zI2, Int.cast_ofNat_Int, false_and, Md.Q6, Md.Q5, and_true, true_and, and_self, hr, c1, c2]
   rw[<-hK,Z6 (on S _ _ [2,3,4,5,6,7] (by decide) rfl) rfl _ _ _ _ _ _ _ _ _ rfl]
   simp only[eG,go_sem,Z2 S,Z1 S,zN0,zN1,zN2,zN3,zN4,zI0,zI1,zI2,zI3,reduceCtorEq,YV S]
  ·simp only [eG, go_sem, Z2 S, Z1 S, zN0, zN1, zN2, zN3, zN4, zI0, zI1, zI2, zI3, reduceCtorEq, YV S, YU, YX, YW, w1, w2, r4', YY S, Aw, AC, AB, AA, Av, YZ, AN, Int.reduceMul, Int.reduceAdd, Int.toNat_zero, Int.reduceToNat, zI1, zI2, Int.cast_ofNat_Int, false_and, Md.Q6, Md.Q5, and_true, true_and, and_self, hr, c1, c2]
   rw[<-hK,Z6 (on S _ _ [2,3,4,5,6,7] (by decide) rfl) rfl _ _ _ _ _ _ _ _ _ rfl]
   simp only[eG,go_sem,Z2 S,Z1 S,zN0,zN1,zN2,zN3,zN4,zI0,zI1,zI2,zI3,reduceCtorEq,YV S]
 ·by_cases c3 : r = 2
  ·by_cases c4 : IntKind.i64.wrap (sec + W) <= 2
   ·simp only [eG, go_sem, Z2 S, Z1 S, zN0, zN1, zN2, zN3, zN4, zI0, zI1, zI2, zI3, reduceCtorEq, YV S, YU, YX, YW, w1, w2, r4', YY S, Aw, AC, AB, AA, Av, YZ, AN, Int.reduceMul, Int.reduceAdd, Int.toNat_zero, Int.reduceToNat, zI1, zI2, Int.cast_ofNat_Int, false_and, Md.Q6, Md.Q5, and_true, true_and, and_self, hr, c1, c3, c4]
    rw[<-hK,Z6 (on S _ _ [2,3,4,5,6,7] (by decide) rfl) rfl _ _ _ _ _ _ _ _ _ rfl]
    simp only[eG,go_sem,Z2 S,Z1 S,zN0,zN1,zN2,zN3,zN4,zI0,zI1,zI2,zI3,reduceCtorEq,YV S]
   ·simp only [eG, go_sem, Z2 S, Z1 S, zN0, zN1, zN2, zN3, zN4, zI0, zI1, zI2, zI3, reduceCtorEq, YV S, YU, YX, YW, w1, w2, r4', YY S, Aw, AC, AB, AA, Av, YZ, AN, Int.reduceMul, Int.reduceAdd, Int.toNat_zero, Int.reduceToNat, zI1, zI2, Int.cast_ofNat_Int, false_and, Md.Q6, Md.Q5, and_true, true_and, and_self, hr, c1, c3, c4]
    rw[<-hK,Z6 (on S _ _ [2,3,4,5,6,7] (by decide) rfl) rfl _ _ _ _ _ _ _ _ _ rfl]
    simp only[eG,go_sem,Z2 S,Z1 S,zN0,zN1,zN2,zN3,zN4,zI0,zI1,zI2,zI3,reduceCtorEq,YV S]
  ·simp only [eG, go_sem, Z2 S, Z1 S, zN0, zN1, zN2, zN3, zN4, zI0, zI1, zI2, zI3, reduceCtorEq, YV S, YU, YX, YW, w1, w2, r4', YY S, Aw, AC, AB, AA, Av, YZ, AN, Int.reduceMul, Int.reduceAdd, Int.toNat_zero, Int.reduceToNat, zI1, zI2, Int.cast_ofNat_Int, false_and, Md.Q6, Md.Q5, and_true, true_and, and_self, hr, c1, c3]
   rw[<-hK,Z6 (on S _ _ [2,3,4,5,6,7] (by decide) rfl) rfl _ _ _ _ _ _ _ _ _ rfl]
   simp only[eG,go_sem,Z2 S,Z1 S,zN0,zN1,zN2,zN3,zN4,zI0,zI1,zI2,zI3,reduceCtorEq,YV S]
theorem Z9p (dp:Nat)(l:List Int)(kx:Nat->K)(kr:K)(f:Nat)(W wn pub sec r0 r1 r2 r3 r:Int)(hr:Md.r4.getD (Md.Y9 (Md.ZJ (Md.kM l 1) 2) 3).toNat 0=r):
  Q9 (Zj E 8) (Z5 E fn (dp+1)) (Z9 12 Q9 (Zj E 8) (Z5 E fn (dp+1)) kx kr (f+1)) kx kr (mk .bot 171 [(2,.ref 0 0 0),(3,.fn (.func 24) [.ref 1 0 0]),(4,.ref 2 0 0),(5,aI pub),(6,aI sec),(7,aI 1)]) [.cells [zi,zi,zi,zi,zi,zi,zi,zn,zn,zn] 0 false,.cells [.d (rD l)] 0 false,.cells [aI W,aI wn,aI 6,aI r0,aI r1,aI r2,aI r3,zn,zn,zn] 0 false]=
  Q9 (Zj E 8) (Z5 E fn (dp+1)) (Z9 12 Q9 (Zj E 8) (Z5 E fn (dp+1)) kx kr f) kx kr (mk .bot 171 [(2,.ref 0 0 0),(3,.fn (.func 24) [.ref 1 0 0]),(4,.ref 2 0 0),(5,aI (Md.Q6 W pub sec r).2.1),(6,aI (Md.Q6 W pub sec r).2.2),(7,aI 2)]) [.cells [zi,zi,zi,zi,zi,zi,zi,zn,zn,zn] 0 false,.cells [.d (rD l)] 0 false,.cells [aI W,aI wn,aI 6,aI r0,aI (Md.Q6 W pub sec r).1,aI r2,aI r3,zn,zn,zn] 0 false]:=by
 have w1:∀ z:Int,0<=z->z<100->IntKind.i64.wrap z=z:=fun z h1 h2=>YM (by omega) (by omega)
 have w2:∀ z:Int,0<=z->z<100->IntKind.u64.wrap z=z:=fun z h1 h2=>MV (by omega) (by omega)
 have r4':∀ {α:Type} (l:List α),rep l 4=l++(l++(l++l)):=fun l=>by simp[rep]
 generalize hK:Z9 12 Q9 _ _ kx kr (f+1)=KK
 first | (conv=>lhs;rw[Q9]) | rw[Q9]
 by_cases c1:r=1
 ·by_cases c2 : IntKind.i64.wrap (pub + W) <= 2
  ·simp only [eG, go_sem, Z2 S, Z1 S, zN0, zN1, zN2, zN3, zN4, zI0, zI1, zI2, zI3, reduceCtorEq, YV S, YU, YX, YW, w1, w2, r4', YY S, Aw, AC, AB, AA, Av, YZ, AN, Int.reduceMul, Int.reduceAdd, Int.toNat_zero, Int.reduceToNat, zI1, zI2, Int.cast_ofNat_Int, false_and, Md.Q6, Md.Q5, and_true, true_and, and_self, hr, c1, c2]
   rw[<-hK,Z6 (on S _ _ [2,3,4,5,6,7] (by decide) rfl) rfl _ _ _ _ _ _ _ _ _ rfl]
   simp only[eG,go_sem,Z2 S,Z1 S,zN0,zN1,zN2,zN3,zN4,zI0,zI1,zI2,zI3,reduceCtorEq,YV S]
  ·simp only [eG, go_sem, Z2 S, Z1 S, zN0, zN1, zN2, zN3, zN4, zI0, zI1, zI2, zI3, reduceCtorEq, YV S, YU, YX, YW, w1, w2, r4', YY S, Aw, AC, AB, AA, Av, YZ, AN, Int.reduceMul, Int.reduceAdd, Int.toNat_zero, Int.reduceToNat, zI1, zI2, Int.cast_ofNat_Int, false_and, Md.Q6, Md.Q5, and_true, true_and, and_self, hr, c1, c2]
   rw[<-hK,Z6 (on S _ _ [2,3,4,5,6,7] (by decide) rfl) rfl _ _ _ _ _ _ _ _ _ rfl]
   simp only[eG,go_sem,Z2 S,Z1 S,zN0,zN1,zN2,zN3,zN4,zI0,zI1,zI2,zI3,reduceCtorEq,YV S]
 ·by_cases c3 : r = 2
  ·by_cases c4 : IntKind.i64.wrap (sec + W) <= 2
   ·simp only [eG, go_sem, Z2 S, Z1 S, zN0, zN1, zN2, zN3, zN4, zI0, zI1, zI2, zI3, reduceCtorEq, YV S, YU, YX, YW, w1, w2, r4', YY S, Aw, AC, AB, AA, Av, YZ, AN, Int.reduceMul, Int.reduceAdd, Int.toNat_zero, Int.reduceToNat, zI1, zI2, Int.cast_ofNat_Int, false_and, Md.Q6, Md.Q5, and_true, true_and, and_self, hr, c1, c3, c4]
    rw[<-hK,Z6 (on S _ _ [2,3,4,5,6,7] (by decide) rfl) rfl _ _ _ _ _ _ _ _ _ rfl]
    simp only[eG,go_sem,Z2 S,Z1 S,zN0,zN1,zN2,zN3,zN4,zI0,zI1,zI2,zI3,reduceCtorEq,YV S]
   ·simp only [eG, go_sem, Z2 S, Z1 S, zN0, zN1, zN2, zN3, zN4, zI0, zI1, zI2, zI3, reduceCtorEq, YV S, YU, YX, YW, w1, w2, r4', YY S, Aw, AC, AB, AA, Av, YZ, AN, Int.reduceMul, Int.reduceAdd, Int.toNat_zero, Int.reduceToNat, zI1, zI2, Int.cast_ofNat_Int, false_and, Md.Q6, Md.Q5, and_true, true_and, and_self, hr, c1, c3, c4]
    rw[<-hK,Z6 (on S _ _ [2,3,4,5,6,7] (by decide) rfl) rfl _ _ _ _ _ _ _ _ _ rfl]
    simp only[eG,go_sem,Z2 S,Z1 S,zN0,zN1,zN2,zN3,zN4,zI0,zI1,zI2,zI3,reduceCtorEq,YV S]
  ·simp only [eG, go_sem, Z2 S, Z1 S, zN0, zN1, zN2, zN3, zN4, zI0, zI1, zI2, zI3, reduceCtorEq, YV S, YU, YX, YW, w1, w2, r4', YY S, Aw, AC, AB, AA, Av, YZ, AN, Int.reduceMul, Int.reduceAdd, Int.toNat_zero, Int.reduceToNat, zI1, zI2, Int.cast_ofNat_Int, false_and, Md.Q6, Md.Q5, and_true, true_and, and_self, hr, c1, c3]
   rw[<-hK,Z6 (on S _ _ [2,3,4,5,6,7] (by decide) rfl) rfl _ _ _ _ _ _ _ _ _ rfl]
   simp only[eG,go_sem,Z2 S,Z1 S,zN0,zN1,zN2,zN3,zN4,zI0,zI1,zI2,zI3,reduceCtorEq,YV S]
theorem Z9o (dp:Nat)(l:List Int)(kx:Nat->K)(kr:K)(f:Nat)(W wn pub sec r0 r1 r2 r3 r:Int)(hr:Md.r4.getD (Md.Y9 (Md.ZJ (Md.kM l 1) 4) 3).toNat 0=r):
  Q9 (Zj E 8) (Z5 E fn (dp+1)) (Z9 12 Q9 (Zj E 8) (Z5 E fn (dp+1)) kx kr (f+1)) kx kr (mk .bot 171 [(2,.ref 0 0 0),(3,.fn (.func 24) [.ref 1 0 0]),(4,.ref 2 0 0),(5,aI pub),(6,aI sec),(7,aI 2)]) [.cells [zi,zi,zi,zi,zi,zi,zi,zn,zn,zn] 0 false,.cells [.d (rD l)] 0 false,.cells [aI W,aI wn,aI 6,aI r0,aI r1,aI r2,aI r3,zn,zn,zn] 0 false]=
  Q9 (Zj E 8) (Z5 E fn (dp+1)) (Z9 12 Q9 (Zj E 8) (Z5 E fn (dp+1)) kx kr f) kx kr (mk .bot 171 [(2,.ref 0 0 0),(3,.fn (.func 24) [.ref 1 0 0]),(4,.ref 2 0 0),(5,aI (Md.Q6 W pub sec r).2.1),(6,aI (Md.Q6 W pub sec r).2.2),(7,aI 3)]) [.cells [zi,zi,zi,zi,zi,zi,zi,zn,zn,zn] 0 false,.cells [.d (rD l)] 0 false,.cells [aI W,aI wn,aI 6,aI r0,aI r1,aI (Md.Q6 W pub sec r).1,aI r3,zn,zn,zn] 0 false]:=by
 have w1:∀ z:Int,0<=z->z<100->IntKind.i64.wrap z=z:=fun z h1 h2=>YM (by omega) (by omega)
 have w2:∀ z:Int,0<=z->z<100->IntKind.u64.wrap z=z:=fun z h1 h2=>MV (by omega) (by omega)
 have r4':∀ {α:Type} (l:List α),rep l 4=l++(l++(l++l)):=fun l=>by simp[rep]
 generalize hK:Z9 12 Q9 _ _ kx kr (f+1)=KK
 first | (conv=>lhs;rw[Q9]) | rw[Q9]
 by_cases c1:r=1
 ·by_cases c2 : IntKind.i64.wrap (pub + W) <= 2
  ·simp only [eG, go_sem, Z2 S, Z1 S, zN0, zN1, zN2, zN3, zN4, zI0, zI1, zI2, zI3, reduceCtorEq, YV S, YU, YX, YW, w1, w2, r4', YY S, Aw, AC, AB, AA, Av, YZ, AN, Int.reduceMul, Int.reduceAdd, Int.toNat_zero, Int.reduceToNat, zI1, zI2, Int.cast_ofNat_Int, false_and, Md.Q6, Md.Q5, and_true, true_and, and_self, hr, c1, c2]
   rw[<-hK,Z6 (on S _ _ [2,3,4,5,6,7] (by decide) rfl) rfl _ _ _ _ _ _ _ _ _ rfl]
   simp only[eG,go_sem,Z2 S,Z1 S,zN0,zN1,zN2,zN3,zN4,zI0,zI1,zI2,zI3,reduceCtorEq,YV S]
  ·simp only [eG, go_sem, Z2 S, Z1 S, zN0, zN1, zN2, zN3, zN4, zI0, zI1, zI2, zI3, reduceCtorEq, YV S, YU, YX, YW, w1, w2, r4', YY S, Aw, AC, AB, AA, Av, YZ, AN, Int.reduceMul, Int.reduceAdd, Int.toNat_zero, Int.reduceToNat, zI1, zI2, Int.cast_ofNat_Int, false_and, Md.Q6, Md.Q5, and_true, true_and, and_self, hr, c1, c2]
   rw[<-hK,Z6 (on S _ _ [2,3,4,5,6,7] (by decide) rfl) rfl _ _ _ _ _ _ _ _ _ rfl]
   simp only[eG,go_sem,Z2 S,Z1 S,zN0,zN1,zN2,zN3,zN4,zI0,zI1,zI2,zI3,reduceCtorEq,YV S]
 ·by_cases c3 : r = 2
  ·by_cases c4 : IntKind.i64.wrap (sec + W) <= 2
   ·simp only [eG, go_sem, Z2 S, Z1 S, zN0, zN1, zN2, zN3, zN4, zI0, zI1, zI2, zI3, reduceCtorEq, YV S, YU, YX, YW, w1, w2, r4', YY S, Aw, AC, AB, AA, Av, YZ, AN, Int.reduceMul, Int.reduceAdd, Int.toNat_zero, Int.reduceToNat, zI1, zI2, Int.cast_ofNat_Int, false_and, Md.Q6, Md.Q5, and_true, true_and, and_self, hr, c1, c3, c4]
    rw[<-hK,Z6 (on S _ _ [2,3,4,5,6,7] (by decide) rfl) rfl _ _ _ _ _ _ _ _ _ rfl]
    simp only[eG,go_sem,Z2 S,Z1 S,zN0,zN1,zN2,zN3,zN4,zI0,zI1,zI2,zI3,reduceCtorEq,YV S]
   ·simp only [eG, go_sem, Z2 S, Z1 S, zN0, zN1, zN2, zN3, zN4, zI0, zI1, zI2, zI3, reduceCtorEq, YV S, YU, YX, YW, w1, w2, r4', YY S, Aw, AC, AB, AA, Av, YZ, AN, Int.reduceMul, Int.reduceAdd, Int.toNat_zero, Int.reduceToNat, zI1, zI2, Int.cast_ofNat_Int, false_and, Md.Q6, Md.Q5, and_true, true_and, and_self, hr, c1, c3, c4]
    rw[<-hK,Z6 (on S _ _ [2,3,4,5,6,7] (by decide) rfl) rfl _ _ _ _ _ _ _ _ _ rfl]
    simp only[eG,go_sem,Z2 S,Z1 S,zN0,zN1,zN2,zN3,zN4,zI0,zI1,zI2,zI3,reduceCtorEq,YV S]
  ·simp only [eG, go_sem, Z2 S, Z1 S, zN0, zN1, zN2, zN3, zN4, zI0, zI1, zI2, zI3, reduceCtorEq, YV S, YU, YX, YW, w1, w2, r4', YY S, Aw, AC, AB, AA, Av, YZ, AN, Int.reduceMul, Int.reduceAdd, Int.toNat_zero, Int.reduceToNat, zI1, zI2, Int.cast_ofNat_Int, false_and, Md.Q6, Md.Q5, and_true, true_and, and_self, hr, c1, c3]
   rw[<-hK,Z6 (on S _ _ [2,3,4,5,6,7] (by decide) rfl) rfl _ _ _ _ _ _ _ _ _ rfl]
   simp only[eG,go_sem,Z2 S,Z1 S,zN0,zN1,zN2,zN3,zN4,zI0,zI1,zI2,zI3,reduceCtorEq,YV S]
theorem Z9n (dp:Nat)(l:List Int)(kx:Nat->K)(kr:K)(f:Nat)(W wn pub sec r0 r1 r2 r3 r:Int)(hr:Md.r4.getD (Md.Y9 (Md.ZJ (Md.kM l 1) 6) 3).toNat 0=r):
  Q9 (Zj E 8) (Z5 E fn (dp+1)) (Z9 12 Q9 (Zj E 8) (Z5 E fn (dp+1)) kx kr (f+1)) kx kr (mk .bot 171 [(2,.ref 0 0 0),(3,.fn (.func 24) [.ref 1 0 0]),(4,.ref 2 0 0),(5,aI pub),(6,aI sec),(7,aI 3)]) [.cells [zi,zi,zi,zi,zi,zi,zi,zn,zn,zn] 0 false,.cells [.d (rD l)] 0 false,.cells [aI W,aI wn,aI 6,aI r0,aI r1,aI r2,aI r3,zn,zn,zn] 0 false]=
  Q9 (Zj E 8) (Z5 E fn (dp+1)) (Z9 12 Q9 (Zj E 8) (Z5 E fn (dp+1)) kx kr f) kx kr (mk .bot 171 [(2,.ref 0 0 0),(3,.fn (.func 24) [.ref 1 0 0]),(4,.ref 2 0 0),(5,aI (Md.Q6 W pub sec r).2.1),(6,aI (Md.Q6 W pub sec r).2.2),(7,aI 4)]) [.cells [zi,zi,zi,zi,zi,zi,zi,zn,zn,zn] 0 false,.cells [.d (rD l)] 0 false,.cells [aI W,aI wn,aI 6,aI r0,aI r1,aI r2,aI (Md.Q6 W pub sec r).1,zn,zn,zn] 0 false]:=by
 have w1:∀ z:Int,0<=z->z<100->IntKind.i64.wrap z=z:=fun z h1 h2=>YM (by omega) (by omega)
 have w2:∀ z:Int,0<=z->z<100->IntKind.u64.wrap z=z:=fun z h1 h2=>MV (by omega) (by omega)
 have r4':∀ {α:Type} (l:List α),rep l 4=l++(l++(l++l)):=fun l=>by simp[rep]
 generalize hK:Z9 12 Q9 _ _ kx kr (f+1)=KK
 first | (conv=>lhs;rw[Q9]) | rw[Q9]
 by_cases c1:r=1
 ·by_cases c2 : IntKind.i64.wrap (pub + W) <= 2
  ·simp only [eG, go_sem, Z2 S, Z1 S, zN0, zN1, zN2, zN3, zN4, zI0, zI1, zI2, zI3, reduceCtorEq, YV S, YU, YX, YW, w1, w2, r4', YY S, Aw, AC, AB, AA, Av, YZ, AN, Int.reduceMul, Int.reduceAdd, Int.toNat_zero, Int.reduceToNat, zI1, zI2, Int.cast_ofNat_Int, false_and, Md.Q6, Md.Q5, and_true, true_and, and_self, hr, c1, c2]
   rw[<-hK,Z6 (on S _ _ [2,3,4,5,6,7] (by decide) rfl) rfl _ _ _ _ _ _ _ _ _ rfl]
   simp only[eG,go_sem,Z2 S,Z1 S,zN0,zN1,zN2,zN3,zN4,zI0,zI1,zI2,zI3,reduceCtorEq,YV S]
  ·simp only [eG, go_sem, Z2 S, Z1 S, zN0, zN1, zN2, zN3, zN4, zI0, zI1, zI2, zI3, reduceCtorEq, YV S, YU, YX, YW, w1, w2, r4', YY S, Aw, AC, AB, AA, Av, YZ, AN, Int.reduceMul, Int.reduceAdd, Int.toNat_zero, Int.reduceToNat, zI1, zI2, Int.cast_ofNat_Int, false_and, Md.Q6, Md.Q5, and_true, true_and, and_self, hr, c1, c2]
   rw[<-hK,Z6 (on S _ _ [2,3,4,5,6,7] (by decide) rfl) rfl _ _ _ _ _ _ _ _ _ rfl]
   simp only[eG,go_sem,Z2 S,Z1 S,zN0,zN1,zN2,zN3,zN4,zI0,zI1,zI2,zI3,reduceCtorEq,YV S]
 ·by_cases c3 : r = 2
  ·by_cases c4 : IntKind.i64.wrap (sec + W) <= 2
   ·simp only [eG, go_sem, Z2 S, Z1 S, zN0, zN1, zN2, zN3, zN4, zI0, zI1, zI2, zI3, reduceCtorEq, YV S, YU, YX, YW, w1, w2, r4', YY S, Aw, AC, AB, AA, Av, YZ, AN, Int.reduceMul, Int.reduceAdd, Int.toNat_zero, Int.reduceToNat, zI1, zI2, Int.cast_ofNat_Int, false_and, Md.Q6, Md.Q5, and_true, true_and, and_self, hr, c1, c3, c4]
    rw[<-hK,Z6 (on S _ _ [2,3,4,5,6,7] (by decide) rfl) rfl _ _ _ _ _ _ _ _ _ rfl]
    simp only[eG,go_sem,Z2 S,Z1 S,zN0,zN1,zN2,zN3,zN4,zI0,zI1,zI2,zI3,reduceCtorEq,YV S]
   ·simp only [eG, go_sem, Z2 S, Z1 S, zN0, zN1, zN2, zN3, zN4, zI0, zI1, zI2, zI3, reduceCtorEq, YV S, YU, YX, YW, w1, w2, r4', YY S, Aw, AC, AB, AA, Av, YZ, AN, Int.reduceMul, Int.reduceAdd, Int.toNat_zero, Int.reduceToNat, zI1, zI2, Int.cast_ofNat_Int, false_and, Md.Q6, Md.Q5, and_true, true_and, and_self, hr, c1, c3, c4]
    rw[<-hK,Z6 (on S _ _ [2,3,4,5,6,7] (by decide) rfl) rfl _ _ _ _ _ _ _ _ _ rfl]
    simp only[eG,go_sem,Z2 S,Z1 S,zN0,zN1,zN2,zN3,zN4,zI0,zI1,zI2,zI3,reduceCtorEq,YV S]
  ·simp only [eG, go_sem, Z2 S, Z1 S, zN0, zN1, zN2, zN3, zN4, zI0, zI1, zI2, zI3, reduceCtorEq, YV S, YU, YX, YW, w1, w2, r4', YY S, Aw, AC, AB, AA, Av, YZ, AN, Int.reduceMul, Int.reduceAdd, Int.toNat_zero, Int.reduceToNat, zI1, zI2, Int.cast_ofNat_Int, false_and, Md.Q6, Md.Q5, and_true, true_and, and_self, hr, c1, c3]
   rw[<-hK,Z6 (on S _ _ [2,3,4,5,6,7] (by decide) rfl) rfl _ _ _ _ _ _ _ _ _ rfl]
   simp only[eG,go_sem,Z2 S,Z1 S,zN0,zN1,zN2,zN3,zN4,zI0,zI1,zI2,zI3,reduceCtorEq,YV S]
theorem Zex (dp:Nat)(l:List Int)(kx:Nat->K)(kr:K)(f:Nat)(hf:4<=f)(W wn:Int):
  Q9 (Zj E 8) (Z5 E fn (dp+1)) (Z9 12 Q9 (Zj E 8) (Z5 E fn (dp+1)) kx kr f) kx kr (mk .bot 171 [(2,.ref 0 0 0),(3,.fn (.func 24) [.ref 1 0 0]),(4,.ref 2 0 0),(5,aI 0),(6,aI 0),(7,aI 0)]) [.cells [zi,zi,zi,zi,zi,zi,zi,zn,zn,zn] 0 false,.cells [.d (rD l)] 0 false,.cells [aI W,aI wn,aI 6,aI 0,aI 0,aI 0,aI 0,zn,zn,zn] 0 false]=
  kx 0 (mk .bot 171 ((24,ZZ false)::(23,aI 4)::[(2,.ref 0 0 0),(3,.fn (.func 24) [.ref 1 0 0]),(4,.ref 2 0 0),(5,aI (Md.Qk l W).2.1),(6,aI (Md.Qk l W).2.2),(7,aI 4)])) [.cells [zi,zi,zi,zi,zi,zi,zi,zn,zn,zn] 0 false,.cells [.d (rD l)] 0 false,.cells [aI W,aI wn,aI 6,aI (Md.QT l W).1,aI (Md.QS l W).1,aI (Md.QR l W).1,aI (Md.Qk l W).1,zn,zn,zn] 0 false]:=by
 obtain⟨f,rfl⟩:∃ g,f=g+4:=⟨f-4,by omega⟩
 rw[Z9q S dp l kx kr (f+3) W wn 0 0 0 0 0 0 _ rfl,Z9p S dp l kx kr (f+2) W wn _ _ _ 0 0 0 _ rfl,Z9o S dp l kx kr (f+1) W wn _ _ _ _ 0 0 _ rfl,Z9n S dp l kx kr f W wn _ _ _ _ _ 0 _ rfl]
 generalize Z9 12 Q9 _ _ kx kr f=KK
 first | (conv=>lhs;rw[Q9]) | rw[Q9]
 simp only[eG,go_sem,Z2 S,Z1 S,zN0,zN1,zN2,zN3,zN4,zI0,zI1,zI2,zI3,reduceCtorEq,YV S]
 rfl
end
theorem JS (A:List Blk)(s:Nat)(cs:List DV)(k:Option Nat)(h:cs.length=s):CH A false s (.d (.lst cs 1 k))=some (cs.map .d,1):=by
 show(if cs.length=1*s then some (cs.map AV.d,1) else none)=_
 rw[if_pos (by omega)]
theorem HH (n:Nat):YF .add (.d (vt ⟨#[108]⟩)) (.d (vt (NM n)))=some (.d (vt (Md.G2 n).name)):=by
 have e:(⟨#[108]⟩:ByteArray)++NM n=(Md.G2 n).name:=by
  apply ByteArray.ext
  simp[NM,Md.G2]
 rw[Z05 _ _ (by rw[<-ByteArray.size_append,e];show(2:Nat)<=_;decide),e]
theorem K1:24<=Z4:=by unfold Z4;decide
theorem K0:80<=Z4:=by unfold Z4;decide
theorem l1:1<=Z4:=by unfold Z4;decide
theorem U0 {A:List Blk}{bytes j v:Nat}{out:List Label}{nm:ByteArray}{z:Int}(hA:A[j]? =some (.cells ((rC out).map .d) v false))(h1:(out.length+1)*bytes<=Z4)(h2:out.length+1<=Z4):
  ZS A 2 bytes (.sref j v 0 out.length 2 none) [.d (vt nm),.d (vi z)] 1=some (.turn j (.cells ((rC (out++[⟨nm,z⟩])).map .d) (v+1) false) (.sref j (v+1) 0 (out.length+1) 2 none)):=
 MJ (x:=(⟨nm,z⟩:Label)) hA rfl (by decide) rfl h1 h2
theorem TZ {A:List Blk}{bytes j v:Nat}{out:List Ins}{k o d an bn tg:Int}{ag bg:Bool}{nm:ByteArray}(hA:A[j]? =some (.cells ((rC out).map .d) v false))(h1:(out.length+1)*bytes<=Z4)(h2:out.length+1<=Z4):
  ZS A 9 bytes (.sref j v 0 out.length 9 none) [.d (vi k),.d (vi o),.d (vi d),.d (vb ag),.d (vi an),.d (vb bg),.d (vi bn),.d (vt nm),.d (vi tg)] 1=some (.turn j (.cells ((rC (out++[⟨k,o,d,⟨ag,an⟩,⟨bg,bn⟩,nm,tg⟩])).map .d) (v+1) false) (.sref j (v+1) 0 (out.length+1) 9 none)):=
 MJ (x:=(⟨k,o,d,⟨ag,an⟩,⟨bg,bn⟩,nm,tg⟩:Ins)) hA rfl (by decide) rfl h1 h2
variable {E:Env} {fn:FuncId->Option (Env->cT->cT)}
section
variable (S:Sur E fn)
include S
theorem C4:E.lives 8 1=none/\E.lives 8 23=none/\E.lives 8 27=none/\E.lives 8 31=none/\E.lives 8 35=none/\E.lives 8 39=none:=⟨off S 8 1 (by decide) rfl,off S 8 23 (by decide) rfl,off S 8 27 (by decide) rfl,off S 8 31 (by decide) rfl,off S 8 35 (by decide) rfl,off S 8 39 (by decide) rfl⟩
theorem Zgb (dp:Nat)(l:List Int)(kx:Nat->K)(kr:K)(f n:Nat)(W wn r0 r1 r2 r3:Int)(hn:n<6):
  YR (Zj E 8) (Z5 E fn (dp+2)) (Z9 44 YR (Zj E 8) (Z5 E fn (dp+2)) kx kr (f+1)) kx kr (mk .bot 171 [(2,.ref 0 0 0),(3,.fn (.func 24) [.ref 1 0 0]),(4,.ref 2 0 0),(8,aI n),(9,aI 0)]) [.cells [zi,zi,zi,zi,zi,zi,zi,zn,zn,zn] 0 false,.cells [.d (rD l)] 0 false,.cells [aI W,aI wn,aI 6,aI r0,aI r1,aI r2,aI r3,zn,zn,zn] 0 false]=
  YR (Zj E 8) (Z5 E fn (dp+2)) (Z9 44 YR (Zj E 8) (Z5 E fn (dp+2)) kx kr f) kx kr (mk .bot 171 [(2,.ref 0 0 0),(3,.fn (.func 24) [.ref 1 0 0]),(4,.ref 2 0 0),(8,aI n),(9,aI 1)]) [.cells [zi,zi,zi,zi,zi,zi,zi,zn,zn,zn] 0 false,.cells [.d (rD l)] 0 false,.cells [aI W,aI wn,aI 6,aI r0,aI r1,aI r2,aI r3,zn,.sref 3 0 0 1 2 none,zn] 0 false,.cells ((rC [Md.G2 0]).map .d) 0 false]:=by
 have w1:∀ z:Int,0<=z->z<100->IntKind.i64.wrap z=z:=fun z h1 h2=>YM (by omega) (by omega)
 have hn1:n<1000:=by omega
 have hjn:(0:Int)<=n:=by omega
 generalize hK:Z9 44 YR _ _ kx kr (f+1)=KK
 first | (conv=>lhs;rw[YR]) | rw[YR]
 simp only[eG,go_sem,Z2 S,Z1 S,zN0,zN1,zN2,zN3,zN4,zI0,zI1,zI2,zI3,reduceCtorEq,C4 S,YU,YX,YW,w1,Zq,KB S,YY S,Kw S,Int.reduceMul,Int.reduceAdd,Int.toNat_zero,Int.reduceToNat,zI1,zI2,HH,JS,H1,H0,K1,K0,l1,Nat.le_refl,and_true,true_and,and_self,hjn,hn1]
 rw[<-hK,Z6 (on S _ _ [2,3,4,8,9] (by decide) rfl) rfl _ _ _ _ _ _ _ _ _ rfl]
 simp only[eG,go_sem,Z2 S,Z1 S,zN0,zN1,zN2,zN3,zN4,zI0,zI1,zI2,zI3,reduceCtorEq,C4 S]
 try rfl
theorem Zdv (dp:Nat)(l:List Int)(kx:Nat->K)(kr:K)(f n:Nat)(W wn r0 r1 r2 r3:Int)(j:Nat)(ls:List Label)(hj:j<=n)(hn:n<6)(hz:ls.length<100):
  YR (Zj E 8) (Z5 E fn (dp+2)) (Z9 44 YR (Zj E 8) (Z5 E fn (dp+2)) kx kr (f+1)) kx kr (mk .bot 171 [(2,.ref 0 0 0),(3,.fn (.func 24) [.ref 1 0 0]),(4,.ref 2 0 0),(8,aI n),(9,aI j)]) [.cells [zi,zi,zi,zi,zi,zi,zi,zn,zn,zn] 0 false,.cells [.d (rD l)] 0 false,.cells [aI W,aI wn,aI 6,aI r0,aI r1,aI r2,aI r3,zn,.sref 3 0 0 ls.length 2 none,zn] 0 false,.cells ((rC ls).map .d) 0 false]=
  YR (Zj E 8) (Z5 E fn (dp+2)) (Z9 44 YR (Zj E 8) (Z5 E fn (dp+2)) kx kr f) kx kr (mk .bot 171 [(2,.ref 0 0 0),(3,.fn (.func 24) [.ref 1 0 0]),(4,.ref 2 0 0),(8,aI n),(9,aI (j+1))]) [.cells [zi,zi,zi,zi,zi,zi,zi,zn,zn,zn] 0 false,.cells [.d (rD l)] 0 false,.cells [aI W,aI wn,aI 6,aI r0,aI r1,aI r2,aI r3,zn,.sref 3 0 0 (ls.length+1) 2 none,zn] 0 false,.cells ((rC (ls++[Md.G2 j])).map .d) 0 false]:=by
 have w1:∀ z:Int,0<=z->z<100->IntKind.i64.wrap z=z:=fun z h1 h2=>YM (by omega) (by omega)
 have hn1:n<1000:=by omega
 have h6:(j:Int)<6:=by omega
 have h0:(0:Int)<=j:=by omega
 have h02:(0:Int)<=j+2:=by omega
 have wj1:IntKind.i64.wrap ((j:Int)+1)=(j:Int)+1:=w1 _ (by omega) (by omega)
 have wj2:IntKind.i64.wrap ((j:Int)+2)=(j:Int)+2:=w1 _ (by omega) (by omega)
 have hjn:(j:Int)<=n:=by omega
 have k1:(ls.length+1)*24<=Z4:=by unfold Z4;omega
 have k2:ls.length+1<=Z4:=by unfold Z4;omega
 generalize hK:Z9 44 YR _ _ kx kr (f+1)=KK
 first | (conv=>lhs;rw[YR]) | rw[YR]
 simp only[eG,go_sem,Z2 S,Z1 S,zN0,zN1,zN2,zN3,zN4,zI0,zI1,zI2,zI3,reduceCtorEq,C4 S,YU,YX,YW,w1,Zq,KB S,YY S,Kw S,Int.reduceMul,Int.reduceAdd,Int.toNat_zero,Int.reduceToNat,zI1,zI2,HH,JS,H1,H0,K1,K0,l1,Nat.le_refl,and_true,true_and,and_self,h6,h0,h02,wj1,wj2,hjn,k1,k2,hn1,Int.toNat_natCast,U0,TZ]
 rw[<-hK,Z6 (on S _ _ [2,3,4,8,9] (by decide) rfl) rfl _ _ _ _ _ _ _ _ _ rfl]
 simp only[eG,go_sem,Z2 S,Z1 S,zN0,zN1,zN2,zN3,zN4,zI0,zI1,zI2,zI3,reduceCtorEq,C4 S]
 try rfl
theorem Zg9 (dp:Nat)(l:List Int)(kx:Nat->K)(kr:K)(f n:Nat)(ls:List Label)(W wn r0 r1 r2 r3:Int)(hj:0<n)(hn:n<6):
  YQ (Zj E 8) (Z5 E fn (dp+2)) (Z9 52 YQ (Zj E 8) (Z5 E fn (dp+2)) kx kr (f+1)) kx kr (mk .bot 171 [(2,.ref 0 0 0),(3,.fn (.func 24) [.ref 1 0 0]),(4,.ref 2 0 0),(8,aI n),(10,aI 0)]) [.cells [zi,zi,zi,zi,zi,zi,zi,zn,zn,zn] 0 false,.cells [.d (rD l)] 0 false,.cells [aI W,aI wn,aI 6,aI r0,aI r1,aI r2,aI r3,zn,.sref 3 0 0 ls.length 2 none,zn] 0 false,.cells ((rC ls).map .d) 0 false]=
  YQ (Zj E 8) (Z5 E fn (dp+2)) (Z9 52 YQ (Zj E 8) (Z5 E fn (dp+2)) kx kr f) kx kr (mk .bot 171 [(2,.ref 0 0 0),(3,.fn (.func 24) [.ref 1 0 0]),(4,.ref 2 0 0),(8,aI n),(10,aI 1)]) [.cells [zi,zi,zi,zi,zi,zi,zi,zn,zn,zn] 0 false,.cells [.d (rD l)] 0 false,.cells [aI W,aI wn,aI 6,aI r0,aI r1,aI r2,aI r3,zn,.sref 3 0 0 ls.length 2 none,.sref 4 0 0 1 9 none] 0 false,.cells ((rC ls).map .d) 0 false,.cells ((rC [Md.J3 (Md.kM l 2) n]).map .d) 0 false]:=by
 have w1:∀ z:Int,0<=z->z<100->IntKind.i64.wrap z=z:=fun z h1 h2=>YM (by omega) (by omega)
 have hn1:n<1000:=by omega
 have hjn:(0:Int)<n:=by omega
 generalize hK:Z9 52 YQ _ _ kx kr (f+1)=KK
 first | (conv=>lhs;rw[YQ]) | rw[YQ]
 simp only[eG,go_sem,Z2 S,Z1 S,zN0,zN1,zN2,zN3,zN4,zI0,zI1,zI2,zI3,reduceCtorEq,C4 S,YU,YX,YW,w1,Zq,KB S,YY S,Kw S,Int.reduceMul,Int.reduceAdd,Int.toNat_zero,Int.reduceToNat,zI1,zI2,HH,JS,H1,H0,K1,K0,l1,Nat.le_refl,and_true,true_and,and_self,hjn,hn1]
 rw[<-hK,Z6 (on S _ _ [2,3,4,8,10] (by decide) rfl) rfl _ _ _ _ _ _ _ _ _ rfl]
 simp only[eG,go_sem,Z2 S,Z1 S,zN0,zN1,zN2,zN3,zN4,zI0,zI1,zI2,zI3,reduceCtorEq,C4 S]
 try rfl
theorem Zdt (dp:Nat)(l:List Int)(kx:Nat->K)(kr:K)(f n:Nat)(ls:List Label)(W wn r0 r1 r2 r3:Int)(j:Nat)(is:List Ins)(hj:j<n)(hn:n<6)(hz:is.length<100):
  YQ (Zj E 8) (Z5 E fn (dp+2)) (Z9 52 YQ (Zj E 8) (Z5 E fn (dp+2)) kx kr (f+1)) kx kr (mk .bot 171 [(2,.ref 0 0 0),(3,.fn (.func 24) [.ref 1 0 0]),(4,.ref 2 0 0),(8,aI n),(10,aI j)]) [.cells [zi,zi,zi,zi,zi,zi,zi,zn,zn,zn] 0 false,.cells [.d (rD l)] 0 false,.cells [aI W,aI wn,aI 6,aI r0,aI r1,aI r2,aI r3,zn,.sref 3 0 0 ls.length 2 none,.sref 4 0 0 is.length 9 none] 0 false,.cells ((rC ls).map .d) 0 false,.cells ((rC is).map .d) 0 false]=
  YQ (Zj E 8) (Z5 E fn (dp+2)) (Z9 52 YQ (Zj E 8) (Z5 E fn (dp+2)) kx kr f) kx kr (mk .bot 171 [(2,.ref 0 0 0),(3,.fn (.func 24) [.ref 1 0 0]),(4,.ref 2 0 0),(8,aI n),(10,aI (j+1))]) [.cells [zi,zi,zi,zi,zi,zi,zi,zn,zn,zn] 0 false,.cells [.d (rD l)] 0 false,.cells [aI W,aI wn,aI 6,aI r0,aI r1,aI r2,aI r3,zn,.sref 3 0 0 ls.length 2 none,.sref 4 0 0 (is.length+1) 9 none] 0 false,.cells ((rC ls).map .d) 0 false,.cells ((rC (is++[Md.J3 (Md.kM l (j+2)) n])).map .d) 0 false]:=by
 have w1:∀ z:Int,0<=z->z<100->IntKind.i64.wrap z=z:=fun z h1 h2=>YM (by omega) (by omega)
 have hn1:n<1000:=by omega
 have h6:(j:Int)<6:=by omega
 have h0:(0:Int)<=j:=by omega
 have h02:(0:Int)<=j+2:=by omega
 have wj1:IntKind.i64.wrap ((j:Int)+1)=(j:Int)+1:=w1 _ (by omega) (by omega)
 have wj2:IntKind.i64.wrap ((j:Int)+2)=(j:Int)+2:=w1 _ (by omega) (by omega)
 have hjn:(j:Int)<n:=by omega
 have k1:(is.length+1)*80<=Z4:=by unfold Z4;omega
 have k2:is.length+1<=Z4:=by unfold Z4;omega
 generalize hK:Z9 52 YQ _ _ kx kr (f+1)=KK
 first | (conv=>lhs;rw[YQ]) | rw[YQ]
 simp only[eG,go_sem,Z2 S,Z1 S,zN0,zN1,zN2,zN3,zN4,zI0,zI1,zI2,zI3,reduceCtorEq,C4 S,YU,YX,YW,w1,Zq,KB S,YY S,Kw S,Int.reduceMul,Int.reduceAdd,Int.toNat_zero,Int.reduceToNat,zI1,zI2,HH,JS,H1,H0,K1,K0,l1,Nat.le_refl,and_true,true_and,and_self,h6,h0,h02,wj1,wj2,hjn,k1,k2,hn1,Int.toNat_natCast,U0,TZ]
 rw[<-hK,Z6 (on S _ _ [2,3,4,8,10] (by decide) rfl) rfl _ _ _ _ _ _ _ _ _ rfl]
 simp only[eG,go_sem,Z2 S,Z1 S,zN0,zN1,zN2,zN3,zN4,zI0,zI1,zI2,zI3,reduceCtorEq,C4 S]
 try rfl
theorem Zga (dp:Nat)(l:List Int)(kx:Nat->K)(kr:K)(f n:Nat)(ms:List MemT)(W wn r0 r1 r2 r3:Int)(hn:n<6):
  YR (Zj E 8) (Z5 E fn (dp+2)) (Z9 44 YR (Zj E 8) (Z5 E fn (dp+2)) kx kr (f+1)) kx kr (mk .bot 171 [(2,.ref 0 0 0),(3,.fn (.func 24) [.ref 1 0 0]),(4,.ref 2 0 0),(8,aI n),(9,aI 0)]) [.cells [zi,zi,zi,zi,zi,zi,zi,zn,zn,zn] 0 false,.cells [.d (rD l)] 0 false,.cells [aI W,aI wn,aI 6,aI r0,aI r1,aI r2,aI r3,.sref 3 0 0 ms.length 3 none,zn,zn] 0 false,.cells ((rC ms).map .d) 0 false]=
  YR (Zj E 8) (Z5 E fn (dp+2)) (Z9 44 YR (Zj E 8) (Z5 E fn (dp+2)) kx kr f) kx kr (mk .bot 171 [(2,.ref 0 0 0),(3,.fn (.func 24) [.ref 1 0 0]),(4,.ref 2 0 0),(8,aI n),(9,aI 1)]) [.cells [zi,zi,zi,zi,zi,zi,zi,zn,zn,zn] 0 false,.cells [.d (rD l)] 0 false,.cells [aI W,aI wn,aI 6,aI r0,aI r1,aI r2,aI r3,.sref 3 0 0 ms.length 3 none,.sref 4 0 0 1 2 none,zn] 0 false,.cells ((rC ms).map .d) 0 false,.cells ((rC [Md.G2 0]).map .d) 0 false]:=by
 have w1:∀ z:Int,0<=z->z<100->IntKind.i64.wrap z=z:=fun z h1 h2=>YM (by omega) (by omega)
 have hn1:n<1000:=by omega
 have hjn:(0:Int)<=n:=by omega
 generalize hK:Z9 44 YR _ _ kx kr (f+1)=KK
 first | (conv=>lhs;rw[YR]) | rw[YR]
 simp only[eG,go_sem,Z2 S,Z1 S,zN0,zN1,zN2,zN3,zN4,zI0,zI1,zI2,zI3,reduceCtorEq,C4 S,YU,YX,YW,w1,Zq,KB S,YY S,Kw S,Int.reduceMul,Int.reduceAdd,Int.toNat_zero,Int.reduceToNat,zI1,zI2,HH,JS,H1,H0,K1,K0,l1,Nat.le_refl,and_true,true_and,and_self,hjn,hn1]
 rw[<-hK,Z6 (on S _ _ [2,3,4,8,9] (by decide) rfl) rfl _ _ _ _ _ _ _ _ _ rfl]
 simp only[eG,go_sem,Z2 S,Z1 S,zN0,zN1,zN2,zN3,zN4,zI0,zI1,zI2,zI3,reduceCtorEq,C4 S]
 try rfl
theorem Zdu (dp:Nat)(l:List Int)(kx:Nat->K)(kr:K)(f n:Nat)(ms:List MemT)(W wn r0 r1 r2 r3:Int)(j:Nat)(ls:List Label)(hj:j<=n)(hn:n<6)(hz:ls.length<100):
  YR (Zj E 8) (Z5 E fn (dp+2)) (Z9 44 YR (Zj E 8) (Z5 E fn (dp+2)) kx kr (f+1)) kx kr (mk .bot 171 [(2,.ref 0 0 0),(3,.fn (.func 24) [.ref 1 0 0]),(4,.ref 2 0 0),(8,aI n),(9,aI j)]) [.cells [zi,zi,zi,zi,zi,zi,zi,zn,zn,zn] 0 false,.cells [.d (rD l)] 0 false,.cells [aI W,aI wn,aI 6,aI r0,aI r1,aI r2,aI r3,.sref 3 0 0 ms.length 3 none,.sref 4 0 0 ls.length 2 none,zn] 0 false,.cells ((rC ms).map .d) 0 false,.cells ((rC ls).map .d) 0 false]=
  YR (Zj E 8) (Z5 E fn (dp+2)) (Z9 44 YR (Zj E 8) (Z5 E fn (dp+2)) kx kr f) kx kr (mk .bot 171 [(2,.ref 0 0 0),(3,.fn (.func 24) [.ref 1 0 0]),(4,.ref 2 0 0),(8,aI n),(9,aI (j+1))]) [.cells [zi,zi,zi,zi,zi,zi,zi,zn,zn,zn] 0 false,.cells [.d (rD l)] 0 false,.cells [aI W,aI wn,aI 6,aI r0,aI r1,aI r2,aI r3,.sref 3 0 0 ms.length 3 none,.sref 4 0 0 (ls.length+1) 2 none,zn] 0 false,.cells ((rC ms).map .d) 0 false,.cells ((rC (ls++[Md.G2 j])).map .d) 0 false]:=by
 have w1:∀ z:Int,0<=z->z<100->IntKind.i64.wrap z=z:=fun z h1 h2=>YM (by omega) (by omega)
 have hn1:n<1000:=by omega
 have h6:(j:Int)<6:=by omega
 have h0:(0:Int)<=j:=by omega
 have h02:(0:Int)<=j+2:=by omega
 have wj1:IntKind.i64.wrap ((j:Int)+1)=(j:Int)+1:=w1 _ (by omega) (by omega)
 have wj2:IntKind.i64.wrap ((j:Int)+2)=(j:Int)+2:=w1 _ (by omega) (by omega)
 have hjn:(j:Int)<=n:=by omega
 have k1:(ls.length+1)*24<=Z4:=by unfold Z4;omega
 have k2:ls.length+1<=Z4:=by unfold Z4;omega
 generalize hK:Z9 44 YR _ _ kx kr (f+1)=KK
 first | (conv=>lhs;rw[YR]) | rw[YR]
 simp only[eG,go_sem,Z2 S,Z1 S,zN0,zN1,zN2,zN3,zN4,zI0,zI1,zI2,zI3,reduceCtorEq,C4 S,YU,YX,YW,w1,Zq,KB S,YY S,Kw S,Int.reduceMul,Int.reduceAdd,Int.toNat_zero,Int.reduceToNat,zI1,zI2,HH,JS,H1,H0,K1,K0,l1,Nat.le_refl,and_true,true_and,and_self,h6,h0,h02,wj1,wj2,hjn,k1,k2,hn1,Int.toNat_natCast,U0,TZ]
 rw[<-hK,Z6 (on S _ _ [2,3,4,8,9] (by decide) rfl) rfl _ _ _ _ _ _ _ _ _ rfl]
 simp only[eG,go_sem,Z2 S,Z1 S,zN0,zN1,zN2,zN3,zN4,zI0,zI1,zI2,zI3,reduceCtorEq,C4 S]
 try rfl
theorem Zg8 (dp:Nat)(l:List Int)(kx:Nat->K)(kr:K)(f n:Nat)(ms:List MemT)(ls:List Label)(W wn r0 r1 r2 r3:Int)(hj:0<n)(hn:n<6):
  YQ (Zj E 8) (Z5 E fn (dp+2)) (Z9 52 YQ (Zj E 8) (Z5 E fn (dp+2)) kx kr (f+1)) kx kr (mk .bot 171 [(2,.ref 0 0 0),(3,.fn (.func 24) [.ref 1 0 0]),(4,.ref 2 0 0),(8,aI n),(10,aI 0)]) [.cells [zi,zi,zi,zi,zi,zi,zi,zn,zn,zn] 0 false,.cells [.d (rD l)] 0 false,.cells [aI W,aI wn,aI 6,aI r0,aI r1,aI r2,aI r3,.sref 3 0 0 ms.length 3 none,.sref 4 0 0 ls.length 2 none,zn] 0 false,.cells ((rC ms).map .d) 0 false,.cells ((rC ls).map .d) 0 false]=
  YQ (Zj E 8) (Z5 E fn (dp+2)) (Z9 52 YQ (Zj E 8) (Z5 E fn (dp+2)) kx kr f) kx kr (mk .bot 171 [(2,.ref 0 0 0),(3,.fn (.func 24) [.ref 1 0 0]),(4,.ref 2 0 0),(8,aI n),(10,aI 1)]) [.cells [zi,zi,zi,zi,zi,zi,zi,zn,zn,zn] 0 false,.cells [.d (rD l)] 0 false,.cells [aI W,aI wn,aI 6,aI r0,aI r1,aI r2,aI r3,.sref 3 0 0 ms.length 3 none,.sref 4 0 0 ls.length 2 none,.sref 5 0 0 1 9 none] 0 false,.cells ((rC ms).map .d) 0 false,.cells ((rC ls).map .d) 0 false,.cells ((rC [Md.J3 (Md.kM l 2) n]).map .d) 0 false]:=by
 have w1:∀ z:Int,0<=z->z<100->IntKind.i64.wrap z=z:=fun z h1 h2=>YM (by omega) (by omega)
 have hn1:n<1000:=by omega
 have hjn:(0:Int)<n:=by omega
 generalize hK:Z9 52 YQ _ _ kx kr (f+1)=KK
 first | (conv=>lhs;rw[YQ]) | rw[YQ]
 simp only[eG,go_sem,Z2 S,Z1 S,zN0,zN1,zN2,zN3,zN4,zI0,zI1,zI2,zI3,reduceCtorEq,C4 S,YU,YX,YW,w1,Zq,KB S,YY S,Kw S,Int.reduceMul,Int.reduceAdd,Int.toNat_zero,Int.reduceToNat,zI1,zI2,HH,JS,H1,H0,K1,K0,l1,Nat.le_refl,and_true,true_and,and_self,hjn,hn1]
 rw[<-hK,Z6 (on S _ _ [2,3,4,8,10] (by decide) rfl) rfl _ _ _ _ _ _ _ _ _ rfl]
 simp only[eG,go_sem,Z2 S,Z1 S,zN0,zN1,zN2,zN3,zN4,zI0,zI1,zI2,zI3,reduceCtorEq,C4 S]
 try rfl
theorem Zds (dp:Nat)(l:List Int)(kx:Nat->K)(kr:K)(f n:Nat)(ms:List MemT)(ls:List Label)(W wn r0 r1 r2 r3:Int)(j:Nat)(is:List Ins)(hj:j<n)(hn:n<6)(hz:is.length<100):
  YQ (Zj E 8) (Z5 E fn (dp+2)) (Z9 52 YQ (Zj E 8) (Z5 E fn (dp+2)) kx kr (f+1)) kx kr (mk .bot 171 [(2,.ref 0 0 0),(3,.fn (.func 24) [.ref 1 0 0]),(4,.ref 2 0 0),(8,aI n),(10,aI j)]) [.cells [zi,zi,zi,zi,zi,zi,zi,zn,zn,zn] 0 false,.cells [.d (rD l)] 0 false,.cells [aI W,aI wn,aI 6,aI r0,aI r1,aI r2,aI r3,.sref 3 0 0 ms.length 3 none,.sref 4 0 0 ls.length 2 none,.sref 5 0 0 is.length 9 none] 0 false,.cells ((rC ms).map .d) 0 false,.cells ((rC ls).map .d) 0 false,.cells ((rC is).map .d) 0 false]=
  YQ (Zj E 8) (Z5 E fn (dp+2)) (Z9 52 YQ (Zj E 8) (Z5 E fn (dp+2)) kx kr f) kx kr (mk .bot 171 [(2,.ref 0 0 0),(3,.fn (.func 24) [.ref 1 0 0]),(4,.ref 2 0 0),(8,aI n),(10,aI (j+1))]) [.cells [zi,zi,zi,zi,zi,zi,zi,zn,zn,zn] 0 false,.cells [.d (rD l)] 0 false,.cells [aI W,aI wn,aI 6,aI r0,aI r1,aI r2,aI r3,.sref 3 0 0 ms.length 3 none,.sref 4 0 0 ls.length 2 none,.sref 5 0 0 (is.length+1) 9 none] 0 false,.cells ((rC ms).map .d) 0 false,.cells ((rC ls).map .d) 0 false,.cells ((rC (is++[Md.J3 (Md.kM l (j+2)) n])).map .d) 0 false]:=by
 have w1:∀ z:Int,0<=z->z<100->IntKind.i64.wrap z=z:=fun z h1 h2=>YM (by omega) (by omega)
 have hn1:n<1000:=by omega
 have h6:(j:Int)<6:=by omega
 have h0:(0:Int)<=j:=by omega
 have h02:(0:Int)<=j+2:=by omega
 have wj1:IntKind.i64.wrap ((j:Int)+1)=(j:Int)+1:=w1 _ (by omega) (by omega)
 have wj2:IntKind.i64.wrap ((j:Int)+2)=(j:Int)+2:=w1 _ (by omega) (by omega)
 have hjn:(j:Int)<n:=by omega
 have k1:(is.length+1)*80<=Z4:=by unfold Z4;omega
 have k2:is.length+1<=Z4:=by unfold Z4;omega
 generalize hK:Z9 52 YQ _ _ kx kr (f+1)=KK
 first | (conv=>lhs;rw[YQ]) | rw[YQ]
 simp only[eG,go_sem,Z2 S,Z1 S,zN0,zN1,zN2,zN3,zN4,zI0,zI1,zI2,zI3,reduceCtorEq,C4 S,YU,YX,YW,w1,Zq,KB S,YY S,Kw S,Int.reduceMul,Int.reduceAdd,Int.toNat_zero,Int.reduceToNat,zI1,zI2,HH,JS,H1,H0,K1,K0,l1,Nat.le_refl,and_true,true_and,and_self,h6,h0,h02,wj1,wj2,hjn,k1,k2,hn1,Int.toNat_natCast,U0,TZ]
 rw[<-hK,Z6 (on S _ _ [2,3,4,8,10] (by decide) rfl) rfl _ _ _ _ _ _ _ _ _ rfl]
 simp only[eG,go_sem,Z2 S,Z1 S,zN0,zN1,zN2,zN3,zN4,zI0,zI1,zI2,zI3,reduceCtorEq,C4 S]
 try rfl
end
end Go.Aug.Mc
