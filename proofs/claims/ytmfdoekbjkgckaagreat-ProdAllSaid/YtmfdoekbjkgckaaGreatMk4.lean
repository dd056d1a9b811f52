import Derived.Test.YtmfdoekbjkgckaaGreatMc3
import Derived.Test.YtmfdoekbjkgckaaGreatMl
namespace Go.Aug.Mc
open Go Go.Aug
open Nat renaming reduceLT -> zN0, reduceEqDiff -> zN1, reduceAdd -> zN2, reduceMul -> zN3, reduceLeDiff -> zN4
open Int renaming reduceEq -> zI0, reduceLT -> zI1, reduceLE -> zI2, reduceNeg -> zI3
set_option linter.unusedSimpArgs false
set_option linter.unusedVariables false
set_option maxHeartbeats 40000000
theorem Hw (x:Int)(n:Nat)(h:n<=63):Q4 .shr (.d (.v (.int .i64 x))) (.d (.v (.int .u64 (n:Int))))=some (aI (Md.ZR x n)):=by
 rw[Z9n _ _ _ _ (Int.natCast_nonneg n),Int.toNat_natCast,Nat.min_eq_left (by show n<=64;omega)];rfl
theorem E2 (x:Int):Q4 .shr (.d (.v (.int .i64 x))) (.d (.v (.int .u64 1)))=some (aI (Md.ZR x 1)):=Hw x 1 (by decide)
theorem Dw (x:Int):Q4 .shr (.d (.v (.int .i64 x))) (.d (.v (.int .u64 8)))=some (aI (Md.ZR x 8)):=Hw x 8 (by decide)
theorem E1 (x:Int):Q4 .shr (.d (.v (.int .i64 x))) (.d (.v (.int .u64 10)))=some (aI (Md.ZR x 10)):=Hw x 10 (by decide)
theorem Zd9 (x:Int):Q4 .shr (.d (.v (.int .i64 x))) (.d (.v (.int .u64 11)))=some (aI (Md.ZR x 11)):=Hw x 11 (by decide)
theorem DZ (x:Int):Q4 .shr (.d (.v (.int .i64 x))) (.d (.v (.int .u64 12)))=some (aI (Md.ZR x 12)):=Hw x 12 (by decide)
theorem Zd8 (x:Int):Q4 .shr (.d (.v (.int .i64 x))) (.d (.v (.int .u64 14)))=some (aI (Md.ZR x 14)):=Hw x 14 (by decide)
theorem Zd7 (x:Int):Q4 .shr (.d (.v (.int .i64 x))) (.d (.v (.int .u64 16)))=some (aI (Md.ZR x 16)):=Hw x 16 (by decide)
theorem Zd6 (x:Int):Q4 .shr (.d (.v (.int .i64 x))) (.d (.v (.int .u64 18)))=some (aI (Md.ZR x 18)):=Hw x 18 (by decide)
theorem lm (x:Int)(n:Nat)(h:0<n):Q4 .rem (aI (Md.YK x 255)) (aI (n:Int))=some (aI (Md.YS x n:Nat)):=by
 rw[Z17 _ _ _ (by omega),Md.Zit]
theorem Zja (x:Int):Q4 .rem (aI (Md.YK x 255)) (aI 18)=some (aI (Md.YS x 18:Nat)):=lm x 18 (by decide)
theorem Zjb (x:Int):Q4 .rem (aI (Md.YK x 255)) (aI 10)=some (aI (Md.YS x 10:Nat)):=lm x 10 (by decide)
theorem Ex (x:Int):Q4 .rem (aI (Md.YK x 255)) (aI 3)=some (aI (Md.YS x 3:Nat)):=lm x 3 (by decide)
theorem XG {l:List Int}{i:Nat}(h:i<l.length)(n:Nat)(hn:n=l.length)(cs:List DV)(hc:cs=rC l):DH (.d (.lst cs n (some n))) (aI (i:Int)) 1=some (.d (.vptr (vi (l.getD i 0)::rC (l.drop (i+1))))):=by
 subst hn hc
 have:=Z59 h (s:=1) rfl (some l.length) .i64
 rw[List.getD_eq_getElem?_getD,List.getElem?_eq_getElem h]
 exact this
theorem Zjp (x:Int):DH (.d (.lst [vi 1,vi 1,vi 2,vi 2,vi 2,vi 3,vi 3,vi 4,vi 5,vi 5,vi 5,vi 6,vi 7,vi 8,vi 9,vi 10,vi 11,vi 1] 18 (some 18))) (aI (Md.YS x 18:Nat)) 1=some (.d (.vptr (vi (Md.KW.getD (Md.YS x 18) 0)::rC (Md.KW.drop (Md.YS x 18+1))))):=
 XG (l:=Md.KW) (Md.Pv x (by decide)) 18 rfl _ rfl
theorem Zjo (x:Int):DH (.d (.lst [vi 9,vi 10,vi 3,vi 2] 4 (some 4))) (aI (Md.YK x 3)) 1=some (.d (.vptr (vi (Md.o4.getD (Md.YK x 3).toNat 0)::rC (Md.o4.drop ((Md.YK x 3).toNat+1))))):=by
 obtain⟨r,hr,h⟩:=Md.M0 x
 rw[h,Int.toNat_natCast]
 exact XG (l:=Md.o4) hr 4 rfl _ rfl
theorem Zcd (x:Int):IntKind.i64.wrap ((Md.YS x 10:Nat)+1)=(Md.YS x 10:Nat)+1:=by
 have:=Md.Pv x (show 0<10 by decide)
 exact YX (by omega) (by omega)
theorem Zj9 (x:Int)(n:Nat):Q4 .rem (aI (Md.YK x 255)) (aI ((n:Int)+1))=some (aI (Md.YS x (n+1):Nat)):=by
 have:=lm x (n+1) (by omega)
 rw[Int.natCast_add] at this
 exact this
theorem HR (ps:List (Opd×Opd))(k:K)(tm:List AV)(A:List Blk):GZ ps k tm A=bif C6 tm ps then k tm A else none:=id rfl
theorem HQ (tm:List AV):C6 tm []=true:=id rfl
theorem Zle (tm:List AV)(a b:Opd)(l:List (Opd×Opd)):C6 tm ((a,b)::l)=(G8 (look tm a) (look tm b)&&C6 tm l):=id rfl
theorem Zld (i v o j w q:Nat):G8 (.ref i v o) (.ref j w q)= !decide (i=j):=by
 show(!Nat.beq i j)=_
 by_cases h:i=j
 ·subst h
  have:Nat.beq i i=true:=Nat.beq_refl i
  rw[this];simp
 ·have:Nat.beq i j=false:=by
   cases hb:Nat.beq i j with
   | false=>rfl
   | true=>exact absurd (Nat.eq_of_beq_eq_true hb) h
  rw[this,decide_eq_false h]
variable {E:Env} {fn:FuncId->Option (Env->cT->cT)}
section
variable (S:Sur E fn)
include S
theorem Z3r:E.lives 51 7=none:=off S 51 7 (by decide) rfl
theorem Z3t:E.lives 24 7=none:=off S 24 7 (by decide) rfl
theorem Zh7:E.lives 26 13=none/\E.lives 26 17=none/\E.lives 26 19=none/\E.lives 26 21=none/\E.lives 26 25=none/\E.lives 26 29=none/\E.lives 26 31=none/\E.lives 26 35=none:=⟨off S 26 13 (by decide) rfl,off S 26 17 (by decide) rfl,off S 26 19 (by decide) rfl,off S 26 21 (by decide) rfl,off S 26 25 (by decide) rfl,off S 26 29 (by decide) rfl,off S 26 31 (by decide) rfl,off S 26 35 (by decide) rfl⟩
theorem Ze5 (dp:Nat)(n:Int):Z6 E fn (dp+1) 51 [vi n] (.agg (Cl.cells (Md.FX n))):=by
 unfold Z6
 show Zw (Z5 E fn (dp+1) 51 [.d (vi n)] [])=_
 rw[ZU,S.Z62,ZW,Zaa,ZY _ _ _ _ _ _ _ _ rfl]
 by_cases h:Md.YK n 4=0
 ·simp only[eG,go_sem,Z2 S,Z1 S,zN0,zN1,zN2,zN3,zN4,zI0,zI1,zI2,zI3,reduceCtorEq,Z3r S,QE,h,Md.FX]
 ·simp only[eG,go_sem,Z2 S,Z1 S,zN0,zN1,zN2,zN3,zN4,zI0,zI1,zI2,zI3,reduceCtorEq,Z3r S,QE,h,Md.FX]
theorem Zm7 (dp:Nat)(n:Int)(A:List Blk)(nb:Nat)(us:List Nat):Y1 false E (Z5 E fn (dp+1)) 51 A nb (some ([vi n],us))=some (.made (.d (.agg (Cl.cells (Md.FX n)))) []):=
 Z6.flat (Ze5 S dp n ) (np S 51 (by decide)) (rfl) A nb us
theorem Ze7 (dp:Nat)(i:Int)(l:List Int)(h0:0<=i):Z6 E fn (dp+1) 24 [vi i,.vptr [rD l]] (vi (Md.kM l i)):=by
 unfold Z6
 show Zw (Z5 E fn (dp+1) 24 [.d (vi i),.d (.vptr [rD l])] [])=_
 rw[ZU,S.Z64,ZW,Zac,ZY _ _ _ _ _ _ _ _ rfl]
 by_cases h:i<l.length
 ·obtain ⟨e, he⟩ := QB (show i.toNat < l.length by omega)
  simp only[eG,go_sem,Z2 S,Z1 S,zN0,zN1,zN2,zN3,zN4,zI0,zI1,zI2,zI3,reduceCtorEq,Z3t S,h,DW h0 he,he,Option.getD_some,Md.kM]
 ·simp only[eG,go_sem,Z2 S,Z1 S,zN0,zN1,zN2,zN3,zN4,zI0,zI1,zI2,zI3,reduceCtorEq,Z3t S,h,Md.kM,List.getElem?_eq_none (show l.length<=i.toNat by omega),Option.getD_none]
theorem QD (dp:Nat)(i:Int)(l:List Int)(h0:0<=i)(A:List Blk)(nb:Nat)(us:List Nat):Y1 false E (Z5 E fn (dp+1)) 24 A nb (some ([vi i,.vptr [rD l]],us))=some (.made (.d (vi (Md.kM l i))) []):=
 Z6.flat (Ze7 S dp i l h0) (np S 24 (by decide)) (rfl) A nb us
theorem Ze6 (dp:Nat)(x:Int)(n:Nat)(hn:n<1000):Z6 E fn (dp+2) 26 [vi x,vi (n:Nat)] (.agg (Cl.cells (Md.JN x n))):=by
 unfold Z6
 show Zw (Z5 E fn (dp+1+1) 26 [.d (vi x),.d (vi (n:Nat))] [])=_
 rw[ZU,S.Z63,ZW,Zab,ZY _ _ _ _ _ _ _ _ rfl]
 have hw:IntKind.i64.wrap ((n:Int)+1)=(n:Int)+1:=YX (by omega) (by omega)
 have hi:Md.JN x n=Md.JN x n:=rfl
 unfold Md.JN
 have r18:∀ {α:Type} (l:List α),rep l 18=l++(l++(l++(l++(l++(l++(l++(l++(l++(l++(l++(l++(l++(l++(l++(l++(l++l)))))))))))))))):=fun l=>by simp[rep]
 have r4:∀ {α:Type} (l:List α),rep l 4=l++(l++(l++l)):=fun l=>by simp[rep]
 simp only[eG,go_sem,Z2 S,Z1 S,zN0,zN1,zN2,zN3,zN4,zI0,zI1,zI2,zI3,reduceCtorEq,Zh7 S,Dw,Zd9,Zd8,Zd7,Zd6,QE,Zja,Zjb,Zj9,Zjp,Zjo,hw,Zcd,Zm7 S,r18,r4,HR,HQ,Zle,Zld,Md.v0]
 generalize Md.KW.getD (Md.YS x 18) 0=k
 by_cases k1:k=1
 ·simp only[k1,decide_true,cond_true,if_true]
 by_cases k2:k=2
 ·simp only[k2,decide_true,decide_false,cond_true,cond_false,if_true,if_false,zI0,true_or,or_true]
 by_cases k3:k=3
 ·simp only[k3,decide_true,decide_false,cond_true,cond_false,if_true,if_false,zI0,true_or,or_true]
 by_cases k4:k=4
 ·simp only[k4,decide_true,decide_false,cond_true,cond_false,if_true,if_false,zI0,true_or,or_true,or_false]
 by_cases k5:k=5
 ·simp only[k5,decide_true,decide_false,cond_true,cond_false,if_true,if_false,zI0,true_or,or_true,or_false]
 by_cases k6:k=6
 ·simp only[k6,decide_true,decide_false,cond_true,cond_false,if_true,if_false,zI0,true_or,or_true,or_false]
 by_cases k8:k=8
 ·simp only[k8,decide_true,decide_false,cond_true,cond_false,if_true,if_false,zI0,true_or,or_true,or_false]
 by_cases k7:k=7
 ·simp only[k7,decide_true,decide_false,cond_true,cond_false,if_true,if_false,zI0,true_or,or_true,or_false]
 simp only[k1,k2,k3,k4,k5,k6,k7,k8,decide_false,cond_false,if_false,or_false]
theorem Mq (dp:Nat)(x:Int)(n:Nat)(hn:n<1000)(A:List Blk)(nb:Nat)(us:List Nat):Y1 false E (Z5 E fn (dp+2)) 26 A nb (some ([vi x,vi (n:Nat)],us))=some (.made (.d (.agg (Cl.cells (Md.JN x n)))) []):=
 Z6.flat (Ze6 S dp x n hn) (np S 26 (by decide)) (rfl) A nb us
end
def PH (n:Nat):ByteArray:=⟨#[(48+n).toUInt8]⟩
theorem Zhc (r:Bool)(x:Opd)(E:Env)(call:cT)(tm:List AV)(A:List Blk)(nb:Nat):KJ r x E call tm A nb=one? (S9 A r (look tm x)):=id rfl
theorem Z23 (a b:ByteArray)(h:a.size+b.size<=1099511627776):Q4 .add (.d (vt a)) (.d (vt b))=some (.d (vt (a++b))):=by
 show(M4 .add a b).map _=_
 simp[M4,h]
theorem dg (z:Int):MA [z]++(⟨#[]⟩:ByteArray)=⟨#[UInt8.ofNat z.toNat]⟩:=by
 have:(⟨#[]⟩:ByteArray)=ByteArray.empty:=rfl
 rw[this,ByteArray.append_empty]
 rfl
theorem Zco (z:Int):Q4 .add (.d (vt (MA [z]))) (.d (vt ⟨#[]⟩))=some (.d (vt ⟨#[UInt8.ofNat z.toNat]⟩)):=by
 rw[Z23 _ _ (by rw[<-ByteArray.size_append,dg];show(1:Nat)<=_;decide),dg]
theorem Zcn (z:UInt8):Q4 .eql (.d (vt ⟨#[z]⟩)) (.d (vt ⟨#[]⟩))=some (YB false):=by
 simp[Q4,M4]
theorem Zg1 (E:Env)(call:cT)(kn:K)(kx:Nat->K)(kr:K)(tm:List AV)(A:List Blk):T2 E call kn kx kr tm A=(cQ (cQ (Z3 [st 6 (oV (.t 0)),st 7 (oB .gtr (.t 6) (ci 0)),st 8 (oV (.t 7)),sg 9 8 false (oV (.t 3)),sg 10 8 false (oB .eql (.t 9) (.c (.v (.string ⟨#[]⟩)))),st 11 (YP (.t 8) (.c (.v (.bool true))) (.t 10))]) (cJ 1 (.t 11) (cK) (QN 0))) (ZQ 1 (cQ (Z3 [st 12 (oV (.t 0)),st 13 (oB .rem (.t 12) (ci 10)),st 14 (oB .add (ci 48) (.t 13)),st 15 (FF .u8 (.t 14)),st 16 (Q9 (rep [.d (.v (.int .u8 0))] 1) 1 1 [(0,1,(.t 15))]),st 17 (KJ false (.t 16)),st 18 (oV (.t 3)),st 19 (oB .add (.t 17) (.t 18)),st 3 (oV (.t 19))]) (Z3 [st 20 (oV (.t 0)),st 21 (oB .quo (.t 20) (ci 10)),st 0 (oV (.t 21))])))) E call kn kx kr tm A:=id rfl
variable {E:Env} {fn:FuncId->Option (Env->cT->cT)}
section
variable (S:Sur E fn)
include S
theorem Zh8:E.lives 25 1=none/\E.lives 25 7=none:=⟨off S 25 1 (by decide) rfl,off S 25 7 (by decide) rfl⟩
theorem Zf9 (dp:Nat)(n:Int)(hn:0<=n/\n<6):Z6 E fn (dp+1) 25 [vi n] (vt (PH n.toNat)):=by
 unfold Z6
 show Zw (Z5 E fn (dp+1) 25 [.d (vi n)] [])=_
 rw[ZU,S.Z7c,ZW,Zbk,ZY _ _ _ _ _ _ _ _ rfl]
 have hloop:∀ kx kr m d T A,Z9 10 T2 (Zq E 25) (Z5 E fn dp) kx kr (m+1) (mk d 23 T) A=X5 (T2 (Zq E 25) (Z5 E fn dp) (Z9 10 T2 (Zq E 25) (Z5 E fn dp) kx kr m) kx kr) 23 [0,3] d T A (Q8 A 0 100000 ([0,3].flatMap fun t=>YV 8 (ZE d T t)) []):=fun kx kr m d T A=>Z7 (on S _ _ [0,3] (by decide) rfl) rfl _ _ _ _ _ _ _ _ _ rfl
 have w1:∀ z:Int,0<=z->z<100->IntKind.i64.wrap z=z:=fun z h1 h2=>YX (by omega) (by omega)
 have w2:∀ z:Int,0<=z->z<100->IntKind.u8.wrap z=z:=fun z h1 h2=>by simp only[IntKind.wrap,IntKind.signed,IntKind.bits];simp;omega
 have e0:Q4 .eql (.d (vt ⟨#[]⟩)) (.d (vt ⟨#[]⟩))=some (YB true):=by simp[Q4,M4]
 rcases(show n=0∨n=1∨n=2∨n=3∨n=4∨n=5 by omega) with rfl | rfl | rfl | rfl | rfl | rfl
 all_goals simp only[eG,go_sem,Z2 S,Z1 S,Nat.reduceLT,Nat.reduceEqDiff,Nat.reduceAdd,Nat.reduceMul,Nat.reduceLeDiff,Int.reduceEq,Int.reduceLT,Int.reduceLE,Int.reduceNeg,reduceCtorEq,Zh8 S,hloop,Zg1,ne_eq,not_false_eq_true,e0,gt_iff_lt,Int.reduceTMod,Int.reduceTDiv,Int.reduceMod,Int.reduceAdd,w1,w2,Zhc,S9,WE,cellsAt,List.getElem?_cons_zero,List.take_succ_cons,List.take_zero,List.drop_zero,true_and,Nat.le_refl,and_self,KY,Zco,Zcn,Z8]
 all_goals rfl
theorem Mz (dp:Nat)(n:Int)(hn:0<=n/\n<6)(A:List Blk)(nb:Nat)(us:List Nat):Y1 false E (Z5 E fn (dp+1)) 25 A nb (some ([vi n],us))=some (.made (.d (vt (PH n.toNat))) []):=
 Z6.flat (Zf9 S dp n hn) (np S 25 (by decide)) (rfl) A nb us
end
theorem B3 (x:Int):Q4 .shr (.d (.v (.int .i64 x))) (.d (.v (.int .u64 0)))=some (aI (Md.ZR x 0)):=Hw x 0 (by decide)
theorem B7 (x:Int):x.fdiv (2^min 0 64)=Md.ZR x 0:=by rw[Nat.min_eq_left (by decide)];rfl
theorem B6 (x:Int):x.fdiv (2^min 2 64)=Md.ZR x 2:=by rw[Nat.min_eq_left (by decide)];rfl
theorem B5 (x:Int):x.fdiv (2^min 4 64)=Md.ZR x 4:=by rw[Nat.min_eq_left (by decide)];rfl
theorem B4 (x:Int):x.fdiv (2^min 6 64)=Md.ZR x 6:=by rw[Nat.min_eq_left (by decide)];rfl
theorem Bq (x:Int):DH (.d (.lst [vi 0,vi 0,vi 1,vi 2] 4 (some 4))) (aI (Md.YK x 3)) 1=some (.d (.vptr (vi (Md.r4.getD (Md.YK x 3).toNat 0)::rC (Md.r4.drop ((Md.YK x 3).toNat+1))))):=by
 obtain⟨r,hr,h⟩:=Md.M0 x
 rw[h,Int.toNat_natCast]
 exact XG (l:=Md.r4) hr 4 rfl _ rfl
theorem YR (E:Env)(l:Nat->Option (List Nat))(m:Nat)(call:cT)(tm:List AV)(A:List Blk)(nb:Nat)(g:FuncId)(args:List Opd)(cap:List AV)(h:Yv g E.br=false):
  Z0i { br:=E.br,th:=E.th,prim:=E.prim,back:=E.back,lives:=E.lives,live:=l,nb0:=m } call tm A nb args (.fn (.func g) cap)=Y1 (Yv g E.th || GK (l (Dx g))) E call g A nb (S7 (YJ (deep A 8) (args.map (look tm)++cap))):=
 Z84 E l m call A nb g _ h
def Z8n (A:List Blk)(n i:Nat):Option (List AV)->Option (DV×List Nat)
 | some cs=>(YJ (deep A n) cs).map fun r=>(.vptr r.1,i::r.2)
 | none=>none
theorem Qq (A:List Blk)(n i v o:Nat):deep A (n+1) (.ref i v o)=Z8n A n i (cellsAt A i v o):=by
 show(match cellsAt A i v o with | some cs=>_ | none=>none)=_
 cases cellsAt A i v o<;>rfl
theorem QC (A:List Blk)(n i:Nat)(cs:List AV):Z8n A n i (some cs)=(YJ (deep A n) cs).map fun r=>(.vptr r.1,i::r.2):=id rfl
variable {E:Env} {fn:FuncId->Option (Env->cT->cT)}
section
variable (S:Sur E fn)
include S
theorem QA:E.lives 8 1=none/\E.lives 8 23=none/\E.lives 8 27=none/\E.lives 8 31=none/\E.lives 8 35=none/\E.lives 8 39=none:=⟨off S 8 1 (by decide) rfl,off S 8 23 (by decide) rfl,off S 8 27 (by decide) rfl,off S 8 31 (by decide) rfl,off S 8 35 (by decide) rfl,off S 8 39 (by decide) rfl⟩
theorem Zct (dp:Nat)(l:List Int)(kx:Nat->K)(kr:K)(f:Nat)(W wn pub sec r0 r1 r2 r3 r:Int)(hr:Md.r4.getD (Md.YK (Md.ZR (Md.kM l 1) 0) 3).toNat 0=r):
  QY (Zq E 8) (Z5 E fn (dp+1)) (Z9 12 QY (Zq E 8) (Z5 E fn (dp+1)) kx kr (f+1)) kx kr (mk .bot 171 [(2,.ref 0 0 0),(3,.fn (.func 24) [.ref 1 0 0]),(4,.ref 2 0 0),(5,aI pub),(6,aI sec),(7,aI 0)]) [.cells [zi,zi,zi,zi,zi,zi,zi,zn,zn,zn] 0 false,.cells [.d (rD l)] 0 false,.cells [aI W,aI wn,aI 6,aI r0,aI r1,aI r2,aI r3,zn,zn,zn] 0 false]=
  QY (Zq E 8) (Z5 E fn (dp+1)) (Z9 12 QY (Zq E 8) (Z5 E fn (dp+1)) kx kr f) kx kr (mk .bot 171 [(2,.ref 0 0 0),(3,.fn (.func 24) [.ref 1 0 0]),(4,.ref 2 0 0),(5,aI (Md.QT W pub sec r).2.1),(6,aI (Md.QT W pub sec r).2.2),(7,aI 1)]) [.cells [zi,zi,zi,zi,zi,zi,zi,zn,zn,zn] 0 false,.cells [.d (rD l)] 0 false,.cells [aI W,aI wn,aI 6,aI (Md.QT W pub sec r).1,aI r1,aI r2,aI r3,zn,zn,zn] 0 false]:=by
 have w1:∀ z:Int,0<=z->z<100->IntKind.i64.wrap z=z:=fun z h1 h2=>YX (by omega) (by omega)
 have w2:∀ z:Int,0<=z->z<100->IntKind.u64.wrap z=z:=fun z h1 h2=>NR (by omega) (by omega)
 have r4':∀ {α:Type} (l:List α),rep l 4=l++(l++(l++l)):=fun l=>by simp[rep]
 generalize hK:Z9 12 QY _ _ kx kr (f+1)=KK
 first | (conv=>lhs;rw[QY]) | rw[QY]
 by_cases c1:r=1
 ·by_cases c2 : IntKind.i64.wrap (pub + W) <= 2
  ·simp only [eG, go_sem, Z2 S, Z1 S, zN0, zN1, zN2, zN3, zN4, zI0, zI1, zI2, zI3, reduceCtorEq, QA S, Qq, QC, YR, w1, w2, r4', QD S, B3, B7, B6, B5, B4, QE, Bq, Int.reduceMul, Int.reduceAdd, Int.toNat_zero, Int.reduceToNat, zI1, zI2, Int.cast_ofNat_Int, false_and, Md.QT, Md.QQ, and_true, true_and, and_self, hr, c1, c2]
   rw[<-hK,Z7 (on S _ _ [2,3,4,5,6,7] (by decide) rfl) rfl _ _ _ _ _ _ _ _ _ rfl]
   simp only[eG,go_sem,Z2 S,Z1 S,zN0,zN1,zN2,zN3,zN4,zI0,zI1,zI2,zI3,reduceCtorEq,QA S]
  ·simp only [eG, go_sem, Z2 S, Z1 S, zN0, zN1, zN2, zN3, zN4, zI0, zI1, zI2, zI3, reduceCtorEq, QA S, Qq, QC, YR, w1, w2, r4', QD S, B3, B7, B6, B5, B4, QE, Bq, Int.reduceMul, Int.reduceAdd, Int.toNat_zero, Int.reduceToNat, zI1, zI2, Int.cast_ofNat_Int, false_and, Md.QT, Md.QQ, and_true, true_and, and_self, hr, c1, c2]
   rw[<-hK,Z7 (on S _ _ [2,3,4,5,6,7] (by decide) rfl) rfl _ _ _ _ _ _ _ _ _ rfl]
   simp only[eG,go_sem,Z2 S,Z1 S,zN0,zN1,zN2,zN3,zN4,zI0,zI1,zI2,zI3,reduceCtorEq,QA S]
 ·by_cases c3 : r = 2
  ·by_cases c4 : IntKind.i64.wrap (sec + W) <= 2
   ·simp only [eG, go_sem, Z2 S, Z1 S, zN0, zN1, zN2, zN3, zN4, zI0, zI1, zI2, zI3, reduceCtorEq, QA S, Qq, QC, YR, w1, w2, r4', QD S, B3, B7, B6, B5, B4, QE, Bq, Int.reduceMul, Int.reduceAdd, Int.toNat_zero, Int.reduceToNat, zI1, zI2, Int.cast_ofNat_Int, false_and, Md.QT, Md.QQ, and_true, true_and, and_self, hr, c1, c3, c4]
    rw[<-hK,Z7 (on S _ _ [2,3,4,5,6,7] (by decide) rfl) rfl _ _ _ _ _ _ _ _ _ rfl]
    simp only[eG,go_sem,Z2 S,Z1 S,zN0,zN1,zN2,zN3,zN4,zI0,zI1,zI2,zI3,reduceCtorEq,QA S]
   ·simp only [eG, go_sem, Z2 S, Z1 S, zN0, zN1, zN2, zN3, zN4, zI0, zI1, zI2, zI3, reduceCtorEq, QA S, Qq, QC, YR, w1, w2, r4', QD S, B3, B7, B6, B5, B4, QE, Bq, Int.reduceMul, Int.reduceAdd, Int.toNat_zero, Int.reduceToNat, zI1, zI2, Int.cast_ofNat_Int, false_and, Md.QT, Md.QQ, and_true, true_and, and_self, hr, c1, c3, c4]
    rw[<-hK,Z7 (on S _ _ [2,3,4,5,6,7] (by decide) rfl) rfl _ _ _ _ _ _ _ _ _ rfl]
    simp only[eG,go_sem,Z2 S,Z1 S,zN0,zN1,zN2,zN3,zN4,zI0,zI1,zI2,zI3,reduceCtorEq,QA S]
  ·simp only [eG, go_sem, Z2 S, Z1 S, zN0, zN1, zN2, zN3, zN4, zI0, zI1, zI2, zI3, reduceCtorEq, QA S, Qq, QC, YR, w1, w2, r4', QD S, B3, B7, B6, B5, B4, QE, Bq, Int.reduceMul, Int.reduceAdd, Int.toNat_zero, Int.reduceToNat, zI1, zI2, Int.cast_ofNat_Int, false_and, Md.QT, Md.QQ, and_true, true_and, and_self, hr, c1, c3]
   rw[<-hK,Z7 (on S _ _ [2,3,4,5,6,7] (by decide) rfl) rfl _ _ _ _ _ _ _ _ _ rfl]
   simp only[eG,go_sem,Z2 S,Z1 S,zN0,zN1,zN2,zN3,zN4,zI0,zI1,zI2,zI3,reduceCtorEq,QA S]
theorem Zcs (dp:Nat)(l:List Int)(kx:Nat->K)(kr:K)(f:Nat)(W wn pub sec r0 r1 r2 r3 r:Int)(hr:Md.r4.getD (Md.YK (Md.ZR (Md.kM l 1) 2) 3).toNat 0=r):
  QY (Zq E 8) (Z5 E fn (dp+1)) (Z9 12 QY (Zq E 8) (Z5 E fn (dp+1)) kx kr (f+1)) kx kr (mk .bot 171 [(2,.ref 0 0 0),(3,.fn (.func 24) [.ref 1 0 0]),(4,.ref 2 0 0),(5,aI pub),(6,aI sec),(7,aI 1)]) [.cells [zi,zi,zi,zi,zi,zi,zi,zn,zn,zn] 0 false,.cells [.d (rD l)] 0 false,.cells [aI W,aI wn,aI 6,aI r0,aI r1,aI r2,aI r3,zn,zn,zn] 0 false]=
  QY (Zq E 8) (Z5 E fn (dp+1)) (Z9 12 QY (Zq E 8) (Z5 E fn (dp+1)) kx kr f) kx kr (mk .bot 171 [(2,.ref 0 0 0),(3,.fn (.func 24) [.ref 1 0 0]),(4,.ref 2 0 0),(5,aI (Md.QT W pub sec r).2.1),(6,aI (Md.QT W pub sec r).2.2),(7,aI 2)]) [.cells [zi,zi,zi,zi,zi,zi,zi,zn,zn,zn] 0 false,.cells [.d (rD l)] 0 false,.cells [aI W,aI wn,aI 6,aI r0,aI (Md.QT W pub sec r).1,aI r2,aI r3,zn,zn,zn] 0 false]:=by
 have w1:∀ z:Int,0<=z->z<100->IntKind.i64.wrap z=z:=fun z h1 h2=>YX (by omega) (by omega)
 have w2:∀ z:Int,0<=z->z<100->IntKind.u64.wrap z=z:=fun z h1 h2=>NR (by omega) (by omega)
 have r4':∀ {α:Type} (l:List α),rep l 4=l++(l++(l++l)):=fun l=>by simp[rep]
 generalize hK:Z9 12 QY _ _ kx kr (f+1)=KK
 first | (conv=>lhs;rw[QY]) | rw[QY]
 by_cases c1:r=1
 ·by_cases c2 : IntKind.i64.wrap (pub + W) <= 2
  ·simp only [eG, go_sem, Z2 S, Z1 S, zN0, zN1, zN2, zN3, zN4, zI0, zI1, zI2, zI3, reduceCtorEq, QA S, Qq, QC, YR, w1, w2, r4', QD S, B3, B7, B6, B5, B4, QE, Bq, Int.reduceMul, Int.reduceAdd, Int.toNat_zero, Int.reduceToNat, zI1, zI2, Int.cast_ofNat_Int, false_and, Md.QT, Md.QQ, and_true, true_and, and_self, hr, c1, c2]
   rw[<-hK,Z7 (on S _ _ [2,3,4,5,6,7] (by decide) rfl) rfl _ _ _ _ _ _ _ _ _ rfl]
   simp only[eG,go_sem,Z2 S,Z1 S,zN0,zN1,zN2,zN3,zN4,zI0,zI1,zI2,zI3,reduceCtorEq,QA S]
  ·simp only [eG, go_sem, Z2 S, Z1 S, zN0, zN1, zN2, zN3, zN4, zI0, zI1, zI2, zI3, reduceCtorEq, QA S, Qq, QC, YR, w1, w2, r4', QD S, B3, B7, B6, B5, B4, QE, Bq, Int.reduceMul, Int.reduceAdd, Int.toNat_zero, Int.reduceToNat, zI1, zI2, Int.cast_ofNat_Int, false_and, Md.QT, Md.QQ, and_true, true_and, and_self, hr, c1, c2]
   rw[<-hK,Z7 (on S _ _ [2,3,4,5,6,7] (by decide) rfl) rfl _ _ _ _ _ _ _ _ _ rfl]
   simp only[eG,go_sem,Z2 S,Z1 S,zN0,zN1,zN2,zN3,zN4,zI0,zI1,zI2,zI3,reduceCtorEq,QA S]
 ·by_cases c3 : r = 2
  ·by_cases c4 : IntKind.i64.wrap (sec + W) <= 2
   ·simp only [eG, go_sem, Z2 S, Z1 S, zN0, zN1, zN2, zN3, zN4, zI0, zI1, zI2, zI3, reduceCtorEq, QA S, Qq, QC, YR, w1, w2, r4', QD S, B3, B7, B6, B5, B4, QE, Bq, Int.reduceMul, Int.reduceAdd, Int.toNat_zero, Int.reduceToNat, zI1, zI2, Int.cast_ofNat_Int, false_and, Md.QT, Md.QQ, and_true, true_and, and_self, hr, c1, c3, c4]
    rw[<-hK,Z7 (on S _ _ [2,3,4,5,6,7] (by decide) rfl) rfl _ _ _ _ _ _ _ _ _ rfl]
    simp only[eG,go_sem,Z2 S,Z1 S,zN0,zN1,zN2,zN3,zN4,zI0,zI1,zI2,zI3,reduceCtorEq,QA S]
   ·simp only [eG, go_sem, Z2 S, Z1 S, zN0, zN1, zN2, zN3, zN4, zI0, zI1, zI2, zI3, reduceCtorEq, QA S, Qq, QC, YR, w1, w2, r4', QD S, B3, B7, B6, B5, B4, QE, Bq, Int.reduceMul, Int.reduceAdd, Int.toNat_zero, Int.reduceToNat, zI1, zI2, Int.cast_ofNat_Int, false_and, Md.QT, Md.QQ, and_true, true_and, and_self, hr, c1, c3, c4]
    rw[<-hK,Z7 (on S _ _ [2,3,4,5,6,7] (by decide) rfl) rfl _ _ _ _ _ _ _ _ _ rfl]
    simp only[eG,go_sem,Z2 S,Z1 S,zN0,zN1,zN2,zN3,zN4,zI0,zI1,zI2,zI3,reduceCtorEq,QA S]
  ·simp only [eG, go_sem, Z2 S, Z1 S, zN0, zN1, zN2, zN3, zN4, zI0, zI1, zI2, zI3, reduceCtorEq, QA S, Qq, QC, YR, w1, w2, r4', QD S, B3, B7, B6, B5, B4, QE, Bq, Int.reduceMul, Int.reduceAdd, Int.toNat_zero, Int.reduceToNat, zI1, zI2, Int.cast_ofNat_Int, false_and, Md.QT, Md.QQ, and_true, true_and, and_self, hr, c1, c3]
   rw[<-hK,Z7 (on S _ _ [2,3,4,5,6,7] (by decide) rfl) rfl _ _ _ _ _ _ _ _ _ rfl]
   simp only[eG,go_sem,Z2 S,Z1 S,zN0,zN1,zN2,zN3,zN4,zI0,zI1,zI2,zI3,reduceCtorEq,QA S]
theorem Zcr (dp:Nat)(l:List Int)(kx:Nat->K)(kr:K)(f:Nat)(W wn pub sec r0 r1 r2 r3 r:Int)(hr:Md.r4.getD (Md.YK (Md.ZR (Md.kM l 1) 4) 3).toNat 0=r):
  QY (Zq E 8) (Z5 E fn (dp+1)) (Z9 12 QY (Zq E 8) (Z5 E fn (dp+1)) kx kr (f+1)) kx kr (mk .bot 171 [(2,.ref 0 0 0),(3,.fn (.func 24) [.ref 1 0 0]),(4,.ref 2 0 0),(5,aI pub),(6,aI sec),(7,aI 2)]) [.cells [zi,zi,zi,zi,zi,zi,zi,zn,zn,zn] 0 false,.cells [.d (rD l)] 0 false,.cells [aI W,aI wn,aI 6,aI r0,aI r1,aI r2,aI r3,zn,zn,zn] 0 false]=
  QY (Zq E 8) (Z5 E fn (dp+1)) (Z9 12 QY (Zq E 8) (Z5 E fn (dp+1)) kx kr f) kx kr (mk .bot 171 [(2,.ref 0 0 0),(3,.fn (.func 24) [.ref 1 0 0]),(4,.ref 2 0 0),(5,aI (Md.QT W pub sec r).2.1),(6,aI (Md.QT W pub sec r).2.2),(7,aI 3)]) [.cells [zi,zi,zi,zi,zi,zi,zi,zn,zn,zn] 0 false,.cells [.d (rD l)] 0 false,.cells [aI W,aI wn,aI 6,aI r0,aI r1,aI (Md.QT W pub sec r).1,aI r3,zn,zn,zn] 0 false]:=by
 have w1:∀ z:Int,0<=z->z<100->IntKind.i64.wrap z=z:=fun z h1 h2=>YX (by omega) (by omega)
 have w2:∀ z:Int,0<=z->z<100->IntKind.u64.wrap z=z:=fun z h1 h2=>NR (by omega) (by omega)
 have r4':∀ {α:Type} (l:List α),rep l 4=l++(l++(l++l)):=fun l=>by simp[rep]
 generalize hK:Z9 12 QY _ _ kx kr (f+1)=KK
 first | (conv=>lhs;rw[QY]) | rw[QY]
 by_cases c1:r=1
 ·by_cases c2 : IntKind.i64.wrap (pub + W) <= 2
  ·simp only [eG, go_sem, Z2 S, Z1 S, zN0, zN1, zN2, zN3, zN4, zI0, zI1, zI2, zI3, reduceCtorEq, QA S, Qq, QC, YR, w1, w2, r4', QD S, B3, B7, B6, B5, B4, QE, Bq, Int.reduceMul, Int.reduceAdd, Int.toNat_zero, Int.reduceToNat, zI1, zI2, Int.cast_ofNat_Int, false_and, Md.QT, Md.QQ, and_true, true_and, and_self, hr, c1, c2]
   rw[<-hK,Z7 (on S _ _ [2,3,4,5,6,7] (by decide) rfl) rfl _ _ _ _ _ _ _ _ _ rfl]
   simp only[eG,go_sem,Z2 S,Z1 S,zN0,zN1,zN2,zN3,zN4,zI0,zI1,zI2,zI3,reduceCtorEq,QA S]
  ·simp only [eG, go_sem, Z2 S, Z1 S, zN0, zN1, zN2, zN3, zN4, zI0, zI1, zI2, zI3, reduceCtorEq, QA S, Qq, QC, YR, w1, w2, r4', QD S, B3, B7, B6, B5, B4, QE, Bq, Int.reduceMul, Int.reduceAdd, Int.toNat_zero, Int.reduceToNat, zI1, zI2, Int.cast_ofNat_Int, false_and, Md.QT, Md.QQ, and_true, true_and, and_self, hr, c1, c2]
   rw[<-hK,Z7 (on S _ _ [2,3,4,5,6,7] (by decide) rfl) rfl _ _ _ _ _ _ _ _ _ rfl]
   simp only[eG,go_sem,Z2 S,Z1 S,zN0,zN1,zN2,zN3,zN4,zI0,zI1,zI2,zI3,reduceCtorEq,QA S]
 ·by_cases c3 : r = 2
  ·by_cases c4 : IntKind.i64.wrap (sec + W) <= 2
   ·simp only [eG, go_sem, Z2 S, Z1 S, zN0, zN1, zN2, zN3, zN4, zI0, zI1, zI2, zI3, reduceCtorEq, QA S, Qq, QC, YR, w1, w2, r4', QD S, B3, B7, B6, B5, B4, QE, Bq, Int.reduceMul, Int.reduceAdd, Int.toNat_zero, Int.reduceToNat, zI1, zI2, Int.cast_ofNat_Int, false_and, Md.QT, Md.QQ, and_true, true_and, and_self, hr, c1, c3, c4]
    rw[<-hK,Z7 (on S _ _ [2,3,4,5,6,7] (by decide) rfl) rfl _ _ _ _ _ _ _ _ _ rfl]
    simp only[eG,go_sem,Z2 S,Z1 S,zN0,zN1,zN2,zN3,zN4,zI0,zI1,zI2,zI3,reduceCtorEq,QA S]
   ·simp only [eG, go_sem, Z2 S, Z1 S, zN0, zN1, zN2, zN3, zN4, zI0, zI1, zI2, zI3, reduceCtorEq, QA S, Qq, QC, YR, w1, w2, r4', QD S, B3, B7, B6, B5, B4, QE, Bq, Int.reduceMul, Int.reduceAdd, Int.toNat_zero, Int.reduceToNat, zI1, zI2, Int.cast_ofNat_Int, false_and, Md.QT, Md.QQ, and_true, true_and, and_self, hr, c1, c3, c4]
    rw[<-hK,Z7 (on S _ _ [2,3,4,5,6,7] (by decide) rfl) rfl _ _ _ _ _ _ _ _ _ rfl]
    simp only[eG,go_sem,Z2 S,Z1 S,zN0,zN1,zN2,zN3,zN4,zI0,zI1,zI2,zI3,reduceCtorEq,QA S]
  ·simp only [eG, go_sem, Z2 S, Z1 S, zN0, zN1, zN2, zN3, zN4, zI0, zI1, zI2, zI3, reduceCtorEq, QA S, Qq, QC, YR, w1, w2, r4', QD S, B3, B7, B6, B5, B4, QE, Bq, Int.reduceMul, Int.reduceAdd, Int.toNat_zero, Int.reduceToNat, zI1, zI2, Int.cast_ofNat_Int, false_and, Md.QT, Md.QQ, and_true, true_and, and_self, hr, c1, c3]
   rw[<-hK,Z7 (on S _ _ [2,3,4,5,6,7] (by decide) rfl) rfl _ _ _ _ _ _ _ _ _ rfl]
   simp only[eG,go_sem,Z2 S,Z1 S,zN0,zN1,zN2,zN3,zN4,zI0,zI1,zI2,zI3,reduceCtorEq,QA S]
theorem Zcq (dp:Nat)(l:List Int)(kx:Nat->K)(kr:K)(f:Nat)(W wn pub sec r0 r1 r2 r3 r:Int)(hr:Md.r4.getD (Md.YK (Md.ZR (Md.kM l 1) 6) 3).toNat 0=r):
  QY (Zq E 8) (Z5 E fn (dp+1)) (Z9 12 QY (Zq E 8) (Z5 E fn (dp+1)) kx kr (f+1)) kx kr (mk .bot 171 [(2,.ref 0 0 0),(3,.fn (.func 24) [.ref 1 0 0]),(4,.ref 2 0 0),(5,aI pub),(6,aI sec),(7,aI 3)]) [.cells [zi,zi,zi,zi,zi,zi,zi,zn,zn,zn] 0 false,.cells [.d (rD l)] 0 false,.cells [aI W,aI wn,aI 6,aI r0,aI r1,aI r2,aI r3,zn,zn,zn] 0 false]=
  QY (Zq E 8) (Z5 E fn (dp+1)) (Z9 12 QY (Zq E 8) (Z5 E fn (dp+1)) kx kr f) kx kr (mk .bot 171 [(2,.ref 0 0 0),(3,.fn (.func 24) [.ref 1 0 0]),(4,.ref 2 0 0),(5,aI (Md.QT W pub sec r).2.1),(6,aI (Md.QT W pub sec r).2.2),(7,aI 4)]) [.cells [zi,zi,zi,zi,zi,zi,zi,zn,zn,zn] 0 false,.cells [.d (rD l)] 0 false,.cells [aI W,aI wn,aI 6,aI r0,aI r1,aI r2,aI (Md.QT W pub sec r).1,zn,zn,zn] 0 false]:=by
 have w1:∀ z:Int,0<=z->z<100->IntKind.i64.wrap z=z:=fun z h1 h2=>YX (by omega) (by omega)
 have w2:∀ z:Int,0<=z->z<100->IntKind.u64.wrap z=z:=fun z h1 h2=>NR (by omega) (by omega)
 have r4':∀ {α:Type} (l:List α),rep l 4=l++(l++(l++l)):=fun l=>by simp[rep]
 generalize hK:Z9 12 QY _ _ kx kr (f+1)=KK
 first | (conv=>lhs;rw[QY]) | rw[QY]
 by_cases c1:r=1
 ·by_cases c2 : IntKind.i64.wrap (pub + W) <= 2
  ·simp only [eG, go_sem, Z2 S, Z1 S, zN0, zN1, zN2, zN3, zN4, zI0, zI1, zI2, zI3, reduceCtorEq, QA S, Qq, QC, YR, w1, w2, r4', QD S, B3, B7, B6, B5, B4, QE, Bq, Int.reduceMul, Int.reduceAdd, Int.toNat_zero, Int.reduceToNat, zI1, zI2, Int.cast_ofNat_Int, false_and, Md.QT, Md.QQ, and_true, true_and, and_self, hr, c1, c2]
   rw[<-hK,Z7 (on S _ _ [2,3,4,5,6,7] (by decide) rfl) rfl _ _ _ _ _ _ _ _ _ rfl]
   simp only[eG,go_sem,Z2 S,Z1 S,zN0,zN1,zN2,zN3,zN4,zI0,zI1,zI2,zI3,reduceCtorEq,QA S]
  ·simp only [eG, go_sem, Z2 S, Z1 S, zN0, zN1, zN2, zN3, zN4, zI0, zI1, zI2, zI3, reduceCtorEq, QA S, Qq, QC, YR, w1, w2, r4', QD S, B3, B7, B6, B5, B4, QE, Bq, Int.reduceMul, Int.reduceAdd, Int.toNat_zero, Int.reduceToNat, zI1, zI2, Int.cast_ofNat_Int, false_and, Md.QT, Md.QQ, and_true, true_and, and_self, hr, c1, c2]
   rw[<-hK,Z7 (on S _ _ [2,3,4,5,6,7] (by decide) rfl) rfl _ _ _ _ _ _ _ _ _ rfl]
   simp only[eG,go_sem,Z2 S,Z1 S,zN0,zN1,zN2,zN3,zN4,zI0,zI1,zI2,zI3,reduceCtorEq,QA S]
 ·by_cases c3 : r = 2
  ·by_cases c4 : IntKind.i64.wrap (sec + W) <= 2
   ·simp only [eG, go_sem, Z2 S, Z1 S, zN0, zN1, zN2, zN3, zN4, zI0, zI1, zI2, zI3, reduceCtorEq, QA S, Qq, QC, YR, w1, w2, r4', QD S, B3, B7, B6, B5, B4, QE, Bq, Int.reduceMul, Int.reduceAdd, Int.toNat_zero, Int.reduceToNat, zI1, zI2, Int.cast_ofNat_Int, false_and, Md.QT, Md.QQ, and_true, true_and, and_self, hr, c1, c3, c4]
    rw[<-hK,Z7 (on S _ _ [2,3,4,5,6,7] (by decide) rfl) rfl _ _ _ _ _ _ _ _ _ rfl]
    simp only[eG,go_sem,Z2 S,Z1 S,zN0,zN1,zN2,zN3,zN4,zI0,zI1,zI2,zI3,reduceCtorEq,QA S]
   ·simp only [eG, go_sem, Z2 S, Z1 S, zN0, zN1, zN2, zN3, zN4, zI0, zI1, zI2, zI3, reduceCtorEq, QA S, Qq, QC, YR, w1, w2, r4', QD S, B3, B7, B6, B5, B4, QE, Bq, Int.reduceMul, Int.reduceAdd, Int.toNat_zero, Int.reduceToNat, zI1, zI2, Int.cast_ofNat_Int, false_and, Md.QT, Md.QQ, and_true, true_and, and_self, hr, c1, c3, c4]
    rw[<-hK,Z7 (on S _ _ [2,3,4,5,6,7] (by decide) rfl) rfl _ _ _ _ _ _ _ _ _ rfl]
    simp only[eG,go_sem,Z2 S,Z1 S,zN0,zN1,zN2,zN3,zN4,zI0,zI1,zI2,zI3,reduceCtorEq,QA S]
  ·simp only [eG, go_sem, Z2 S, Z1 S, zN0, zN1, zN2, zN3, zN4, zI0, zI1, zI2, zI3, reduceCtorEq, QA S, Qq, QC, YR, w1, w2, r4', QD S, B3, B7, B6, B5, B4, QE, Bq, Int.reduceMul, Int.reduceAdd, Int.toNat_zero, Int.reduceToNat, zI1, zI2, Int.cast_ofNat_Int, false_and, Md.QT, Md.QQ, and_true, true_and, and_self, hr, c1, c3]
   rw[<-hK,Z7 (on S _ _ [2,3,4,5,6,7] (by decide) rfl) rfl _ _ _ _ _ _ _ _ _ rfl]
   simp only[eG,go_sem,Z2 S,Z1 S,zN0,zN1,zN2,zN3,zN4,zI0,zI1,zI2,zI3,reduceCtorEq,QA S]
theorem Zj7 (dp:Nat)(l:List Int)(kx:Nat->K)(kr:K)(f:Nat)(hf:4<=f)(W wn:Int):
  QY (Zq E 8) (Z5 E fn (dp+1)) (Z9 12 QY (Zq E 8) (Z5 E fn (dp+1)) kx kr f) kx kr (mk .bot 171 [(2,.ref 0 0 0),(3,.fn (.func 24) [.ref 1 0 0]),(4,.ref 2 0 0),(5,aI 0),(6,aI 0),(7,aI 0)]) [.cells [zi,zi,zi,zi,zi,zi,zi,zn,zn,zn] 0 false,.cells [.d (rD l)] 0 false,.cells [aI W,aI wn,aI 6,aI 0,aI 0,aI 0,aI 0,zn,zn,zn] 0 false]=
  kx 0 (mk .bot 171 ((24,YB false)::(23,aI 4)::[(2,.ref 0 0 0),(3,.fn (.func 24) [.ref 1 0 0]),(4,.ref 2 0 0),(5,aI (Md.QZ l W).2.1),(6,aI (Md.QZ l W).2.2),(7,aI 4)])) [.cells [zi,zi,zi,zi,zi,zi,zi,zn,zn,zn] 0 false,.cells [.d (rD l)] 0 false,.cells [aI W,aI wn,aI 6,aI (Md.JA l W).1,aI (Md.Jv l W).1,aI (Md.Jw l W).1,aI (Md.QZ l W).1,zn,zn,zn] 0 false]:=by
 obtain⟨f,rfl⟩:∃ g,f=g+4:=⟨f-4,by omega⟩
 rw[Zct S dp l kx kr (f+3) W wn 0 0 0 0 0 0 _ rfl,Zcs S dp l kx kr (f+2) W wn _ _ _ 0 0 0 _ rfl,Zcr S dp l kx kr (f+1) W wn _ _ _ _ 0 0 _ rfl,Zcq S dp l kx kr f W wn _ _ _ _ _ 0 _ rfl]
 generalize Z9 12 QY _ _ kx kr f=KK
 first | (conv=>lhs;rw[QY]) | rw[QY]
 simp only[eG,go_sem,Z2 S,Z1 S,zN0,zN1,zN2,zN3,zN4,zI0,zI1,zI2,zI3,reduceCtorEq,QA S]
 rfl
end
theorem AM (A:List Blk)(s:Nat)(cs:List DV)(k:Option Nat)(h:cs.length=s):Eq A false s (.d (.lst cs 1 k))=some (cs.map .d,1):=by
 show(if cs.length=1*s then some (cs.map AV.d,1) else none)=_
 rw[if_pos (by omega)]
theorem KB (n:Nat):Q4 .add (.d (vt ⟨#[108]⟩)) (.d (vt (PH n)))=some (.d (vt (Md.GH n).name)):=by
 have e:(⟨#[108]⟩:ByteArray)++PH n=(Md.GH n).name:=by
  apply ByteArray.ext
  simp[PH,Md.GH]
 rw[Z23 _ _ (by rw[<-ByteArray.size_append,e];show(2:Nat)<=_;decide),e]
theorem KV:24<=Z4:=by unfold Z4;decide
theorem KU:80<=Z4:=by unfold Z4;decide
theorem l1:1<=Z4:=by unfold Z4;decide
theorem Vw {A:List Blk}{bytes j v:Nat}{out:List Label}{nm:ByteArray}{z:Int}(hA:A[j]? =some (.cells ((rC out).map .d) v false))(h1:(out.length+1)*bytes<=Z4)(h2:out.length+1<=Z4):
  J4 A 2 bytes (.sref j v 0 out.length 2 none) [.d (vt nm),.d (vi z)] 1=some (.turn j (.cells ((rC (out++[⟨nm,z⟩])).map .d) (v+1) false) (.sref j (v+1) 0 (out.length+1) 2 none)):=
 PY (x:=(⟨nm,z⟩:Label)) hA rfl (by decide) rfl h1 h2
theorem Vz {A:List Blk}{bytes j v:Nat}{out:List Ins}{k o d an bn tg:Int}{ag bg:Bool}{nm:ByteArray}(hA:A[j]? =some (.cells ((rC out).map .d) v false))(h1:(out.length+1)*bytes<=Z4)(h2:out.length+1<=Z4):
  J4 A 9 bytes (.sref j v 0 out.length 9 none) [.d (vi k),.d (vi o),.d (vi d),.d (vb ag),.d (vi an),.d (vb bg),.d (vi bn),.d (vt nm),.d (vi tg)] 1=some (.turn j (.cells ((rC (out++[⟨k,o,d,⟨ag,an⟩,⟨bg,bn⟩,nm,tg⟩])).map .d) (v+1) false) (.sref j (v+1) 0 (out.length+1) 9 none)):=
 PY (x:=(⟨k,o,d,⟨ag,an⟩,⟨bg,bn⟩,nm,tg⟩:Ins)) hA rfl (by decide) rfl h1 h2
variable {E:Env} {fn:FuncId->Option (Env->cT->cT)}
section
variable (S:Sur E fn)
include S
theorem CJ:E.lives 8 1=none/\E.lives 8 23=none/\E.lives 8 27=none/\E.lives 8 31=none/\E.lives 8 35=none/\E.lives 8 39=none:=⟨off S 8 1 (by decide) rfl,off S 8 23 (by decide) rfl,off S 8 27 (by decide) rfl,off S 8 31 (by decide) rfl,off S 8 35 (by decide) rfl,off S 8 39 (by decide) rfl⟩
theorem Zkh (dp:Nat)(l:List Int)(kx:Nat->K)(kr:K)(f n:Nat)(W wn r0 r1 r2 r3:Int)(hn:n<6):
  Qv (Zq E 8) (Z5 E fn (dp+2)) (Z9 44 Qv (Zq E 8) (Z5 E fn (dp+2)) kx kr (f+1)) kx kr (mk .bot 171 [(2,.ref 0 0 0),(3,.fn (.func 24) [.ref 1 0 0]),(4,.ref 2 0 0),(8,aI n),(9,aI 0)]) [.cells [zi,zi,zi,zi,zi,zi,zi,zn,zn,zn] 0 false,.cells [.d (rD l)] 0 false,.cells [aI W,aI wn,aI 6,aI r0,aI r1,aI r2,aI r3,zn,zn,zn] 0 false]=
  Qv (Zq E 8) (Z5 E fn (dp+2)) (Z9 44 Qv (Zq E 8) (Z5 E fn (dp+2)) kx kr f) kx kr (mk .bot 171 [(2,.ref 0 0 0),(3,.fn (.func 24) [.ref 1 0 0]),(4,.ref 2 0 0),(8,aI n),(9,aI 1)]) [.cells [zi,zi,zi,zi,zi,zi,zi,zn,zn,zn] 0 false,.cells [.d (rD l)] 0 false,.cells [aI W,aI wn,aI 6,aI r0,aI r1,aI r2,aI r3,zn,.sref 3 0 0 1 2 none,zn] 0 false,.cells ((rC [Md.GH 0]).map .d) 0 false]:=by
 have w1:∀ z:Int,0<=z->z<100->IntKind.i64.wrap z=z:=fun z h1 h2=>YX (by omega) (by omega)
 have hn1:n<1000:=by omega
 have hjn:(0:Int)<=n:=by omega
 generalize hK:Z9 44 Qv _ _ kx kr (f+1)=KK
 first | (conv=>lhs;rw[Qv]) | rw[Qv]
 simp only[eG,go_sem,Z2 S,Z1 S,zN0,zN1,zN2,zN3,zN4,zI0,zI1,zI2,zI3,reduceCtorEq,CJ S,Qq,QC,YR,w1,Z8,Mz S,QD S,Mq S,Int.reduceMul,Int.reduceAdd,Int.toNat_zero,Int.reduceToNat,zI1,zI2,KB,AM,HR,HQ,KV,KU,l1,Nat.le_refl,and_true,true_and,and_self,hjn,hn1]
 rw[<-hK,Z7 (on S _ _ [2,3,4,8,9] (by decide) rfl) rfl _ _ _ _ _ _ _ _ _ rfl]
 simp only[eG,go_sem,Z2 S,Z1 S,zN0,zN1,zN2,zN3,zN4,zI0,zI1,zI2,zI3,reduceCtorEq,CJ S]
 try rfl
theorem Zhx (dp:Nat)(l:List Int)(kx:Nat->K)(kr:K)(f n:Nat)(W wn r0 r1 r2 r3:Int)(j:Nat)(ls:List Label)(hj:j<=n)(hn:n<6)(hz:ls.length<100):
  Qv (Zq E 8) (Z5 E fn (dp+2)) (Z9 44 Qv (Zq E 8) (Z5 E fn (dp+2)) kx kr (f+1)) kx kr (mk .bot 171 [(2,.ref 0 0 0),(3,.fn (.func 24) [.ref 1 0 0]),(4,.ref 2 0 0),(8,aI n),(9,aI j)]) [.cells [zi,zi,zi,zi,zi,zi,zi,zn,zn,zn] 0 false,.cells [.d (rD l)] 0 false,.cells [aI W,aI wn,aI 6,aI r0,aI r1,aI r2,aI r3,zn,.sref 3 0 0 ls.length 2 none,zn] 0 false,.cells ((rC ls).map .d) 0 false]=
  Qv (Zq E 8) (Z5 E fn (dp+2)) (Z9 44 Qv (Zq E 8) (Z5 E fn (dp+2)) kx kr f) kx kr (mk .bot 171 [(2,.ref 0 0 0),(3,.fn (.func 24) [.ref 1 0 0]),(4,.ref 2 0 0),(8,aI n),(9,aI (j+1))]) [.cells [zi,zi,zi,zi,zi,zi,zi,zn,zn,zn] 0 false,.cells [.d (rD l)] 0 false,.cells [aI W,aI wn,aI 6,aI r0,aI r1,aI r2,aI r3,zn,.sref 3 0 0 (ls.length+1) 2 none,zn] 0 false,.cells ((rC (ls++[Md.GH j])).map .d) 0 false]:=by
 have w1:∀ z:Int,0<=z->z<100->IntKind.i64.wrap z=z:=fun z h1 h2=>YX (by omega) (by omega)
 have hn1:n<1000:=by omega
 have h6:(j:Int)<6:=by omega
 have h0:(0:Int)<=j:=by omega
 have h02:(0:Int)<=j+2:=by omega
 have wj1:IntKind.i64.wrap ((j:Int)+1)=(j:Int)+1:=w1 _ (by omega) (by omega)
 have wj2:IntKind.i64.wrap ((j:Int)+2)=(j:Int)+2:=w1 _ (by omega) (by omega)
 have hjn:(j:Int)<=n:=by omega
 have k1:(ls.length+1)*24<=Z4:=by unfold Z4;omega
 have k2:ls.length+1<=Z4:=by unfold Z4;omega
 generalize hK:Z9 44 Qv _ _ kx kr (f+1)=KK
 first | (conv=>lhs;rw[Qv]) | rw[Qv]
 simp only[eG,go_sem,Z2 S,Z1 S,zN0,zN1,zN2,zN3,zN4,zI0,zI1,zI2,zI3,reduceCtorEq,CJ S,Qq,QC,YR,w1,Z8,Mz S,QD S,Mq S,Int.reduceMul,Int.reduceAdd,Int.toNat_zero,Int.reduceToNat,zI1,zI2,KB,AM,HR,HQ,KV,KU,l1,Nat.le_refl,and_true,true_and,and_self,h6,h0,h02,wj1,wj2,hjn,k1,k2,hn1,Int.toNat_natCast,Vw,Vz]
 rw[<-hK,Z7 (on S _ _ [2,3,4,8,9] (by decide) rfl) rfl _ _ _ _ _ _ _ _ _ rfl]
 simp only[eG,go_sem,Z2 S,Z1 S,zN0,zN1,zN2,zN3,zN4,zI0,zI1,zI2,zI3,reduceCtorEq,CJ S]
 try rfl
theorem Zkf (dp:Nat)(l:List Int)(kx:Nat->K)(kr:K)(f n:Nat)(ls:List Label)(W wn r0 r1 r2 r3:Int)(hj:0<n)(hn:n<6):
  Qw (Zq E 8) (Z5 E fn (dp+2)) (Z9 52 Qw (Zq E 8) (Z5 E fn (dp+2)) kx kr (f+1)) kx kr (mk .bot 171 [(2,.ref 0 0 0),(3,.fn (.func 24) [.ref 1 0 0]),(4,.ref 2 0 0),(8,aI n),(10,aI 0)]) [.cells [zi,zi,zi,zi,zi,zi,zi,zn,zn,zn] 0 false,.cells [.d (rD l)] 0 false,.cells [aI W,aI wn,aI 6,aI r0,aI r1,aI r2,aI r3,zn,.sref 3 0 0 ls.length 2 none,zn] 0 false,.cells ((rC ls).map .d) 0 false]=
  Qw (Zq E 8) (Z5 E fn (dp+2)) (Z9 52 Qw (Zq E 8) (Z5 E fn (dp+2)) kx kr f) kx kr (mk .bot 171 [(2,.ref 0 0 0),(3,.fn (.func 24) [.ref 1 0 0]),(4,.ref 2 0 0),(8,aI n),(10,aI 1)]) [.cells [zi,zi,zi,zi,zi,zi,zi,zn,zn,zn] 0 false,.cells [.d (rD l)] 0 false,.cells [aI W,aI wn,aI 6,aI r0,aI r1,aI r2,aI r3,zn,.sref 3 0 0 ls.length 2 none,.sref 4 0 0 1 9 none] 0 false,.cells ((rC ls).map .d) 0 false,.cells ((rC [Md.JN (Md.kM l 2) n]).map .d) 0 false]:=by
 have w1:∀ z:Int,0<=z->z<100->IntKind.i64.wrap z=z:=fun z h1 h2=>YX (by omega) (by omega)
 have hn1:n<1000:=by omega
 have hjn:(0:Int)<n:=by omega
 generalize hK:Z9 52 Qw _ _ kx kr (f+1)=KK
 first | (conv=>lhs;rw[Qw]) | rw[Qw]
 simp only[eG,go_sem,Z2 S,Z1 S,zN0,zN1,zN2,zN3,zN4,zI0,zI1,zI2,zI3,reduceCtorEq,CJ S,Qq,QC,YR,w1,Z8,Mz S,QD S,Mq S,Int.reduceMul,Int.reduceAdd,Int.toNat_zero,Int.reduceToNat,zI1,zI2,KB,AM,HR,HQ,KV,KU,l1,Nat.le_refl,and_true,true_and,and_self,hjn,hn1]
 rw[<-hK,Z7 (on S _ _ [2,3,4,8,10] (by decide) rfl) rfl _ _ _ _ _ _ _ _ _ rfl]
 simp only[eG,go_sem,Z2 S,Z1 S,zN0,zN1,zN2,zN3,zN4,zI0,zI1,zI2,zI3,reduceCtorEq,CJ S]
 try rfl
theorem Zhv (dp:Nat)(l:List Int)(kx:Nat->K)(kr:K)(f n:Nat)(ls:List Label)(W wn r0 r1 r2 r3:Int)(j:Nat)(is:List Ins)(hj:j<n)(hn:n<6)(hz:is.length<100):
  Qw (Zq E 8) (Z5 E fn (dp+2)) (Z9 52 Qw (Zq E 8) (Z5 E fn (dp+2)) kx kr (f+1)) kx kr (mk .bot 171 [(2,.ref 0 0 0),(3,.fn (.func 24) [.ref 1 0 0]),(4,.ref 2 0 0),(8,aI n),(10,aI j)]) [.cells [zi,zi,zi,zi,zi,zi,zi,zn,zn,zn] 0 false,.cells [.d (rD l)] 0 false,.cells [aI W,aI wn,aI 6,aI r0,aI r1,aI r2,aI r3,zn,.sref 3 0 0 ls.length 2 none,.sref 4 0 0 is.length 9 none] 0 false,.cells ((rC ls).map .d) 0 false,.cells ((rC is).map .d) 0 false]=
  Qw (Zq E 8) (Z5 E fn (dp+2)) (Z9 52 Qw (Zq E 8) (Z5 E fn (dp+2)) kx kr f) kx kr (mk .bot 171 [(2,.ref 0 0 0),(3,.fn (.func 24) [.ref 1 0 0]),(4,.ref 2 0 0),(8,aI n),(10,aI (j+1))]) [.cells [zi,zi,zi,zi,zi,zi,zi,zn,zn,zn] 0 false,.cells [.d (rD l)] 0 false,.cells [aI W,aI wn,aI 6,aI r0,aI r1,aI r2,aI r3,zn,.sref 3 0 0 ls.length 2 none,.sref 4 0 0 (is.length+1) 9 none] 0 false,.cells ((rC ls).map .d) 0 false,.cells ((rC (is++[Md.JN (Md.kM l (j+2)) n])).map .d) 0 false]:=by
 have w1:∀ z:Int,0<=z->z<100->IntKind.i64.wrap z=z:=fun z h1 h2=>YX (by omega) (by omega)
 have hn1:n<1000:=by omega
 have h6:(j:Int)<6:=by omega
 have h0:(0:Int)<=j:=by omega
 have h02:(0:Int)<=j+2:=by omega
 have wj1:IntKind.i64.wrap ((j:Int)+1)=(j:Int)+1:=w1 _ (by omega) (by omega)
 have wj2:IntKind.i64.wrap ((j:Int)+2)=(j:Int)+2:=w1 _ (by omega) (by omega)
 have hjn:(j:Int)<n:=by omega
 have k1:(is.length+1)*80<=Z4:=by unfold Z4;omega
 have k2:is.length+1<=Z4:=by unfold Z4;omega
 generalize hK:Z9 52 Qw _ _ kx kr (f+1)=KK
 first | (conv=>lhs;rw[Qw]) | rw[Qw]
 simp only[eG,go_sem,Z2 S,Z1 S,zN0,zN1,zN2,zN3,zN4,zI0,zI1,zI2,zI3,reduceCtorEq,CJ S,Qq,QC,YR,w1,Z8,Mz S,QD S,Mq S,Int.reduceMul,Int.reduceAdd,Int.toNat_zero,Int.reduceToNat,zI1,zI2,KB,AM,HR,HQ,KV,KU,l1,Nat.le_refl,and_true,true_and,and_self,h6,h0,h02,wj1,wj2,hjn,k1,k2,hn1,Int.toNat_natCast,Vw,Vz]
 rw[<-hK,Z7 (on S _ _ [2,3,4,8,10] (by decide) rfl) rfl _ _ _ _ _ _ _ _ _ rfl]
 simp only[eG,go_sem,Z2 S,Z1 S,zN0,zN1,zN2,zN3,zN4,zI0,zI1,zI2,zI3,reduceCtorEq,CJ S]
 try rfl
theorem Zkg (dp:Nat)(l:List Int)(kx:Nat->K)(kr:K)(f n:Nat)(ms:List MemT)(W wn r0 r1 r2 r3:Int)(hn:n<6):
  Qv (Zq E 8) (Z5 E fn (dp+2)) (Z9 44 Qv (Zq E 8) (Z5 E fn (dp+2)) kx kr (f+1)) kx kr (mk .bot 171 [(2,.ref 0 0 0),(3,.fn (.func 24) [.ref 1 0 0]),(4,.ref 2 0 0),(8,aI n),(9,aI 0)]) [.cells [zi,zi,zi,zi,zi,zi,zi,zn,zn,zn] 0 false,.cells [.d (rD l)] 0 false,.cells [aI W,aI wn,aI 6,aI r0,aI r1,aI r2,aI r3,.sref 3 0 0 ms.length 3 none,zn,zn] 0 false,.cells ((rC ms).map .d) 0 false]=
  Qv (Zq E 8) (Z5 E fn (dp+2)) (Z9 44 Qv (Zq E 8) (Z5 E fn (dp+2)) kx kr f) kx kr (mk .bot 171 [(2,.ref 0 0 0),(3,.fn (.func 24) [.ref 1 0 0]),(4,.ref 2 0 0),(8,aI n),(9,aI 1)]) [.cells [zi,zi,zi,zi,zi,zi,zi,zn,zn,zn] 0 false,.cells [.d (rD l)] 0 false,.cells [aI W,aI wn,aI 6,aI r0,aI r1,aI r2,aI r3,.sref 3 0 0 ms.length 3 none,.sref 4 0 0 1 2 none,zn] 0 false,.cells ((rC ms).map .d) 0 false,.cells ((rC [Md.GH 0]).map .d) 0 false]:=by
 have w1:∀ z:Int,0<=z->z<100->IntKind.i64.wrap z=z:=fun z h1 h2=>YX (by omega) (by omega)
 have hn1:n<1000:=by omega
 have hjn:(0:Int)<=n:=by omega
 generalize hK:Z9 44 Qv _ _ kx kr (f+1)=KK
 first | (conv=>lhs;rw[Qv]) | rw[Qv]
 simp only[eG,go_sem,Z2 S,Z1 S,zN0,zN1,zN2,zN3,zN4,zI0,zI1,zI2,zI3,reduceCtorEq,CJ S,Qq,QC,YR,w1,Z8,Mz S,QD S,Mq S,Int.reduceMul,Int.reduceAdd,Int.toNat_zero,Int.reduceToNat,zI1,zI2,KB,AM,HR,HQ,KV,KU,l1,Nat.le_refl,and_true,true_and,and_self,hjn,hn1]
 rw[<-hK,Z7 (on S _ _ [2,3,4,8,9] (by decide) rfl) rfl _ _ _ _ _ _ _ _ _ rfl]
 simp only[eG,go_sem,Z2 S,Z1 S,zN0,zN1,zN2,zN3,zN4,zI0,zI1,zI2,zI3,reduceCtorEq,CJ S]
 try rfl
theorem Zhw (dp:Nat)(l:List Int)(kx:Nat->K)(kr:K)(f n:Nat)(ms:List MemT)(W wn r0 r1 r2 r3:Int)(j:Nat)(ls:List Label)(hj:j<=n)(hn:n<6)(hz:ls.length<100):
  Qv (Zq E 8) (Z5 E fn (dp+2)) (Z9 44 Qv (Zq E 8) (Z5 E fn (dp+2)) kx kr (f+1)) kx kr (mk .bot 171 [(2,.ref 0 0 0),(3,.fn (.func 24) [.ref 1 0 0]),(4,.ref 2 0 0),(8,aI n),(9,aI j)]) [.cells [zi,zi,zi,zi,zi,zi,zi,zn,zn,zn] 0 false,.cells [.d (rD l)] 0 false,.cells [aI W,aI wn,aI 6,aI r0,aI r1,aI r2,aI r3,.sref 3 0 0 ms.length 3 none,.sref 4 0 0 ls.length 2 none,zn] 0 false,.cells ((rC ms).map .d) 0 false,.cells ((rC ls).map .d) 0 false]=
  Qv (Zq E 8) (Z5 E fn (dp+2)) (Z9 44 Qv (Zq E 8) (Z5 E fn (dp+2)) kx kr f) kx kr (mk .bot 171 [(2,.ref 0 0 0),(3,.fn (.func 24) [.ref 1 0 0]),(4,.ref 2 0 0),(8,aI n),(9,aI (j+1))]) [.cells [zi,zi,zi,zi,zi,zi,zi,zn,zn,zn] 0 false,.cells [.d (rD l)] 0 false,.cells [aI W,aI wn,aI 6,aI r0,aI r1,aI r2,aI r3,.sref 3 0 0 ms.length 3 none,.sref 4 0 0 (ls.length+1) 2 none,zn] 0 false,.cells ((rC ms).map .d) 0 false,.cells ((rC (ls++[Md.GH j])).map .d) 0 false]:=by
 have w1:∀ z:Int,0<=z->z<100->IntKind.i64.wrap z=z:=fun z h1 h2=>YX (by omega) (by omega)
 have hn1:n<1000:=by omega
 have h6:(j:Int)<6:=by omega
 have h0:(0:Int)<=j:=by omega
 have h02:(0:Int)<=j+2:=by omega
 have wj1:IntKind.i64.wrap ((j:Int)+1)=(j:Int)+1:=w1 _ (by omega) (by omega)
 have wj2:IntKind.i64.wrap ((j:Int)+2)=(j:Int)+2:=w1 _ (by omega) (by omega)
 have hjn:(j:Int)<=n:=by omega
 have k1:(ls.length+1)*24<=Z4:=by unfold Z4;omega
 have k2:ls.length+1<=Z4:=by unfold Z4;omega
 generalize hK:Z9 44 Qv _ _ kx kr (f+1)=KK
 first | (conv=>lhs;rw[Qv]) | rw[Qv]
 simp only[eG,go_sem,Z2 S,Z1 S,zN0,zN1,zN2,zN3,zN4,zI0,zI1,zI2,zI3,reduceCtorEq,CJ S,Qq,QC,YR,w1,Z8,Mz S,QD S,Mq S,Int.reduceMul,Int.reduceAdd,Int.toNat_zero,Int.reduceToNat,zI1,zI2,KB,AM,HR,HQ,KV,KU,l1,Nat.le_refl,and_true,true_and,and_self,h6,h0,h02,wj1,wj2,hjn,k1,k2,hn1,Int.toNat_natCast,Vw,Vz]
 rw[<-hK,Z7 (on S _ _ [2,3,4,8,9] (by decide) rfl) rfl _ _ _ _ _ _ _ _ _ rfl]
 simp only[eG,go_sem,Z2 S,Z1 S,zN0,zN1,zN2,zN3,zN4,zI0,zI1,zI2,zI3,reduceCtorEq,CJ S]
 try rfl
theorem Zke (dp:Nat)(l:List Int)(kx:Nat->K)(kr:K)(f n:Nat)(ms:List MemT)(ls:List Label)(W wn r0 r1 r2 r3:Int)(hj:0<n)(hn:n<6):
  Qw (Zq E 8) (Z5 E fn (dp+2)) (Z9 52 Qw (Zq E 8) (Z5 E fn (dp+2)) kx kr (f+1)) kx kr (mk .bot 171 [(2,.ref 0 0 0),(3,.fn (.func 24) [.ref 1 0 0]),(4,.ref 2 0 0),(8,aI n),(10,aI 0)]) [.cells [zi,zi,zi,zi,zi,zi,zi,zn,zn,zn] 0 false,.cells [.d (rD l)] 0 false,.cells [aI W,aI wn,aI 6,aI r0,aI r1,aI r2,aI r3,.sref 3 0 0 ms.length 3 none,.sref 4 0 0 ls.length 2 none,zn] 0 false,.cells ((rC ms).map .d) 0 false,.cells ((rC ls).map .d) 0 false]=
  Qw (Zq E 8) (Z5 E fn (dp+2)) (Z9 52 Qw (Zq E 8) (Z5 E fn (dp+2)) kx kr f) kx kr (mk .bot 171 [(2,.ref 0 0 0),(3,.fn (.func 24) [.ref 1 0 0]),(4,.ref 2 0 0),(8,aI n),(10,aI 1)]) [.cells [zi,zi,zi,zi,zi,zi,zi,zn,zn,zn] 0 false,.cells [.d (rD l)] 0 false,.cells [aI W,aI wn,aI 6,aI r0,aI r1,aI r2,aI r3,.sref 3 0 0 ms.length 3 none,.sref 4 0 0 ls.length 2 none,.sref 5 0 0 1 9 none] 0 false,.cells ((rC ms).map .d) 0 false,.cells ((rC ls).map .d) 0 false,.cells ((rC [Md.JN (Md.kM l 2) n]).map .d) 0 false]:=by
 have w1:∀ z:Int,0<=z->z<100->IntKind.i64.wrap z=z:=fun z h1 h2=>YX (by omega) (by omega)
 have hn1:n<1000:=by omega
 have hjn:(0:Int)<n:=by omega
 generalize hK:Z9 52 Qw _ _ kx kr (f+1)=KK
 first | (conv=>lhs;rw[Qw]) | rw[Qw]
 simp only[eG,go_sem,Z2 S,Z1 S,zN0,zN1,zN2,zN3,zN4,zI0,zI1,zI2,zI3,reduceCtorEq,CJ S,Qq,QC,YR,w1,Z8,Mz S,QD S,Mq S,Int.reduceMul,Int.reduceAdd,Int.toNat_zero,Int.reduceToNat,zI1,zI2,KB,AM,HR,HQ,KV,KU,l1,Nat.le_refl,and_true,true_and,and_self,hjn,hn1]
 rw[<-hK,Z7 (on S _ _ [2,3,4,8,10] (by decide) rfl) rfl _ _ _ _ _ _ _ _ _ rfl]
 simp only[eG,go_sem,Z2 S,Z1 S,zN0,zN1,zN2,zN3,zN4,zI0,zI1,zI2,zI3,reduceCtorEq,CJ S]
 try rfl
theorem Zhu (dp:Nat)(l:List Int)(kx:Nat->K)(kr:K)(f n:Nat)(ms:List MemT)(ls:List Label)(W wn r0 r1 r2 r3:Int)(j:Nat)(is:List Ins)(hj:j<n)(hn:n<6)(hz:is.length<100):
  Qw (Zq E 8) (Z5 E fn (dp+2)) (Z9 52 Qw (Zq E 8) (Z5 E fn (dp+2)) kx kr (f+1)) kx kr (mk .bot 171 [(2,.ref 0 0 0),(3,.fn (.func 24) [.ref 1 0 0]),(4,.ref 2 0 0),(8,aI n),(10,aI j)]) [.cells [zi,zi,zi,zi,zi,zi,zi,zn,zn,zn] 0 false,.cells [.d (rD l)] 0 false,.cells [aI W,aI wn,aI 6,aI r0,aI r1,aI r2,aI r3,.sref 3 0 0 ms.length 3 none,.sref 4 0 0 ls.length 2 none,.sref 5 0 0 is.length 9 none] 0 false,.cells ((rC ms).map .d) 0 false,.cells ((rC ls).map .d) 0 false,.cells ((rC is).map .d) 0 false]=
  Qw (Zq E 8) (Z5 E fn (dp+2)) (Z9 52 Qw (Zq E 8) (Z5 E fn (dp+2)) kx kr f) kx kr (mk .bot 171 [(2,.ref 0 0 0),(3,.fn (.func 24) [.ref 1 0 0]),(4,.ref 2 0 0),(8,aI n),(10,aI (j+1))]) [.cells [zi,zi,zi,zi,zi,zi,zi,zn,zn,zn] 0 false,.cells [.d (rD l)] 0 false,.cells [aI W,aI wn,aI 6,aI r0,aI r1,aI r2,aI r3,.sref 3 0 0 ms.length 3 none,.sref 4 0 0 ls.length 2 none,.sref 5 0 0 (is.length+1) 9 none] 0 false,.cells ((rC ms).map .d) 0 false,.cells ((rC ls).map .d) 0 false,.cells ((rC (is++[Md.JN (Md.kM l (j+2)) n])).map .d) 0 false]:=by
 have w1:∀ z:Int,0<=z->z<100->IntKind.i64.wrap z=z:=fun z h1 h2=>YX (by omega) (by omega)
 have hn1:n<1000:=by omega
 have h6:(j:Int)<6:=by omega
 have h0:(0:Int)<=j:=by omega
 have h02:(0:Int)<=j+2:=by omega
 have wj1:IntKind.i64.wrap ((j:Int)+1)=(j:Int)+1:=w1 _ (by omega) (by omega)
 have wj2:IntKind.i64.wrap ((j:Int)+2)=(j:Int)+2:=w1 _ (by omega) (by omega)
 have hjn:(j:Int)<n:=by omega
 have k1:(is.length+1)*80<=Z4:=by unfold Z4;omega
 have k2:is.length+1<=Z4:=by unfold Z4;omega
 generalize hK:Z9 52 Qw _ _ kx kr (f+1)=KK
 first | (conv=>lhs;rw[Qw]) | rw[Qw]
 simp only[eG,go_sem,Z2 S,Z1 S,zN0,zN1,zN2,zN3,zN4,zI0,zI1,zI2,zI3,reduceCtorEq,CJ S,Qq,QC,YR,w1,Z8,Mz S,QD S,Mq S,Int.reduceMul,Int.reduceAdd,Int.toNat_zero,Int.reduceToNat,zI1,zI2,KB,AM,HR,HQ,KV,KU,l1,Nat.le_refl,and_true,true_and,and_self,h6,h0,h02,wj1,wj2,hjn,k1,k2,hn1,Int.toNat_natCast,Vw,Vz]
 rw[<-hK,Z7 (on S _ _ [2,3,4,8,10] (by decide) rfl) rfl _ _ _ _ _ _ _ _ _ rfl]
 simp only[eG,go_sem,Z2 S,Z1 S,zN0,zN1,zN2,zN3,zN4,zI0,zI1,zI2,zI3,reduceCtorEq,CJ S]
 try rfl
end
end Go.Aug.Mc
