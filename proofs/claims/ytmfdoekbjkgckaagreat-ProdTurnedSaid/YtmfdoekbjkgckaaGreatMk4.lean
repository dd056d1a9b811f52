import Derived.Test.YtmfdoekbjkgckaaGreatMl
import Derived.Test.YtmfdoekbjkgckaaGreatMc3
namespace Go.Aug.Mc
open Go Go.Aug
set_option linter.unusedSimpArgs false
theorem Znj (l:List Int):∀ m ∈ (Md.make l).mems,0<=m.n/\m.n<=16:=by
 intro m hm
 have hm:m ∈ Md.JC l (Md.Zx l):=hm
 have h1:∀ m ∈ Md.Bz l (Md.Zx l),0<=m.n/\m.n<=16:=by
  intro m hm
  unfold Md.Bz at hm
  split at hm
  ·simp only [List.mem_singleton] at hm
   subst hm
   split<;>simp
  ·simp at hm
 unfold Md.JC at hm
 split at hm
 ·rcases List.mem_append.1 hm with hm | hm
  ·exact h1 m hm
  ·simp only [List.mem_singleton] at hm
   subst hm;simp
 ·exact h1 m hm
theorem Znk (l:List Int):(Md.make l).mems.length<1000:=by
 show(Md.JC l (Md.Zx l)).length<1000
 have h1:(Md.Bz l (Md.Zx l)).length<=1:=by unfold Md.Bz;split<;>simp
 unfold Md.JC
 split
 ·simp;omega
 ·omega
theorem Znl (l:List Int):(Md.make l).ins.length<1000:=by
 show((List.range (Md.nM l)).map _).length<1000
 obtain⟨r,h1,h2⟩:=Md.N1 (Md.Y0 (Md.kM l 0) 12)
 rw[List.length_map,List.length_range]
 unfold Md.nM
 rw[h2,Int.toNat_natCast];omega
theorem Zni (l:List Int):Md.JP (Md.make l).w=true:=by
 obtain⟨r,h1,h2⟩:=Md.Z7q (Md.kM l 0)
 show Md.JP (Md.YS (Md.kM l 0) 1+1)=true
 rw[h2];exact Md.Vz.2 ⟨by omega,by omega⟩
open Nat renaming reduceLT -> zN0, reduceEqDiff -> zN1, reduceAdd -> zN2, reduceMul -> zN3, reduceLeDiff -> zN4
open Int renaming reduceEq -> zI0, reduceLT -> zI1, reduceLE -> zI2, reduceNeg -> zI3
set_option linter.unusedVariables false
set_option maxHeartbeats 40000000
theorem K9 (x:Int)(n:Nat)(h:n<=63):Qz .shr (.d (.v (.int .i64 x))) (.d (.v (.int .u64 (n:Int))))=some (aI (Md.Y0 x n)):=by
 rw[Z33 _ _ _ _ (Int.natCast_nonneg n),Int.toNat_natCast,Nat.min_eq_left (by show n<=64;omega)];rfl
theorem Fj (x:Int):Qz .shr (.d (.v (.int .i64 x))) (.d (.v (.int .u64 1)))=some (aI (Md.Y0 x 1)):=K9 x 1 (by decide)
theorem EP (x:Int):Qz .shr (.d (.v (.int .i64 x))) (.d (.v (.int .u64 8)))=some (aI (Md.Y0 x 8)):=K9 x 8 (by decide)
theorem F9 (x:Int):Qz .shr (.d (.v (.int .i64 x))) (.d (.v (.int .u64 10)))=some (aI (Md.Y0 x 10)):=K9 x 10 (by decide)
theorem Zhg (x:Int):Qz .shr (.d (.v (.int .i64 x))) (.d (.v (.int .u64 11)))=some (aI (Md.Y0 x 11)):=K9 x 11 (by decide)
theorem F8 (x:Int):Qz .shr (.d (.v (.int .i64 x))) (.d (.v (.int .u64 12)))=some (aI (Md.Y0 x 12)):=K9 x 12 (by decide)
theorem Zhf (x:Int):Qz .shr (.d (.v (.int .i64 x))) (.d (.v (.int .u64 14)))=some (aI (Md.Y0 x 14)):=K9 x 14 (by decide)
theorem Zhe (x:Int):Qz .shr (.d (.v (.int .i64 x))) (.d (.v (.int .u64 16)))=some (aI (Md.Y0 x 16)):=K9 x 16 (by decide)
theorem Zhd (x:Int):Qz .shr (.d (.v (.int .i64 x))) (.d (.v (.int .u64 18)))=some (aI (Md.Y0 x 18)):=K9 x 18 (by decide)
theorem lm (x:Int)(n:Nat)(h:0<n):Qz .rem (aI (Md.YS x 255)) (aI (n:Int))=some (aI (Md.YW x n:Nat)):=by
 rw[Z34 _ _ _ (by omega),Md.Zny]
theorem Zok (x:Int):Qz .rem (aI (Md.YS x 255)) (aI 18)=some (aI (Md.YW x 18:Nat)):=lm x 18 (by decide)
theorem Zol (x:Int):Qz .rem (aI (Md.YS x 255)) (aI 10)=some (aI (Md.YW x 10:Nat)):=lm x 10 (by decide)
theorem FF (x:Int):Qz .rem (aI (Md.YS x 255)) (aI 3)=some (aI (Md.YW x 3:Nat)):=lm x 3 (by decide)
theorem Z1f {l:List Int}{i:Nat}(h:i<l.length)(n:Nat)(hn:n=l.length)(cs:List DV)(hc:cs=rC l):EY (.d (.lst cs n (some n))) (aI (i:Int)) 1=some (.d (.vptr (vi (l.getD i 0)::rC (l.drop (i+1))))):=by
 subst hn hc
 have:=Z7g h (s:=1) rfl (some l.length) .i64
 rw[List.getD_eq_getElem?_getD,List.getElem?_eq_getElem h]
 exact this
theorem Zp0 (x:Int):EY (.d (.lst [vi 1,vi 1,vi 2,vi 2,vi 2,vi 3,vi 3,vi 4,vi 5,vi 5,vi 5,vi 6,vi 7,vi 8,vi 9,vi 10,vi 11,vi 1] 18 (some 18))) (aI (Md.YW x 18:Nat)) 1=some (.d (.vptr (vi (Md.MV.getD (Md.YW x 18) 0)::rC (Md.MV.drop (Md.YW x 18+1))))):=
 Z1f (l:=Md.MV) (Md.RR x (by decide)) 18 rfl _ rfl
theorem Zoz (x:Int):EY (.d (.lst [vi 9,vi 10,vi 3,vi 2] 4 (some 4))) (aI (Md.YS x 3)) 1=some (.d (.vptr (vi (Md.o4.getD (Md.YS x 3).toNat 0)::rC (Md.o4.drop ((Md.YS x 3).toNat+1))))):=by
 obtain⟨r,hr,h⟩:=Md.N1 x
 rw[h,Int.toNat_natCast]
 exact Z1f (l:=Md.o4) hr 4 rfl _ rfl
theorem Zgm (x:Int):IntKind.i64.wrap ((Md.YW x 10:Nat)+1)=(Md.YW x 10:Nat)+1:=by
 have:=Md.RR x (show 0<10 by decide)
 exact Q4 (by omega) (by omega)
theorem Zoj (x:Int)(n:Nat):Qz .rem (aI (Md.YS x 255)) (aI ((n:Int)+1))=some (aI (Md.YW x (n+1):Nat)):=by
 have:=lm x (n+1) (by omega)
 rw[Int.natCast_add] at this
 exact this
theorem KF (ps:List (Opd×Opd))(k:K)(tm:List AV)(A:List Blk):HW ps k tm A=bif Dq tm ps then k tm A else none:=id rfl
theorem KE (tm:List AV):Dq tm []=true:=id rfl
theorem Zqr (tm:List AV)(a b:Opd)(l:List (Opd×Opd)):Dq tm ((a,b)::l)=(Hq (look tm a) (look tm b)&&Dq tm l):=id rfl
theorem Zqq (i v o j w q:Nat):Hq (.ref i v o) (.ref j w q)= !decide (i=j):=by
 show(!Nat.beq i j)=_
 by_cases h:i=j
 ·subst h
  have:Nat.beq i i=true:=Nat.beq_refl i
  rw[this];simp
 ·have:Nat.beq i j=false:=by
   cases hb:Nat.beq i j with
   | false=>rfl
   | true=>exact absurd (Nat.eq_of_beq_eq_true hb) h
  rw[this,decide_eq_false h]
variable {E:Env} {fn:FuncId->Option (Env->cT->cT)}
section
variable (S:Sur E fn)
include S
theorem Z5s:E.lives 51 7=none:=off S 51 7 (by decide) rfl
theorem Z5u:E.lives 24 7=none:=off S 24 7 (by decide) rfl
theorem Zmb:E.lives 26 13=none/\E.lives 26 17=none/\E.lives 26 19=none/\E.lives 26 21=none/\E.lives 26 25=none/\E.lives 26 29=none/\E.lives 26 31=none/\E.lives 26 35=none:=⟨off S 26 13 (by decide) rfl,off S 26 17 (by decide) rfl,off S 26 19 (by decide) rfl,off S 26 21 (by decide) rfl,off S 26 25 (by decide) rfl,off S 26 29 (by decide) rfl,off S 26 31 (by decide) rfl,off S 26 35 (by decide) rfl⟩
theorem Zih (dp:Nat)(n:Int):Z6 E fn (dp+1) 51 [vi n] (.agg (Cl.cells (Md.H6 n))):=by
 unfold Z6
 show Zk (Z4 E fn (dp+1) 51 [.d (vi n)] [])=_
 rw[ZK,S.Z8e,ZM,Zdo,ZP _ _ _ _ _ _ _ _ rfl]
 by_cases h:Md.YS n 4=0
 ·simp only[eG,go_sem,Z3 S,Z2 S,zN0,zN1,zN2,zN3,zN4,zI0,zI1,zI2,zI3,reduceCtorEq,Z5s S,QN,h,Md.H6]
 ·simp only[eG,go_sem,Z3 S,Z2 S,zN0,zN1,zN2,zN3,zN4,zI0,zI1,zI2,zI3,reduceCtorEq,Z5s S,QN,h,Md.H6]
theorem Zrj (dp:Nat)(n:Int)(A:List Blk)(nb:Nat)(us:List Nat):ZH false E (Z4 E fn (dp+1)) 51 A nb (some ([vi n],us))=some (.made (.d (.agg (Cl.cells (Md.H6 n)))) []):=
 Z6.flat (Zih S dp n ) (np S 51 (by decide)) (rfl) A nb us
theorem Zij (dp:Nat)(i:Int)(l:List Int)(h0:0<=i):Z6 E fn (dp+1) 24 [vi i,.vptr [rD l]] (vi (Md.kM l i)):=by
 unfold Z6
 show Zk (Z4 E fn (dp+1) 24 [.d (vi i),.d (.vptr [rD l])] [])=_
 rw[ZK,S.Z8g,ZM,Zdq,ZP _ _ _ _ _ _ _ _ rfl]
 by_cases h:i<l.length
 ·obtain ⟨e, he⟩ := YX (show i.toNat < l.length by omega)
  simp only[eG,go_sem,Z3 S,Z2 S,zN0,zN1,zN2,zN3,zN4,zI0,zI1,zI2,zI3,reduceCtorEq,Z5u S,h,E5 h0 he,he,Option.getD_some,Md.kM]
 ·simp only[eG,go_sem,Z3 S,Z2 S,zN0,zN1,zN2,zN3,zN4,zI0,zI1,zI2,zI3,reduceCtorEq,Z5u S,h,Md.kM,List.getElem?_eq_none (show l.length<=i.toNat by omega),Option.getD_none]
theorem QS (dp:Nat)(i:Int)(l:List Int)(h0:0<=i)(A:List Blk)(nb:Nat)(us:List Nat):ZH false E (Z4 E fn (dp+1)) 24 A nb (some ([vi i,.vptr [rD l]],us))=some (.made (.d (vi (Md.kM l i))) []):=
 Z6.flat (Zij S dp i l h0) (np S 24 (by decide)) (rfl) A nb us
theorem Zii (dp:Nat)(x:Int)(n:Nat)(hn:n<1000):Z6 E fn (dp+2) 26 [vi x,vi (n:Nat)] (.agg (Cl.cells (Md.AE x n))):=by
 unfold Z6
 show Zk (Z4 E fn (dp+1+1) 26 [.d (vi x),.d (vi (n:Nat))] [])=_
 rw[ZK,S.Z8f,ZM,Zdp,ZP _ _ _ _ _ _ _ _ rfl]
 have hw:IntKind.i64.wrap ((n:Int)+1)=(n:Int)+1:=Q4 (by omega) (by omega)
 have hi:Md.AE x n=Md.AE x n:=rfl
 unfold Md.AE
 have r18:∀ {α:Type} (l:List α),rep l 18=l++(l++(l++(l++(l++(l++(l++(l++(l++(l++(l++(l++(l++(l++(l++(l++(l++l)))))))))))))))):=fun l=>by simp[rep]
 have r4:∀ {α:Type} (l:List α),rep l 4=l++(l++(l++l)):=fun l=>by simp[rep]
 simp only[eG,go_sem,Z3 S,Z2 S,zN0,zN1,zN2,zN3,zN4,zI0,zI1,zI2,zI3,reduceCtorEq,Zmb S,EP,Zhg,Zhf,Zhe,Zhd,QN,Zok,Zol,Zoj,Zp0,Zoz,hw,Zgm,Zrj S,r18,r4,KF,KE,Zqr,Zqq,Md.v0]
 generalize Md.MV.getD (Md.YW x 18) 0=k
 by_cases k1:k=1
 ·simp only[k1,decide_true,cond_true,if_true]
 by_cases k2:k=2
 ·simp only[k2,decide_true,decide_false,cond_true,cond_false,if_true,if_false,zI0,true_or,or_true]
 by_cases k3:k=3
 ·simp only[k3,decide_true,decide_false,cond_true,cond_false,if_true,if_false,zI0,true_or,or_true]
 by_cases k4:k=4
 ·simp only[k4,decide_true,decide_false,cond_true,cond_false,if_true,if_false,zI0,true_or,or_true,or_false]
 by_cases k5:k=5
 ·simp only[k5,decide_true,decide_false,cond_true,cond_false,if_true,if_false,zI0,true_or,or_true,or_false]
 by_cases k6:k=6
 ·simp only[k6,decide_true,decide_false,cond_true,cond_false,if_true,if_false,zI0,true_or,or_true,or_false]
 by_cases k8:k=8
 ·simp only[k8,decide_true,decide_false,cond_true,cond_false,if_true,if_false,zI0,true_or,or_true,or_false]
 by_cases k7:k=7
 ·simp only[k7,decide_true,decide_false,cond_true,cond_false,if_true,if_false,zI0,true_or,or_true,or_false]
 simp only[k1,k2,k3,k4,k5,k6,k7,k8,decide_false,cond_false,if_false,or_false]
theorem Nq (dp:Nat)(x:Int)(n:Nat)(hn:n<1000)(A:List Blk)(nb:Nat)(us:List Nat):ZH false E (Z4 E fn (dp+2)) 26 A nb (some ([vi x,vi (n:Nat)],us))=some (.made (.d (.agg (Cl.cells (Md.AE x n)))) []):=
 Z6.flat (Zii S dp x n hn) (np S 26 (by decide)) (rfl) A nb us
end
def RY (n:Nat):ByteArray:=⟨#[(48+n).toUInt8]⟩
theorem Zmg (r:Bool)(x:Opd)(E:Env)(call:cT)(tm:List AV)(A:List Blk)(nb:Nat):MF r x E call tm A nb=one? (TE A r (look tm x)):=id rfl
theorem Z42 (a b:ByteArray)(h:a.size+b.size<=1099511627776):Qz .add (.d (vt a)) (.d (vt b))=some (.d (vt (a++b))):=by
 show(N4 .add a b).map _=_
 simp[N4,h]
theorem dg (z:Int):NC [z]++(⟨#[]⟩:ByteArray)=⟨#[UInt8.ofNat z.toNat]⟩:=by
 have:(⟨#[]⟩:ByteArray)=ByteArray.empty:=rfl
 rw[this,ByteArray.append_empty]
 rfl
theorem Zgv (z:Int):Qz .add (.d (vt (NC [z]))) (.d (vt ⟨#[]⟩))=some (.d (vt ⟨#[UInt8.ofNat z.toNat]⟩)):=by
 rw[Z42 _ _ (by rw[<-ByteArray.size_append,dg];show(1:Nat)<=_;decide),dg]
theorem Zgu (z:UInt8):Qz .eql (.d (vt ⟨#[z]⟩)) (.d (vt ⟨#[]⟩))=some (YD false):=by
 simp[Qz,N4]
theorem Zl2 (E:Env)(call:cT)(kn:K)(kx:Nat->K)(kr:K)(tm:List AV)(A:List Blk):UA E call kn kx kr tm A=(cQ (cQ (Z1 [st 6 (oV (.t 0)),st 7 (oB .gtr (.t 6) (ci 0)),st 8 (oV (.t 7)),sg 9 8 false (oV (.t 3)),sg 10 8 false (oB .eql (.t 9) (.c (.v (.string ⟨#[]⟩)))),st 11 (YA (.t 8) (.c (.v (.bool true))) (.t 10))]) (cJ 1 (.t 11) (cK) (QJ 0))) (ZS 1 (cQ (Z1 [st 12 (oV (.t 0)),st 13 (oB .rem (.t 12) (ci 10)),st 14 (oB .add (ci 48) (.t 13)),st 15 (GM .u8 (.t 14)),st 16 (YE (rep [.d (.v (.int .u8 0))] 1) 1 1 [(0,1,(.t 15))]),st 17 (MF false (.t 16)),st 18 (oV (.t 3)),st 19 (oB .add (.t 17) (.t 18)),st 3 (oV (.t 19))]) (Z1 [st 20 (oV (.t 0)),st 21 (oB .quo (.t 20) (ci 10)),st 0 (oV (.t 21))])))) E call kn kx kr tm A:=id rfl
variable {E:Env} {fn:FuncId->Option (Env->cT->cT)}
section
variable (S:Sur E fn)
include S
theorem Zmc:E.lives 25 1=none/\E.lives 25 7=none:=⟨off S 25 1 (by decide) rfl,off S 25 7 (by decide) rfl⟩
theorem Zjz (dp:Nat)(n:Int)(hn:0<=n/\n<6):Z6 E fn (dp+1) 25 [vi n] (vt (RY n.toNat)):=by
 unfold Z6
 show Zk (Z4 E fn (dp+1) 25 [.d (vi n)] [])=_
 rw[ZK,S.Za5,ZM,Zfe,ZP _ _ _ _ _ _ _ _ rfl]
 have hloop:∀ kx kr m d T A,Zj 10 UA (Zq E 25) (Z4 E fn dp) kx kr (m+1) (mk d 23 T) A=Z0t (UA (Zq E 25) (Z4 E fn dp) (Zj 10 UA (Zq E 25) (Z4 E fn dp) kx kr m) kx kr) 23 [0,3] d T A (QD A 0 100000 ([0,3].flatMap fun t=>Q2 8 (ZT d T t)) []):=fun kx kr m d T A=>Z8 (on S _ _ [0,3] (by decide) rfl) rfl _ _ _ _ _ _ _ _ _ rfl
 have w1:∀ z:Int,0<=z->z<100->IntKind.i64.wrap z=z:=fun z h1 h2=>Q4 (by omega) (by omega)
 have w2:∀ z:Int,0<=z->z<100->IntKind.u8.wrap z=z:=fun z h1 h2=>by simp only[IntKind.wrap,IntKind.signed,IntKind.bits];simp;omega
 have e0:Qz .eql (.d (vt ⟨#[]⟩)) (.d (vt ⟨#[]⟩))=some (YD true):=by simp[Qz,N4]
 rcases(show n=0∨n=1∨n=2∨n=3∨n=4∨n=5 by omega) with rfl | rfl | rfl | rfl | rfl | rfl
 all_goals simp only[eG,go_sem,Z3 S,Z2 S,Nat.reduceLT,Nat.reduceEqDiff,Nat.reduceAdd,Nat.reduceMul,Nat.reduceLeDiff,Int.reduceEq,Int.reduceLT,Int.reduceLE,Int.reduceNeg,reduceCtorEq,Zmc S,hloop,Zl2,ne_eq,not_false_eq_true,e0,gt_iff_lt,Int.reduceTMod,Int.reduceTDiv,Int.reduceMod,Int.reduceAdd,w1,w2,Zmg,TE,Z02,cellsAt,List.getElem?_cons_zero,List.take_succ_cons,List.take_zero,List.drop_zero,true_and,Nat.le_refl,and_self,MX,Zgv,Zgu,Z9]
 all_goals rfl
theorem Nw (dp:Nat)(n:Int)(hn:0<=n/\n<6)(A:List Blk)(nb:Nat)(us:List Nat):ZH false E (Z4 E fn (dp+1)) 25 A nb (some ([vi n],us))=some (.made (.d (vt (RY n.toNat))) []):=
 Z6.flat (Zjz S dp n hn) (np S 25 (by decide)) (rfl) A nb us
end
theorem C3 (x:Int):Qz .shr (.d (.v (.int .i64 x))) (.d (.v (.int .u64 0)))=some (aI (Md.Y0 x 0)):=K9 x 0 (by decide)
theorem C7 (x:Int):x.fdiv (2^min 0 64)=Md.Y0 x 0:=by rw[Nat.min_eq_left (by decide)];rfl
theorem C6 (x:Int):x.fdiv (2^min 2 64)=Md.Y0 x 2:=by rw[Nat.min_eq_left (by decide)];rfl
theorem C5 (x:Int):x.fdiv (2^min 4 64)=Md.Y0 x 4:=by rw[Nat.min_eq_left (by decide)];rfl
theorem C4 (x:Int):x.fdiv (2^min 6 64)=Md.Y0 x 6:=by rw[Nat.min_eq_left (by decide)];rfl
theorem Cw (x:Int):EY (.d (.lst [vi 0,vi 0,vi 1,vi 2] 4 (some 4))) (aI (Md.YS x 3)) 1=some (.d (.vptr (vi (Md.r4.getD (Md.YS x 3).toNat 0)::rC (Md.r4.drop ((Md.YS x 3).toNat+1))))):=by
 obtain⟨r,hr,h⟩:=Md.N1 x
 rw[h,Int.toNat_natCast]
 exact Z1f (l:=Md.r4) hr 4 rfl _ rfl
theorem QQ (E:Env)(l:Nat->Option (List Nat))(m:Nat)(call:cT)(tm:List AV)(A:List Blk)(nb:Nat)(g:FuncId)(args:List Opd)(cap:List AV)(h:Yj g E.br=false):
  Z2c { br:=E.br,th:=E.th,prim:=E.prim,back:=E.back,lives:=E.lives,live:=l,nb0:=m } call tm A nb args (.fn (.func g) cap)=ZH (Yj g E.th || HK (l (EM g))) E call g A nb (TD (YQ (deep A 8) (args.map (look tm)++cap))):=
 Zbd E l m call A nb g _ h
def Zbv (A:List Blk)(n i:Nat):Option (List AV)->Option (DV×List Nat)
 | some cs=>(YQ (deep A n) cs).map fun r=>(.vptr r.1,i::r.2)
 | none=>none
theorem QE (A:List Blk)(n i v o:Nat):deep A (n+1) (.ref i v o)=Zbv A n i (cellsAt A i v o):=by
 show(match cellsAt A i v o with | some cs=>_ | none=>none)=_
 cases cellsAt A i v o<;>rfl
theorem QR (A:List Blk)(n i:Nat)(cs:List AV):Zbv A n i (some cs)=(YQ (deep A n) cs).map fun r=>(.vptr r.1,i::r.2):=id rfl
variable {E:Env} {fn:FuncId->Option (Env->cT->cT)}
section
variable (S:Sur E fn)
include S
theorem QP:E.lives 8 1=none/\E.lives 8 23=none/\E.lives 8 27=none/\E.lives 8 31=none/\E.lives 8 35=none/\E.lives 8 39=none:=⟨off S 8 1 (by decide) rfl,off S 8 23 (by decide) rfl,off S 8 27 (by decide) rfl,off S 8 31 (by decide) rfl,off S 8 35 (by decide) rfl,off S 8 39 (by decide) rfl⟩
theorem Zh0 (dp:Nat)(l:List Int)(kx:Nat->K)(kr:K)(f:Nat)(W wn pub sec r0 r1 r2 r3 r:Int)(hr:Md.r4.getD (Md.YS (Md.Y0 (Md.kM l 1) 0) 3).toNat 0=r):
  Jj (Zq E 8) (Z4 E fn (dp+1)) (Zj 12 Jj (Zq E 8) (Z4 E fn (dp+1)) kx kr (f+1)) kx kr (mk .bot 171 [(2,.ref 0 0 0),(3,.fn (.func 24) [.ref 1 0 0]),(4,.ref 2 0 0),(5,aI pub),(6,aI sec),(7,aI 0)]) [.cells [zi,zi,zi,zi,zi,zi,zi,zn,zn,zn] 0 false,.cells [.d (rD l)] 0 false,.cells [aI W,aI wn,aI 6,aI r0,aI r1,aI r2,aI r3,zn,zn,zn] 0 false]=
  Jj (Zq E 8) (Z4 E fn (dp+1)) (Zj 12 Jj (Zq E 8) (Z4 E fn (dp+1)) kx kr f) kx kr (mk .bot 171 [(2,.ref 0 0 0),(3,.fn (.func 24) [.ref 1 0 0]),(4,.ref 2 0 0),(5,aI (Md.J3 W pub sec r).2.1),(6,aI (Md.J3 W pub sec r).2.2),(7,aI 1)]) [.cells [zi,zi,zi,zi,zi,zi,zi,zn,zn,zn] 0 false,.cells [.d (rD l)] 0 false,.cells [aI W,aI wn,aI 6,aI (Md.J3 W pub sec r).1,aI r1,aI r2,aI r3,zn,zn,zn] 0 false]:=by
 have w1:∀ z:Int,0<=z->z<100->IntKind.i64.wrap z=z:=fun z h1 h2=>Q4 (by omega) (by omega)
 have w2:∀ z:Int,0<=z->z<100->IntKind.u64.wrap z=z:=fun z h1 h2=>R0 (by omega) (by omega)
 have r4':∀ {α:Type} (l:List α),rep l 4=l++(l++(l++l)):=fun l=>by simp[rep]
 generalize hK:Zj 12 Jj _ _ kx kr (f+1)=KK
 first | (conv=>lhs;rw[Jj]) | rw[Jj]
 by_cases c1:r=1
 ·by_cases c2 : IntKind.i64.wrap (pub + W) <= 2
  ·simp only [eG, go_sem, Z3 S, Z2 S, zN0, zN1, zN2, zN3, zN4, zI0, zI1, zI2, zI3, reduceCtorEq, QP S, QE, QR, QQ, w1, w2, r4', QS S, C3, C7, C6, C5, C4, QN, Cw, Int.reduceMul, Int.reduceAdd, Int.toNat_zero, Int.reduceToNat, zI1, zI2, Int.cast_ofNat_Int, false_and, Md.J3, Md.J0, and_true, true_and, and_self, hr, c1, c2]
   rw[<-hK,Z8 (on S _ _ [2,3,4,5,6,7] (by decide) rfl) rfl _ _ _ _ _ _ _ _ _ rfl]
   simp only[eG,go_sem,Z3 S,Z2 S,zN0,zN1,zN2,zN3,zN4,zI0,zI1,zI2,zI3,reduceCtorEq,QP S]
  ·simp only [eG, go_sem, Z3 S, Z2 S, zN0, zN1, zN2, zN3, zN4, zI0, zI1, zI2, zI3, reduceCtorEq, QP S, QE, QR, QQ, w1, w2, r4', QS S, C3, C7, C6, C5, C4, QN, Cw, Int.reduceMul, Int.reduceAdd, Int.toNat_zero, Int.reduceToNat, zI1, zI2, Int.cast_ofNat_Int, false_and, Md.J3, Md.J0, and_true, true_and, and_self, hr, c1, c2]
   rw[<-hK,Z8 (on S _ _ [2,3,4,5,6,7] (by decide) rfl) rfl _ _ _ _ _ _ _ _ _ rfl]
   simp only[eG,go_sem,Z3 S,Z2 S,zN0,zN1,zN2,zN3,zN4,zI0,zI1,zI2,zI3,reduceCtorEq,QP S]
 ·by_cases c3 : r = 2
  ·by_cases c4 : IntKind.i64.wrap (sec + W) <= 2
   ·simp only [eG, go_sem, Z3 S, Z2 S, zN0, zN1, zN2, zN3, zN4, zI0, zI1, zI2, zI3, reduceCtorEq, QP S, QE, QR, QQ, w1, w2, r4', QS S, C3, C7, C6, C5, C4, QN, Cw, Int.reduceMul, Int.reduceAdd, Int.toNat_zero, Int.reduceToNat, zI1, zI2, Int.cast_ofNat_Int, false_and, Md.J3, Md.J0, and_true, true_and, and_self, hr, c1, c3, c4]
    rw[<-hK,Z8 (on S _ _ [2,3,4,5,6,7] (by decide) rfl) rfl _ _ _ _ _ _ _ _ _ rfl]
    simp only[eG,go_sem,Z3 S,Z2 S,zN0,zN1,zN2,zN3,zN4,zI0,zI1,zI2,zI3,reduceCtorEq,QP S]
   ·simp only [eG, go_sem, Z3 S, Z2 S, zN0, zN1, zN2, zN3, zN4, zI0, zI1, zI2, zI3, reduceCtorEq, QP S, QE, QR, QQ, w1, w2, r4', QS S, C3, C7, C6, C5, C4, QN, Cw, Int.reduceMul, Int.reduceAdd, Int.toNat_zero, Int.reduceToNat, zI1, zI2, Int.cast_ofNat_Int, false_and, Md.J3, Md.J0, and_true, true_and, and_self, hr, c1, c3, c4]
    rw[<-hK,Z8 (on S _ _ [2,3,4,5,6,7] (by decide) rfl) rfl _ _ _ _ _ _ _ _ _ rfl]
    simp only[eG,go_sem,Z3 S,Z2 S,zN0,zN1,zN2,zN3,zN4,zI0,zI1,zI2,zI3,reduceCtorEq,QP S]
  ·simp only [eG, go_sem, Z3 S, Z2 S, zN0, zN1, zN2, zN3, zN4, zI0, zI1, zI2, zI3, reduceCtorEq, QP S, QE, QR, QQ, w1, w2, r4', QS S, C3, C7, C6, C5, C4, QN, Cw, Int.reduceMul, Int.reduceAdd, Int.toNat_zero, Int.reduceToNat, zI1, zI2, Int.cast_ofNat_Int, false_and, Md.J3, Md.J0, and_true, true_and, and_self, hr, c1, c3]
   rw[<-hK,Z8 (on S _ _ [2,3,4,5,6,7] (by decide) rfl) rfl _ _ _ _ _ _ _ _ _ rfl]
   simp only[eG,go_sem,Z3 S,Z2 S,zN0,zN1,zN2,zN3,zN4,zI0,zI1,zI2,zI3,reduceCtorEq,QP S]
theorem Zgz (dp:Nat)(l:List Int)(kx:Nat->K)(kr:K)(f:Nat)(W wn pub sec r0 r1 r2 r3 r:Int)(hr:Md.r4.getD (Md.YS (Md.Y0 (Md.kM l 1) 2) 3).toNat 0=r):
  Jj (Zq E 8) (Z4 E fn (dp+1)) (Zj 12 Jj (Zq E 8) (Z4 E fn (dp+1)) kx kr (f+1)) kx kr (mk .bot 171 [(2,.ref 0 0 0),(3,.fn (.func 24) [.ref 1 0 0]),(4,.ref 2 0 0),(5,aI pub),(6,aI sec),(7,aI 1)]) [.cells [zi,zi,zi,zi,zi,zi,zi,zn,zn,zn] 0 false,.cells [.d (rD l)] 0 false,.cells [aI W,aI wn,aI 6,aI r0,aI r1,aI r2,aI r3,zn,zn,zn] 0 false]=
  Jj (Zq E 8) (Z4 E fn (dp+1)) (Zj 12 Jj (Zq E 8) (Z4 E fn (dp+1)) kx kr f) kx kr (mk .bot 171 [(2,.ref 0 0 0),(3,.fn (.func 24) [.ref 1 0 0]),(4,.ref 2 0 0),(5,aI (Md.J3 W pub sec r).2.1),(6,aI (Md.J3 W pub sec r).2.2),(7,aI 2)]) [.cells [zi,zi,zi,zi,zi,zi,zi,zn,zn,zn] 0 false,.cells [.d (rD l)] 0 false,.cells [aI W,aI wn,aI 6,aI r0,aI (Md.J3 W pub sec r).1,aI r2,aI r3,zn,zn,zn] 0 false]:=by
 have w1:∀ z:Int,0<=z->z<100->IntKind.i64.wrap z=z:=fun z h1 h2=>Q4 (by omega) (by omega)
 have w2:∀ z:Int,0<=z->z<100->IntKind.u64.wrap z=z:=fun z h1 h2=>R0 (by omega) (by omega)
 have r4':∀ {α:Type} (l:List α),rep l 4=l++(l++(l++l)):=fun l=>by simp[rep]
 generalize hK:Zj 12 Jj _ _ kx kr (f+1)=KK
 first | (conv=>lhs;rw[Jj]) | rw[Jj]
 by_cases c1:r=1
 ·by_cases c2 : IntKind.i64.wrap (pub + W) <= 2
  ·simp only [eG, go_sem, Z3 S, Z2 S, zN0, zN1, zN2, zN3, zN4, zI0, zI1, zI2, zI3, reduceCtorEq, QP S, QE, QR, QQ, w1, w2, r4', QS S, C3, C7, C6, C5, C4, QN, Cw, Int.reduceMul, Int.reduceAdd, Int.toNat_zero, Int.reduceToNat, zI1, zI2, Int.cast_ofNat_Int, false_and, Md.J3, Md.J0, and_true, true_and, and_self, hr, c1, c2]
   rw[<-hK,Z8 (on S _ _ [2,3,4,5,6,7] (by decide) rfl) rfl _ _ _ _ _ _ _ _ _ rfl]
   simp only[eG,go_sem,Z3 S,Z2 S,zN0,zN1,zN2,zN3,zN4,zI0,zI1,zI2,zI3,reduceCtorEq,QP S]
  ·simp only [eG, go_sem, Z3 S, Z2 S, zN0, zN1, zN2, zN3, zN4, zI0, zI1, zI2, zI3, reduceCtorEq, QP S, QE, QR, QQ, w1, w2, r4', QS S, C3, C7, C6, C5, C4, QN, Cw, Int.reduceMul, Int.reduceAdd, Int.toNat_zero, Int.reduceToNat, zI1, zI2, Int.cast_ofNat_Int, false_and, Md.J3, Md.J0, and_true, true_and, and_self, hr, c1, c2]
   rw[<-hK,Z8 (on S _ _ [2,3,4,5,6,7] (by decide) rfl) rfl _ _ _ _ _ _ _ _ _ rfl]
   simp only[eG,go_sem,Z3 S,Z2 S,zN0,zN1,zN2,zN3,zN4,zI0,zI1,zI2,zI3,reduceCtorEq,QP S]
 ·by_cases c3 : r = 2
  ·by_cases c4 : IntKind.i64.wrap (sec + W) <= 2
   ·simp only [eG, go_sem, Z3 S, Z2 S, zN0, zN1, zN2, zN3, zN4, zI0, zI1, zI2, zI3, reduceCtorEq, QP S, QE, QR, QQ, w1, w2, r4', QS S, C3, C7, C6, C5, C4, QN, Cw, Int.reduceMul, Int.reduceAdd, Int.toNat_zero, Int.reduceToNat, zI1, zI2, Int.cast_ofNat_Int, false_and, Md.J3, Md.J0, and_true, true_and, and_self, hr, c1, c3, c4]
    rw[<-hK,Z8 (on S _ _ [2,3,4,5,6,7] (by decide) rfl) rfl _ _ _ _ _ _ _ _ _ rfl]
    simp only[eG,go_sem,Z3 S,Z2 S,zN0,zN1,zN2,zN3,zN4,zI0,zI1,zI2,zI3,reduceCtorEq,QP S]
   ·simp only [eG, go_sem, Z3 S, Z2 S, zN0, zN1, zN2, zN3, zN4, zI0, zI1, zI2, zI3, reduceCtorEq, QP S, QE, QR, QQ, w1, w2, r4', QS S, C3, C7, C6, C5, C4, QN, Cw, Int.reduceMul, Int.reduceAdd, Int.toNat_zero, Int.reduceToNat, zI1, zI2, Int.cast_ofNat_Int, false_and, Md.J3, Md.J0, and_true, true_and, and_self, hr, c1, c3, c4]
    rw[<-hK,Z8 (on S _ _ [2,3,4,5,6,7] (by decide) rfl) rfl _ _ _ _ _ _ _ _ _ rfl]
    simp only[eG,go_sem,Z3 S,Z2 S,zN0,zN1,zN2,zN3,zN4,zI0,zI1,zI2,zI3,reduceCtorEq,QP S]
  ·simp only [eG, go_sem, Z3 S, Z2 S, zN0, zN1, zN2, zN3, zN4, zI0, zI1, zI2, zI3, reduceCtorEq, QP S, QE, QR, QQ, w1, w2, r4', QS S, C3, C7, C6, C5, C4, QN, Cw, Int.reduceMul, Int.reduceAdd, Int.toNat_zero, Int.reduceToNat, zI1, zI2, Int.cast_ofNat_Int, false_and, Md.J3, Md.J0, and_true, true_and, and_self, hr, c1, c3]
   rw[<-hK,Z8 (on S _ _ [2,3,4,5,6,7] (by decide) rfl) rfl _ _ _ _ _ _ _ _ _ rfl]
   simp only[eG,go_sem,Z3 S,Z2 S,zN0,zN1,zN2,zN3,zN4,zI0,zI1,zI2,zI3,reduceCtorEq,QP S]
theorem Zgy (dp:Nat)(l:List Int)(kx:Nat->K)(kr:K)(f:Nat)(W wn pub sec r0 r1 r2 r3 r:Int)(hr:Md.r4.getD (Md.YS (Md.Y0 (Md.kM l 1) 4) 3).toNat 0=r):
  Jj (Zq E 8) (Z4 E fn (dp+1)) (Zj 12 Jj (Zq E 8) (Z4 E fn (dp+1)) kx kr (f+1)) kx kr (mk .bot 171 [(2,.ref 0 0 0),(3,.fn (.func 24) [.ref 1 0 0]),(4,.ref 2 0 0),(5,aI pub),(6,aI sec),(7,aI 2)]) [.cells [zi,zi,zi,zi,zi,zi,zi,zn,zn,zn] 0 false,.cells [.d (rD l)] 0 false,.cells [aI W,aI wn,aI 6,aI r0,aI r1,aI r2,aI r3,zn,zn,zn] 0 false]=
  Jj (Zq E 8) (Z4 E fn (dp+1)) (Zj 12 Jj (Zq E 8) (Z4 E fn (dp+1)) kx kr f) kx kr (mk .bot 171 [(2,.ref 0 0 0),(3,.fn (.func 24) [.ref 1 0 0]),(4,.ref 2 0 0),(5,aI (Md.J3 W pub sec r).2.1),(6,aI (Md.J3 W pub sec r).2.2),(7,aI 3)]) [.cells [zi,zi,zi,zi,zi,zi,zi,zn,zn,zn] 0 false,.cells [.d (rD l)] 0 false,.cells [aI W,aI wn,aI 6,aI r0,aI r1,aI (Md.J3 W pub sec r).1,aI r3,zn,zn,zn] 0 false]:=by
 have w1:∀ z:Int,0<=z->z<100->IntKind.i64.wrap z=z:=fun z h1 h2=>Q4 (by omega) (by omega)
 have w2:∀ z:Int,0<=z->z<100->IntKind.u64.wrap z=z:=fun z h1 h2=>R0 (by omega) (by omega)
 have r4':∀ {α:Type} (l:List α),rep l 4=l++(l++(l++l)):=fun l=>by simp[rep]
 generalize hK:Zj 12 Jj _ _ kx kr (f+1)=KK
 first | (conv=>lhs;rw[Jj]) | rw[Jj]
 by_cases c1:r=1
 ·by_cases c2 : IntKind.i64.wrap (pub + W) <= 2
  ·simp only [eG, go_sem, Z3 S, Z2 S, zN0, zN1, zN2, zN3, zN4, zI0, zI1, zI2, zI3, reduceCtorEq, QP S, QE, QR, QQ, w1, w2, r4', QS S, C3, C7, C6, C5, C4, QN, Cw, Int.reduceMul, Int.reduceAdd, Int.toNat_zero, Int.reduceToNat, zI1, zI2, Int.cast_ofNat_Int, false_and, Md.J3, Md.J0, and_true, true_and, and_self, hr, c1, c2]
   rw[<-hK,Z8 (on S _ _ [2,3,4,5,6,7] (by decide) rfl) rfl _ _ _ _ _ _ _ _ _ rfl]
   simp only[eG,go_sem,Z3 S,Z2 S,zN0,zN1,zN2,zN3,zN4,zI0,zI1,zI2,zI3,reduceCtorEq,QP S]
  ·simp only [eG, go_sem, Z3 S, Z2 S, zN0, zN1, zN2, zN3, zN4, zI0, zI1, zI2, zI3, reduceCtorEq, QP S, QE, QR, QQ, w1, w2, r4', QS S, C3, C7, C6, C5, C4, QN, Cw, Int.reduceMul, Int.reduceAdd, Int.toNat_zero, Int.reduceToNat, zI1, zI2, Int.cast_ofNat_Int, false_and, Md.J3, Md.J0, and_true, true_and, and_self, hr, c1, c2]
   rw[<-hK,Z8 (on S _ _ [2,3,4,5,6,7] (by decide) rfl) rfl _ _ _ _ _ _ _ _ _ rfl]
   simp only[eG,go_sem,Z3 S,Z2 S,zN0,zN1,zN2,zN3,zN4,zI0,zI1,zI2,zI3,reduceCtorEq,QP S]
 ·by_cases c3 : r = 2
  ·by_cases c4 : IntKind.i64.wrap (sec + W) <= 2
   ·simp only [eG, go_sem, Z3 S, Z2 S, zN0, zN1, zN2, zN3, zN4, zI0, zI1, zI2, zI3, reduceCtorEq, QP S, QE, QR, QQ, w1, w2, r4', QS S, C3, C7, C6, C5, C4, QN, Cw, Int.reduceMul, Int.reduceAdd, Int.toNat_zero, Int.reduceToNat, zI1, zI2, Int.cast_ofNat_Int, false_and, Md.J3, Md.J0, and_true, true_and, and_self, hr, c1, c3, c4]
    rw[<-hK,Z8 (on S _ _ [2,3,4,5,6,7] (by decide) rfl) rfl _ _ _ _ _ _ _ _ _ rfl]
    simp only[eG,go_sem,Z3 S,Z2 S,zN0,zN1,zN2,zN3,zN4,zI0,zI1,zI2,zI3,reduceCtorEq,QP S]
   ·simp only [eG, go_sem, Z3 S, Z2 S, zN0, zN1, zN2, zN3, zN4, zI0, zI1, zI2, zI3, reduceCtorEq, QP S, QE, QR, QQ, w1, w2, r4', QS S, C3, C7, C6, C5, C4, QN, Cw, Int.reduceMul, Int.reduceAdd, Int.toNat_zero, Int.reduceToNat, zI1, zI2, Int.cast_ofNat_Int, false_and, Md.J3, Md.J0, and_true, true_and, and_self, hr, c1, c3, c4]
    rw[<-hK,Z8 (on S _ _ [2,3,4,5,6,7] (by decide) rfl) rfl _ _ _ _ _ _ _ _ _ rfl]
    simp only[eG,go_sem,Z3 S,Z2 S,zN0,zN1,zN2,zN3,zN4,zI0,zI1,zI2,zI3,reduceCtorEq,QP S]
  ·simp only [eG, go_sem, Z3 S, Z2 S, zN0, zN1, zN2, zN3, zN4, zI0, zI1, zI2, zI3, reduceCtorEq, QP S, QE, QR, QQ, w1, w2, r4', QS S, C3, C7, C6, C5, C4, QN, Cw, Int.reduceMul, Int.reduceAdd, Int.toNat_zero, Int.reduceToNat, zI1, zI2, Int.cast_ofNat_Int, false_and, Md.J3, Md.J0, and_true, true_and, and_self, hr, c1, c3]
   rw[<-hK,Z8 (on S _ _ [2,3,4,5,6,7] (by decide) rfl) rfl _ _ _ _ _ _ _ _ _ rfl]
   simp only[eG,go_sem,Z3 S,Z2 S,zN0,zN1,zN2,zN3,zN4,zI0,zI1,zI2,zI3,reduceCtorEq,QP S]
theorem Zgx (dp:Nat)(l:List Int)(kx:Nat->K)(kr:K)(f:Nat)(W wn pub sec r0 r1 r2 r3 r:Int)(hr:Md.r4.getD (Md.YS (Md.Y0 (Md.kM l 1) 6) 3).toNat 0=r):
  Jj (Zq E 8) (Z4 E fn (dp+1)) (Zj 12 Jj (Zq E 8) (Z4 E fn (dp+1)) kx kr (f+1)) kx kr (mk .bot 171 [(2,.ref 0 0 0),(3,.fn (.func 24) [.ref 1 0 0]),(4,.ref 2 0 0),(5,aI pub),(6,aI sec),(7,aI 3)]) [.cells [zi,zi,zi,zi,zi,zi,zi,zn,zn,zn] 0 false,.cells [.d (rD l)] 0 false,.cells [aI W,aI wn,aI 6,aI r0,aI r1,aI r2,aI r3,zn,zn,zn] 0 false]=
  Jj (Zq E 8) (Z4 E fn (dp+1)) (Zj 12 Jj (Zq E 8) (Z4 E fn (dp+1)) kx kr f) kx kr (mk .bot 171 [(2,.ref 0 0 0),(3,.fn (.func 24) [.ref 1 0 0]),(4,.ref 2 0 0),(5,aI (Md.J3 W pub sec r).2.1),(6,aI (Md.J3 W pub sec r).2.2),(7,aI 4)]) [.cells [zi,zi,zi,zi,zi,zi,zi,zn,zn,zn] 0 false,.cells [.d (rD l)] 0 false,.cells [aI W,aI wn,aI 6,aI r0,aI r1,aI r2,aI (Md.J3 W pub sec r).1,zn,zn,zn] 0 false]:=by
 have w1:∀ z:Int,0<=z->z<100->IntKind.i64.wrap z=z:=fun z h1 h2=>Q4 (by omega) (by omega)
 have w2:∀ z:Int,0<=z->z<100->IntKind.u64.wrap z=z:=fun z h1 h2=>R0 (by omega) (by omega)
 have r4':∀ {α:Type} (l:List α),rep l 4=l++(l++(l++l)):=fun l=>by simp[rep]
 generalize hK:Zj 12 Jj _ _ kx kr (f+1)=KK
 first | (conv=>lhs;rw[Jj]) | rw[Jj]
 by_cases c1:r=1
 ·by_cases c2 : IntKind.i64.wrap (pub + W) <= 2
  ·simp only [eG, go_sem, Z3 S, Z2 S, zN0, zN1, zN2, zN3, zN4, zI0, zI1, zI2, zI3, reduceCtorEq, QP S, QE, QR, QQ, w1, w2, r4', QS S, C3, C7, C6, C5, C4, QN, Cw, Int.reduceMul, Int.reduceAdd, Int.toNat_zero, Int.reduceToNat, zI1, zI2, Int.cast_ofNat_Int, false_and, Md.J3, Md.J0, and_true, true_and, and_self, hr, c1, c2]
   rw[<-hK,Z8 (on S _ _ [2,3,4,5,6,7] (by decide) rfl) rfl _ _ _ _ _ _ _ _ _ rfl]
   simp only[eG,go_sem,Z3 S,Z2 S,zN0,zN1,zN2,zN3,zN4,zI0,zI1,zI2,zI3,reduceCtorEq,QP S]
  ·simp only [eG, go_sem, Z3 S, Z2 S, zN0, zN1, zN2, zN3, zN4, zI0, zI1, zI2, zI3, reduceCtorEq, QP S, QE, QR, QQ, w1, w2, r4', QS S, C3, C7, C6, C5, C4, QN, Cw, Int.reduceMul, Int.reduceAdd, Int.toNat_zero, Int.reduceToNat, zI1, zI2, Int.cast_ofNat_Int, false_and, Md.J3, Md.J0, and_true, true_and, and_self, hr, c1, c2]
   rw[<-hK,Z8 (on S _ _ [2,3,4,5,6,7] (by decide) rfl) rfl _ _ _ _ _ _ _ _ _ rfl]
   simp only[eG,go_sem,Z3 S,Z2 S,zN0,zN1,zN2,zN3,zN4,zI0,zI1,zI2,zI3,reduceCtorEq,QP S]
 ·by_cases c3 : r = 2
  ·by_cases c4 : IntKind.i64.wrap (sec + W) <= 2
   ·simp only [eG, go_sem, Z3 S, Z2 S, zN0, zN1, zN2, zN3, zN4, zI0, zI1, zI2, zI3, reduceCtorEq, QP S, QE, QR, QQ, w1, w2, r4', QS S, C3, C7, C6, C5, C4, QN, Cw, Int.reduceMul, Int.reduceAdd, Int.toNat_zero, Int.reduceToNat, zI1, zI2, Int.cast_ofNat_Int, false_and, Md.J3, Md.J0, and_true, true_and, and_self, hr, c1, c3, c4]
    rw[<-hK,Z8 (on S _ _ [2,3,4,5,6,7] (by decide) rfl) rfl _ _ _ _ _ _ _ _ _ rfl]
    simp only[eG,go_sem,Z3 S,Z2 S,zN0,zN1,zN2,zN3,zN4,zI0,zI1,zI2,zI3,reduceCtorEq,QP S]
   ·simp only [eG, go_sem, Z3 S, Z2 S, zN0, zN1, zN2, zN3, zN4, zI0, zI1, zI2, zI3, reduceCtorEq, QP S, QE, QR, QQ, w1, w2, r4', QS S, C3, C7, C6, C5, C4, QN, Cw, Int.reduceMul, Int.reduceAdd, Int.toNat_zero, Int.reduceToNat, zI1, zI2, Int.cast_ofNat_Int, false_and, Md.J3, Md.J0, and_true, true_and, and_self, hr, c1, c3, c4]
    rw[<-hK,Z8 (on S _ _ [2,3,4,5,6,7] (by decide) rfl) rfl _ _ _ _ _ _ _ _ _ rfl]
    simp only[eG,go_sem,Z3 S,Z2 S,zN0,zN1,zN2,zN3,zN4,zI0,zI1,zI2,zI3,reduceCtorEq,QP S]
  ·simp only [eG, go_sem, Z3 S, Z2 S, zN0, zN1, zN2, zN3, zN4, zI0, zI1, zI2, zI3, reduceCtorEq, QP S, QE, QR, QQ, w1, w2, r4', QS S, C3, C7, C6, C5, C4, QN, Cw, Int.reduceMul, Int.reduceAdd, Int.toNat_zero, Int.reduceToNat, zI1, zI2, Int.cast_ofNat_Int, false_and, Md.J3, Md.J0, and_true, true_and, and_self, hr, c1, c3]
   rw[<-hK,Z8 (on S _ _ [2,3,4,5,6,7] (by decide) rfl) rfl _ _ _ _ _ _ _ _ _ rfl]
   simp only[eG,go_sem,Z3 S,Z2 S,zN0,zN1,zN2,zN3,zN4,zI0,zI1,zI2,zI3,reduceCtorEq,QP S]
theorem Zoh (dp:Nat)(l:List Int)(kx:Nat->K)(kr:K)(f:Nat)(hf:4<=f)(W wn:Int):
  Jj (Zq E 8) (Z4 E fn (dp+1)) (Zj 12 Jj (Zq E 8) (Z4 E fn (dp+1)) kx kr f) kx kr (mk .bot 171 [(2,.ref 0 0 0),(3,.fn (.func 24) [.ref 1 0 0]),(4,.ref 2 0 0),(5,aI 0),(6,aI 0),(7,aI 0)]) [.cells [zi,zi,zi,zi,zi,zi,zi,zn,zn,zn] 0 false,.cells [.d (rD l)] 0 false,.cells [aI W,aI wn,aI 6,aI 0,aI 0,aI 0,aI 0,zn,zn,zn] 0 false]=
  kx 0 (mk .bot 171 ((24,YD false)::(23,aI 4)::[(2,.ref 0 0 0),(3,.fn (.func 24) [.ref 1 0 0]),(4,.ref 2 0 0),(5,aI (Md.Jk l W).2.1),(6,aI (Md.Jk l W).2.2),(7,aI 4)])) [.cells [zi,zi,zi,zi,zi,zi,zi,zn,zn,zn] 0 false,.cells [.d (rD l)] 0 false,.cells [aI W,aI wn,aI 6,aI (Md.JV l W).1,aI (Md.JU l W).1,aI (Md.JT l W).1,aI (Md.Jk l W).1,zn,zn,zn] 0 false]:=by
 obtain⟨f,rfl⟩:∃ g,f=g+4:=⟨f-4,by omega⟩
 rw[Zh0 S dp l kx kr (f+3) W wn 0 0 0 0 0 0 _ rfl,Zgz S dp l kx kr (f+2) W wn _ _ _ 0 0 0 _ rfl,Zgy S dp l kx kr (f+1) W wn _ _ _ _ 0 0 _ rfl,Zgx S dp l kx kr f W wn _ _ _ _ _ 0 _ rfl]
 generalize Zj 12 Jj _ _ kx kr f=KK
 first | (conv=>lhs;rw[Jj]) | rw[Jj]
 simp only[eG,go_sem,Z3 S,Z2 S,zN0,zN1,zN2,zN3,zN4,zI0,zI1,zI2,zI3,reduceCtorEq,QP S]
 rfl
end
theorem BK (A:List Blk)(s:Nat)(cs:List DV)(k:Option Nat)(h:cs.length=s):Ek A false s (.d (.lst cs 1 k))=some (cs.map .d,1):=by
 show(if cs.length=1*s then some (cs.map AV.d,1) else none)=_
 rw[if_pos (by omega)]
theorem Mq (n:Nat):Qz .add (.d (vt ⟨#[108]⟩)) (.d (vt (RY n)))=some (.d (vt (Md.HH n).name)):=by
 have e:(⟨#[108]⟩:ByteArray)++RY n=(Md.HH n).name:=by
  apply ByteArray.ext
  simp[RY,Md.HH]
 rw[Z42 _ _ (by rw[<-ByteArray.size_append,e];show(2:Nat)<=_;decide),e]
theorem MU:24<=Z5:=by unfold Z5;decide
theorem MT:80<=Z5:=by unfold Z5;decide
theorem l1:1<=Z5:=by unfold Z5;decide
theorem X1 {A:List Blk}{bytes j v:Nat}{out:List Label}{nm:ByteArray}{z:Int}(hA:A[j]? =some (.cells ((rC out).map .d) v false))(h1:(out.length+1)*bytes<=Z5)(h2:out.length+1<=Z5):
  Q7 A 2 bytes (.sref j v 0 out.length 2 none) [.d (vt nm),.d (vi z)] 1=some (.turn j (.cells ((rC (out++[⟨nm,z⟩])).map .d) (v+1) false) (.sref j (v+1) 0 (out.length+1) 2 none)):=
 Sx (x:=(⟨nm,z⟩:Label)) hA rfl (by decide) rfl h1 h2
theorem WZ {A:List Blk}{bytes j v:Nat}{out:List Ins}{k o d an bn tg:Int}{ag bg:Bool}{nm:ByteArray}(hA:A[j]? =some (.cells ((rC out).map .d) v false))(h1:(out.length+1)*bytes<=Z5)(h2:out.length+1<=Z5):
  Q7 A 9 bytes (.sref j v 0 out.length 9 none) [.d (vi k),.d (vi o),.d (vi d),.d (vb ag),.d (vi an),.d (vb bg),.d (vi bn),.d (vt nm),.d (vi tg)] 1=some (.turn j (.cells ((rC (out++[⟨k,o,d,⟨ag,an⟩,⟨bg,bn⟩,nm,tg⟩])).map .d) (v+1) false) (.sref j (v+1) 0 (out.length+1) 9 none)):=
 Sx (x:=(⟨k,o,d,⟨ag,an⟩,⟨bg,bn⟩,nm,tg⟩:Ins)) hA rfl (by decide) rfl h1 h2
variable {E:Env} {fn:FuncId->Option (Env->cT->cT)}
section
variable (S:Sur E fn)
include S
theorem DW:E.lives 8 1=none/\E.lives 8 23=none/\E.lives 8 27=none/\E.lives 8 31=none/\E.lives 8 35=none/\E.lives 8 39=none:=⟨off S 8 1 (by decide) rfl,off S 8 23 (by decide) rfl,off S 8 27 (by decide) rfl,off S 8 31 (by decide) rfl,off S 8 35 (by decide) rfl,off S 8 39 (by decide) rfl⟩
theorem Zps (dp:Nat)(l:List Int)(kx:Nat->K)(kr:K)(f n:Nat)(W wn r0 r1 r2 r3:Int)(hn:n<6):
  QM (Zq E 8) (Z4 E fn (dp+2)) (Zj 44 QM (Zq E 8) (Z4 E fn (dp+2)) kx kr (f+1)) kx kr (mk .bot 171 [(2,.ref 0 0 0),(3,.fn (.func 24) [.ref 1 0 0]),(4,.ref 2 0 0),(8,aI n),(9,aI 0)]) [.cells [zi,zi,zi,zi,zi,zi,zi,zn,zn,zn] 0 false,.cells [.d (rD l)] 0 false,.cells [aI W,aI wn,aI 6,aI r0,aI r1,aI r2,aI r3,zn,zn,zn] 0 false]=
  QM (Zq E 8) (Z4 E fn (dp+2)) (Zj 44 QM (Zq E 8) (Z4 E fn (dp+2)) kx kr f) kx kr (mk .bot 171 [(2,.ref 0 0 0),(3,.fn (.func 24) [.ref 1 0 0]),(4,.ref 2 0 0),(8,aI n),(9,aI 1)]) [.cells [zi,zi,zi,zi,zi,zi,zi,zn,zn,zn] 0 false,.cells [.d (rD l)] 0 false,.cells [aI W,aI wn,aI 6,aI r0,aI r1,aI r2,aI r3,zn,.sref 3 0 0 1 2 none,zn] 0 false,.cells ((rC [Md.HH 0]).map .d) 0 false]:=by
 have w1:∀ z:Int,0<=z->z<100->IntKind.i64.wrap z=z:=fun z h1 h2=>Q4 (by omega) (by omega)
 have hn1:n<1000:=by omega
 have hjn:(0:Int)<=n:=by omega
 generalize hK:Zj 44 QM _ _ kx kr (f+1)=KK
 first | (conv=>lhs;rw[QM]) | rw[QM]
 simp only[eG,go_sem,Z3 S,Z2 S,zN0,zN1,zN2,zN3,zN4,zI0,zI1,zI2,zI3,reduceCtorEq,DW S,QE,QR,QQ,w1,Z9,Nw S,QS S,Nq S,Int.reduceMul,Int.reduceAdd,Int.toNat_zero,Int.reduceToNat,zI1,zI2,Mq,BK,KF,KE,MU,MT,l1,Nat.le_refl,and_true,true_and,and_self,hjn,hn1]
 rw[<-hK,Z8 (on S _ _ [2,3,4,8,9] (by decide) rfl) rfl _ _ _ _ _ _ _ _ _ rfl]
 simp only[eG,go_sem,Z3 S,Z2 S,zN0,zN1,zN2,zN3,zN4,zI0,zI1,zI2,zI3,reduceCtorEq,DW S]
 try rfl
theorem Zn6 (dp:Nat)(l:List Int)(kx:Nat->K)(kr:K)(f n:Nat)(W wn r0 r1 r2 r3:Int)(j:Nat)(ls:List Label)(hj:j<=n)(hn:n<6)(hz:ls.length<100):
  QM (Zq E 8) (Z4 E fn (dp+2)) (Zj 44 QM (Zq E 8) (Z4 E fn (dp+2)) kx kr (f+1)) kx kr (mk .bot 171 [(2,.ref 0 0 0),(3,.fn (.func 24) [.ref 1 0 0]),(4,.ref 2 0 0),(8,aI n),(9,aI j)]) [.cells [zi,zi,zi,zi,zi,zi,zi,zn,zn,zn] 0 false,.cells [.d (rD l)] 0 false,.cells [aI W,aI wn,aI 6,aI r0,aI r1,aI r2,aI r3,zn,.sref 3 0 0 ls.length 2 none,zn] 0 false,.cells ((rC ls).map .d) 0 false]=
  QM (Zq E 8) (Z4 E fn (dp+2)) (Zj 44 QM (Zq E 8) (Z4 E fn (dp+2)) kx kr f) kx kr (mk .bot 171 [(2,.ref 0 0 0),(3,.fn (.func 24) [.ref 1 0 0]),(4,.ref 2 0 0),(8,aI n),(9,aI (j+1))]) [.cells [zi,zi,zi,zi,zi,zi,zi,zn,zn,zn] 0 false,.cells [.d (rD l)] 0 false,.cells [aI W,aI wn,aI 6,aI r0,aI r1,aI r2,aI r3,zn,.sref 3 0 0 (ls.length+1) 2 none,zn] 0 false,.cells ((rC (ls++[Md.HH j])).map .d) 0 false]:=by
 have w1:∀ z:Int,0<=z->z<100->IntKind.i64.wrap z=z:=fun z h1 h2=>Q4 (by omega) (by omega)
 have hn1:n<1000:=by omega
 have h6:(j:Int)<6:=by omega
 have h0:(0:Int)<=j:=by omega
 have h02:(0:Int)<=j+2:=by omega
 have wj1:IntKind.i64.wrap ((j:Int)+1)=(j:Int)+1:=w1 _ (by omega) (by omega)
 have wj2:IntKind.i64.wrap ((j:Int)+2)=(j:Int)+2:=w1 _ (by omega) (by omega)
 have hjn:(j:Int)<=n:=by omega
 have k1:(ls.length+1)*24<=Z5:=by unfold Z5;omega
 have k2:ls.length+1<=Z5:=by unfold Z5;omega
 generalize hK:Zj 44 QM _ _ kx kr (f+1)=KK
 first | (conv=>lhs;rw[QM]) | rw[QM]
 simp only[eG,go_sem,Z3 S,Z2 S,zN0,zN1,zN2,zN3,zN4,zI0,zI1,zI2,zI3,reduceCtorEq,DW S,QE,QR,QQ,w1,Z9,Nw S,QS S,Nq S,Int.reduceMul,Int.reduceAdd,Int.toNat_zero,Int.reduceToNat,zI1,zI2,Mq,BK,KF,KE,MU,MT,l1,Nat.le_refl,and_true,true_and,and_self,h6,h0,h02,wj1,wj2,hjn,k1,k2,hn1,Int.toNat_natCast,X1,WZ]
 rw[<-hK,Z8 (on S _ _ [2,3,4,8,9] (by decide) rfl) rfl _ _ _ _ _ _ _ _ _ rfl]
 simp only[eG,go_sem,Z3 S,Z2 S,zN0,zN1,zN2,zN3,zN4,zI0,zI1,zI2,zI3,reduceCtorEq,DW S]
 try rfl
theorem Zpq (dp:Nat)(l:List Int)(kx:Nat->K)(kr:K)(f n:Nat)(ls:List Label)(W wn r0 r1 r2 r3:Int)(hj:0<n)(hn:n<6):
  QK (Zq E 8) (Z4 E fn (dp+2)) (Zj 52 QK (Zq E 8) (Z4 E fn (dp+2)) kx kr (f+1)) kx kr (mk .bot 171 [(2,.ref 0 0 0),(3,.fn (.func 24) [.ref 1 0 0]),(4,.ref 2 0 0),(8,aI n),(10,aI 0)]) [.cells [zi,zi,zi,zi,zi,zi,zi,zn,zn,zn] 0 false,.cells [.d (rD l)] 0 false,.cells [aI W,aI wn,aI 6,aI r0,aI r1,aI r2,aI r3,zn,.sref 3 0 0 ls.length 2 none,zn] 0 false,.cells ((rC ls).map .d) 0 false]=
  QK (Zq E 8) (Z4 E fn (dp+2)) (Zj 52 QK (Zq E 8) (Z4 E fn (dp+2)) kx kr f) kx kr (mk .bot 171 [(2,.ref 0 0 0),(3,.fn (.func 24) [.ref 1 0 0]),(4,.ref 2 0 0),(8,aI n),(10,aI 1)]) [.cells [zi,zi,zi,zi,zi,zi,zi,zn,zn,zn] 0 false,.cells [.d (rD l)] 0 false,.cells [aI W,aI wn,aI 6,aI r0,aI r1,aI r2,aI r3,zn,.sref 3 0 0 ls.length 2 none,.sref 4 0 0 1 9 none] 0 false,.cells ((rC ls).map .d) 0 false,.cells ((rC [Md.AE (Md.kM l 2) n]).map .d) 0 false]:=by
 have w1:∀ z:Int,0<=z->z<100->IntKind.i64.wrap z=z:=fun z h1 h2=>Q4 (by omega) (by omega)
 have hn1:n<1000:=by omega
 have hjn:(0:Int)<n:=by omega
 generalize hK:Zj 52 QK _ _ kx kr (f+1)=KK
 first | (conv=>lhs;rw[QK]) | rw[QK]
 simp only[eG,go_sem,Z3 S,Z2 S,zN0,zN1,zN2,zN3,zN4,zI0,zI1,zI2,zI3,reduceCtorEq,DW S,QE,QR,QQ,w1,Z9,Nw S,QS S,Nq S,Int.reduceMul,Int.reduceAdd,Int.toNat_zero,Int.reduceToNat,zI1,zI2,Mq,BK,KF,KE,MU,MT,l1,Nat.le_refl,and_true,true_and,and_self,hjn,hn1]
 rw[<-hK,Z8 (on S _ _ [2,3,4,8,10] (by decide) rfl) rfl _ _ _ _ _ _ _ _ _ rfl]
 simp only[eG,go_sem,Z3 S,Z2 S,zN0,zN1,zN2,zN3,zN4,zI0,zI1,zI2,zI3,reduceCtorEq,DW S]
 try rfl
theorem Zn4 (dp:Nat)(l:List Int)(kx:Nat->K)(kr:K)(f n:Nat)(ls:List Label)(W wn r0 r1 r2 r3:Int)(j:Nat)(is:List Ins)(hj:j<n)(hn:n<6)(hz:is.length<100):
  QK (Zq E 8) (Z4 E fn (dp+2)) (Zj 52 QK (Zq E 8) (Z4 E fn (dp+2)) kx kr (f+1)) kx kr (mk .bot 171 [(2,.ref 0 0 0),(3,.fn (.func 24) [.ref 1 0 0]),(4,.ref 2 0 0),(8,aI n),(10,aI j)]) [.cells [zi,zi,zi,zi,zi,zi,zi,zn,zn,zn] 0 false,.cells [.d (rD l)] 0 false,.cells [aI W,aI wn,aI 6,aI r0,aI r1,aI r2,aI r3,zn,.sref 3 0 0 ls.length 2 none,.sref 4 0 0 is.length 9 none] 0 false,.cells ((rC ls).map .d) 0 false,.cells ((rC is).map .d) 0 false]=
  QK (Zq E 8) (Z4 E fn (dp+2)) (Zj 52 QK (Zq E 8) (Z4 E fn (dp+2)) kx kr f) kx kr (mk .bot 171 [(2,.ref 0 0 0),(3,.fn (.func 24) [.ref 1 0 0]),(4,.ref 2 0 0),(8,aI n),(10,aI (j+1))]) [.cells [zi,zi,zi,zi,zi,zi,zi,zn,zn,zn] 0 false,.cells [.d (rD l)] 0 false,.cells [aI W,aI wn,aI 6,aI r0,aI r1,aI r2,aI r3,zn,.sref 3 0 0 ls.length 2 none,.sref 4 0 0 (is.length+1) 9 none] 0 false,.cells ((rC ls).map .d) 0 false,.cells ((rC (is++[Md.AE (Md.kM l (j+2)) n])).map .d) 0 false]:=by
 have w1:∀ z:Int,0<=z->z<100->IntKind.i64.wrap z=z:=fun z h1 h2=>Q4 (by omega) (by omega)
 have hn1:n<1000:=by omega
 have h6:(j:Int)<6:=by omega
 have h0:(0:Int)<=j:=by omega
 have h02:(0:Int)<=j+2:=by omega
 have wj1:IntKind.i64.wrap ((j:Int)+1)=(j:Int)+1:=w1 _ (by omega) (by omega)
 have wj2:IntKind.i64.wrap ((j:Int)+2)=(j:Int)+2:=w1 _ (by omega) (by omega)
 have hjn:(j:Int)<n:=by omega
 have k1:(is.length+1)*80<=Z5:=by unfold Z5;omega
 have k2:is.length+1<=Z5:=by unfold Z5;omega
 generalize hK:Zj 52 QK _ _ kx kr (f+1)=KK
 first | (conv=>lhs;rw[QK]) | rw[QK]
 simp only[eG,go_sem,Z3 S,Z2 S,zN0,zN1,zN2,zN3,zN4,zI0,zI1,zI2,zI3,reduceCtorEq,DW S,QE,QR,QQ,w1,Z9,Nw S,QS S,Nq S,Int.reduceMul,Int.reduceAdd,Int.toNat_zero,Int.reduceToNat,zI1,zI2,Mq,BK,KF,KE,MU,MT,l1,Nat.le_refl,and_true,true_and,and_self,h6,h0,h02,wj1,wj2,hjn,k1,k2,hn1,Int.toNat_natCast,X1,WZ]
 rw[<-hK,Z8 (on S _ _ [2,3,4,8,10] (by decide) rfl) rfl _ _ _ _ _ _ _ _ _ rfl]
 simp only[eG,go_sem,Z3 S,Z2 S,zN0,zN1,zN2,zN3,zN4,zI0,zI1,zI2,zI3,reduceCtorEq,DW S]
 try rfl
theorem Zpr (dp:Nat)(l:List Int)(kx:Nat->K)(kr:K)(f n:Nat)(ms:List MemT)(W wn r0 r1 r2 r3:Int)(hn:n<6):
  QM (Zq E 8) (Z4 E fn (dp+2)) (Zj 44 QM (Zq E 8) (Z4 E fn (dp+2)) kx kr (f+1)) kx kr (mk .bot 171 [(2,.ref 0 0 0),(3,.fn (.func 24) [.ref 1 0 0]),(4,.ref 2 0 0),(8,aI n),(9,aI 0)]) [.cells [zi,zi,zi,zi,zi,zi,zi,zn,zn,zn] 0 false,.cells [.d (rD l)] 0 false,.cells [aI W,aI wn,aI 6,aI r0,aI r1,aI r2,aI r3,.sref 3 0 0 ms.length 3 none,zn,zn] 0 false,.cells ((rC ms).map .d) 0 false]=
  QM (Zq E 8) (Z4 E fn (dp+2)) (Zj 44 QM (Zq E 8) (Z4 E fn (dp+2)) kx kr f) kx kr (mk .bot 171 [(2,.ref 0 0 0),(3,.fn (.func 24) [.ref 1 0 0]),(4,.ref 2 0 0),(8,aI n),(9,aI 1)]) [.cells [zi,zi,zi,zi,zi,zi,zi,zn,zn,zn] 0 false,.cells [.d (rD l)] 0 false,.cells [aI W,aI wn,aI 6,aI r0,aI r1,aI r2,aI r3,.sref 3 0 0 ms.length 3 none,.sref 4 0 0 1 2 none,zn] 0 false,.cells ((rC ms).map .d) 0 false,.cells ((rC [Md.HH 0]).map .d) 0 false]:=by
 have w1:∀ z:Int,0<=z->z<100->IntKind.i64.wrap z=z:=fun z h1 h2=>Q4 (by omega) (by omega)
 have hn1:n<1000:=by omega
 have hjn:(0:Int)<=n:=by omega
 generalize hK:Zj 44 QM _ _ kx kr (f+1)=KK
 first | (conv=>lhs;rw[QM]) | rw[QM]
 simp only[eG,go_sem,Z3 S,Z2 S,zN0,zN1,zN2,zN3,zN4,zI0,zI1,zI2,zI3,reduceCtorEq,DW S,QE,QR,QQ,w1,Z9,Nw S,QS S,Nq S,Int.reduceMul,Int.reduceAdd,Int.toNat_zero,Int.reduceToNat,zI1,zI2,Mq,BK,KF,KE,MU,MT,l1,Nat.le_refl,and_true,true_and,and_self,hjn,hn1]
 rw[<-hK,Z8 (on S _ _ [2,3,4,8,9] (by decide) rfl) rfl _ _ _ _ _ _ _ _ _ rfl]
 simp only[eG,go_sem,Z3 S,Z2 S,zN0,zN1,zN2,zN3,zN4,zI0,zI1,zI2,zI3,reduceCtorEq,DW S]
 try rfl
theorem Zn5 (dp:Nat)(l:List Int)(kx:Nat->K)(kr:K)(f n:Nat)(ms:List MemT)(W wn r0 r1 r2 r3:Int)(j:Nat)(ls:List Label)(hj:j<=n)(hn:n<6)(hz:ls.length<100):
  QM (Zq E 8) (Z4 E fn (dp+2)) (Zj 44 QM (Zq E 8) (Z4 E fn (dp+2)) kx kr (f+1)) kx kr (mk .bot 171 [(2,.ref 0 0 0),(3,.fn (.func 24) [.ref 1 0 0]),(4,.ref 2 0 0),(8,aI n),(9,aI j)]) [.cells [zi,zi,zi,zi,zi,zi,zi,zn,zn,zn] 0 false,.cells [.d (rD l)] 0 false,.cells [aI W,aI wn,aI 6,aI r0,aI r1,aI r2,aI r3,.sref 3 0 0 ms.length 3 none,.sref 4 0 0 ls.length 2 none,zn] 0 false,.cells ((rC ms).map .d) 0 false,.cells ((rC ls).map .d) 0 false]=
  QM (Zq E 8) (Z4 E fn (dp+2)) (Zj 44 QM (Zq E 8) (Z4 E fn (dp+2)) kx kr f) kx kr (mk .bot 171 [(2,.ref 0 0 0),(3,.fn (.func 24) [.ref 1 0 0]),(4,.ref 2 0 0),(8,aI n),(9,aI (j+1))]) [.cells [zi,zi,zi,zi,zi,zi,zi,zn,zn,zn] 0 false,.cells [.d (rD l)] 0 false,.cells [aI W,aI wn,aI 6,aI r0,aI r1,aI r2,aI r3,.sref 3 0 0 ms.length 3 none,.sref 4 0 0 (ls.length+1) 2 none,zn] 0 false,.cells ((rC ms).map .d) 0 false,.cells ((rC (ls++[Md.HH j])).map .d) 0 false]:=by
 have w1:∀ z:Int,0<=z->z<100->IntKind.i64.wrap z=z:=fun z h1 h2=>Q4 (by omega) (by omega)
 have hn1:n<1000:=by omega
 have h6:(j:Int)<6:=by omega
 have h0:(0:Int)<=j:=by omega
 have h02:(0:Int)<=j+2:=by omega
 have wj1:IntKind.i64.wrap ((j:Int)+1)=(j:Int)+1:=w1 _ (by omega) (by omega)
 have wj2:IntKind.i64.wrap ((j:Int)+2)=(j:Int)+2:=w1 _ (by omega) (by omega)
 have hjn:(j:Int)<=n:=by omega
 have k1:(ls.length+1)*24<=Z5:=by unfold Z5;omega
 have k2:ls.length+1<=Z5:=by unfold Z5;omega
 generalize hK:Zj 44 QM _ _ kx kr (f+1)=KK
 first | (conv=>lhs;rw[QM]) | rw[QM]
 simp only[eG,go_sem,Z3 S,Z2 S,zN0,zN1,zN2,zN3,zN4,zI0,zI1,zI2,zI3,reduceCtorEq,DW S,QE,QR,QQ,w1,Z9,Nw S,QS S,Nq S,Int.reduceMul,Int.reduceAdd,Int.toNat_zero,Int.reduceToNat,zI1,zI2,Mq,BK,KF,KE,MU,MT,l1,Nat.le_refl,and_true,true_and,and_self,h6,h0,h02,wj1,wj2,hjn,k1,k2,hn1,Int.toNat_natCast,X1,WZ]
 rw[<-hK,Z8 (on S _ _ [2,3,4,8,9] (by decide) rfl) rfl _ _ _ _ _ _ _ _ _ rfl]
 simp only[eG,go_sem,Z3 S,Z2 S,zN0,zN1,zN2,zN3,zN4,zI0,zI1,zI2,zI3,reduceCtorEq,DW S]
 try rfl
theorem Zpp (dp:Nat)(l:List Int)(kx:Nat->K)(kr:K)(f n:Nat)(ms:List MemT)(ls:List Label)(W wn r0 r1 r2 r3:Int)(hj:0<n)(hn:n<6):
  QK (Zq E 8) (Z4 E fn (dp+2)) (Zj 52 QK (Zq E 8) (Z4 E fn (dp+2)) kx kr (f+1)) kx kr (mk .bot 171 [(2,.ref 0 0 0),(3,.fn (.func 24) [.ref 1 0 0]),(4,.ref 2 0 0),(8,aI n),(10,aI 0)]) [.cells [zi,zi,zi,zi,zi,zi,zi,zn,zn,zn] 0 false,.cells [.d (rD l)] 0 false,.cells [aI W,aI wn,aI 6,aI r0,aI r1,aI r2,aI r3,.sref 3 0 0 ms.length 3 none,.sref 4 0 0 ls.length 2 none,zn] 0 false,.cells ((rC ms).map .d) 0 false,.cells ((rC ls).map .d) 0 false]=
  QK (Zq E 8) (Z4 E fn (dp+2)) (Zj 52 QK (Zq E 8) (Z4 E fn (dp+2)) kx kr f) kx kr (mk .bot 171 [(2,.ref 0 0 0),(3,.fn (.func 24) [.ref 1 0 0]),(4,.ref 2 0 0),(8,aI n),(10,aI 1)]) [.cells [zi,zi,zi,zi,zi,zi,zi,zn,zn,zn] 0 false,.cells [.d (rD l)] 0 false,.cells [aI W,aI wn,aI 6,aI r0,aI r1,aI r2,aI r3,.sref 3 0 0 ms.length 3 none,.sref 4 0 0 ls.length 2 none,.sref 5 0 0 1 9 none] 0 false,.cells ((rC ms).map .d) 0 false,.cells ((rC ls).map .d) 0 false,.cells ((rC [Md.AE (Md.kM l 2) n]).map .d) 0 false]:=by
 have w1:∀ z:Int,0<=z->z<100->IntKind.i64.wrap z=z:=fun z h1 h2=>Q4 (by omega) (by omega)
 have hn1:n<1000:=by omega
 have hjn:(0:Int)<n:=by omega
 generalize hK:Zj 52 QK _ _ kx kr (f+1)=KK
 first | (conv=>lhs;rw[QK]) | rw[QK]
 simp only[eG,go_sem,Z3 S,Z2 S,zN0,zN1,zN2,zN3,zN4,zI0,zI1,zI2,zI3,reduceCtorEq,DW S,QE,QR,QQ,w1,Z9,Nw S,QS S,Nq S,Int.reduceMul,Int.reduceAdd,Int.toNat_zero,Int.reduceToNat,zI1,zI2,Mq,BK,KF,KE,MU,MT,l1,Nat.le_refl,and_true,true_and,and_self,hjn,hn1]
 rw[<-hK,Z8 (on S _ _ [2,3,4,8,10] (by decide) rfl) rfl _ _ _ _ _ _ _ _ _ rfl]
 simp only[eG,go_sem,Z3 S,Z2 S,zN0,zN1,zN2,zN3,zN4,zI0,zI1,zI2,zI3,reduceCtorEq,DW S]
 try rfl
theorem Zn3 (dp:Nat)(l:List Int)(kx:Nat->K)(kr:K)(f n:Nat)(ms:List MemT)(ls:List Label)(W wn r0 r1 r2 r3:Int)(j:Nat)(is:List Ins)(hj:j<n)(hn:n<6)(hz:is.length<100):
  QK (Zq E 8) (Z4 E fn (dp+2)) (Zj 52 QK (Zq E 8) (Z4 E fn (dp+2)) kx kr (f+1)) kx kr (mk .bot 171 [(2,.ref 0 0 0),(3,.fn (.func 24) [.ref 1 0 0]),(4,.ref 2 0 0),(8,aI n),(10,aI j)]) [.cells [zi,zi,zi,zi,zi,zi,zi,zn,zn,zn] 0 false,.cells [.d (rD l)] 0 false,.cells [aI W,aI wn,aI 6,aI r0,aI r1,aI r2,aI r3,.sref 3 0 0 ms.length 3 none,.sref 4 0 0 ls.length 2 none,.sref 5 0 0 is.length 9 none] 0 false,.cells ((rC ms).map .d) 0 false,.cells ((rC ls).map .d) 0 false,.cells ((rC is).map .d) 0 false]=
  QK (Zq E 8) (Z4 E fn (dp+2)) (Zj 52 QK (Zq E 8) (Z4 E fn (dp+2)) kx kr f) kx kr (mk .bot 171 [(2,.ref 0 0 0),(3,.fn (.func 24) [.ref 1 0 0]),(4,.ref 2 0 0),(8,aI n),(10,aI (j+1))]) [.cells [zi,zi,zi,zi,zi,zi,zi,zn,zn,zn] 0 false,.cells [.d (rD l)] 0 false,.cells [aI W,aI wn,aI 6,aI r0,aI r1,aI r2,aI r3,.sref 3 0 0 ms.length 3 none,.sref 4 0 0 ls.length 2 none,.sref 5 0 0 (is.length+1) 9 none] 0 false,.cells ((rC ms).map .d) 0 false,.cells ((rC ls).map .d) 0 false,.cells ((rC (is++[Md.AE (Md.kM l (j+2)) n])).map .d) 0 false]:=by
 have w1:∀ z:Int,0<=z->z<100->IntKind.i64.wrap z=z:=fun z h1 h2=>Q4 (by omega) (by omega)
 have hn1:n<1000:=by omega
 have h6:(j:Int)<6:=by omega
 have h0:(0:Int)<=j:=by omega
 have h02:(0:Int)<=j+2:=by omega
 have wj1:IntKind.i64.wrap ((j:Int)+1)=(j:Int)+1:=w1 _ (by omega) (by omega)
 have wj2:IntKind.i64.wrap ((j:Int)+2)=(j:Int)+2:=w1 _ (by omega) (by omega)
 have hjn:(j:Int)<n:=by omega
 have k1:(is.length+1)*80<=Z5:=by unfold Z5;omega
 have k2:is.length+1<=Z5:=by unfold Z5;omega
 generalize hK:Zj 52 QK _ _ kx kr (f+1)=KK
 first | (conv=>lhs;rw[QK]) | rw[QK]
 simp only[eG,go_sem,Z3 S,Z2 S,zN0,zN1,zN2,zN3,zN4,zI0,zI1,zI2,zI3,reduceCtorEq,DW S,QE,QR,QQ,w1,Z9,Nw S,QS S,Nq S,Int.reduceMul,Int.reduceAdd,Int.toNat_zero,Int.reduceToNat,zI1,zI2,Mq,BK,KF,KE,MU,MT,l1,Nat.le_refl,and_true,true_and,and_self,h6,h0,h02,wj1,wj2,hjn,k1,k2,hn1,Int.toNat_natCast,X1,WZ]
 rw[<-hK,Z8 (on S _ _ [2,3,4,8,10] (by decide) rfl) rfl _ _ _ _ _ _ _ _ _ rfl]
 simp only[eG,go_sem,Z3 S,Z2 S,zN0,zN1,zN2,zN3,zN4,zI0,zI1,zI2,zI3,reduceCtorEq,DW S]
 try rfl
end
end Go.Aug.Mc
