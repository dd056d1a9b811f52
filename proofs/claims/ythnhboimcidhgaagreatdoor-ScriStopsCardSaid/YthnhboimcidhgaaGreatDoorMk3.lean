import Derived.Test.YthnhboimcidhgaaGreatDoorMk
import Derived.Test.YthnhboimcidhgaaGreatDoorMc2
namespace Go.Aug.Mc
open Go Go.Aug
set_option linter.unusedSimpArgs false
theorem Y54 (l:List Int):∀ m ∈ (Md.make l).mems,0<=m.n/\m.n<=16:=by
 intro m hm
 have hm:m ∈ Md.memsM l (Md.widM l):=hm
 have h1:∀ m ∈ Md.mem1 l (Md.widM l),0<=m.n/\m.n<=16:=by
  intro m hm
  unfold Md.mem1 at hm
  split at hm
  ·simp only [List.mem_singleton] at hm
   subst hm
   split<;>simp
  ·simp at hm
 unfold Md.memsM at hm
 split at hm
 ·rcases List.mem_append.1 hm with hm | hm
  ·exact h1 m hm
  ·simp only [List.mem_singleton] at hm
   subst hm;simp
 ·exact h1 m hm
theorem Y55 (l:List Int):(Md.make l).mems.length<1000:=by
 show(Md.memsM l (Md.widM l)).length<1000
 have h1:(Md.mem1 l (Md.widM l)).length<=1:=by unfold Md.mem1;split<;>simp
 unfold Md.memsM
 split
 ·simp;omega
 ·omega
theorem Y56 (l:List Int):(Md.make l).ins.length<1000:=by
 show((List.range (Md.nM l)).map _).length<1000
 obtain⟨r,h1,h2⟩:=Md.iand3 (Md.shi (Md.kM l 0) 12)
 rw[List.length_map,List.length_range]
 unfold Md.nM
 rw[h2,Int.toNat_natCast];omega
theorem Y9x (l:List Int):Md.okW (Md.make l).w=true:=by
 obtain⟨r,h1,h2⟩:=Md.iand1 (Md.kM l 0)
 show Md.okW (Md.iand (Md.kM l 0) 1+1)=true
 rw[h2];exact Md.okW_iff.2 ⟨by omega,by omega⟩
open Nat renaming reduceLT -> zN0, reduceEqDiff -> zN1, reduceAdd -> zN2, reduceMul -> zN3, reduceLeDiff -> zN4
open Int renaming reduceEq -> zI0, reduceLT -> zI1, reduceLE -> zI2, reduceNeg -> zI3
set_option linter.unusedVariables false
set_option maxHeartbeats 40000000
theorem Zux (x:Int)(n:Nat)(h:n<=63):Ji .shr (.d (.v (.int .i64 x))) (.d (.v (.int .u64 (n:Int))))=some (aI (Md.shi x n)):=by
 rw[Y07 _ _ _ _ (Int.natCast_nonneg n),Int.toNat_natCast,Nat.min_eq_left (by show n<=64;omega)];rfl
theorem sh1 (x:Int):Ji .shr (.d (.v (.int .i64 x))) (.d (.v (.int .u64 1)))=some (aI (Md.shi x 1)):=Zux x 1 (by decide)
theorem sh8 (x:Int):Ji .shr (.d (.v (.int .i64 x))) (.d (.v (.int .u64 8)))=some (aI (Md.shi x 8)):=Zux x 8 (by decide)
theorem Zqj (x:Int):Ji .shr (.d (.v (.int .i64 x))) (.d (.v (.int .u64 10)))=some (aI (Md.shi x 10)):=Zux x 10 (by decide)
theorem Y8v (x:Int):Ji .shr (.d (.v (.int .i64 x))) (.d (.v (.int .u64 11)))=some (aI (Md.shi x 11)):=Zux x 11 (by decide)
theorem Zqi (x:Int):Ji .shr (.d (.v (.int .i64 x))) (.d (.v (.int .u64 12)))=some (aI (Md.shi x 12)):=Zux x 12 (by decide)
theorem Y8u (x:Int):Ji .shr (.d (.v (.int .i64 x))) (.d (.v (.int .u64 14)))=some (aI (Md.shi x 14)):=Zux x 14 (by decide)
theorem Y8t (x:Int):Ji .shr (.d (.v (.int .i64 x))) (.d (.v (.int .u64 16)))=some (aI (Md.shi x 16)):=Zux x 16 (by decide)
theorem Y8s (x:Int):Ji .shr (.d (.v (.int .i64 x))) (.d (.v (.int .u64 18)))=some (aI (Md.shi x 18)):=Zux x 18 (by decide)
theorem lm (x:Int)(n:Nat)(h:0<n):Ji .rem (aI (Md.iand x 255)) (aI (n:Int))=some (aI (Md.lowmod x n:Nat)):=by
 rw[Y08 _ _ _ (by omega),Md.lowmod_eq]
theorem Ya6 (x:Int):Ji .rem (aI (Md.iand x 255)) (aI 18)=some (aI (Md.lowmod x 18:Nat)):=lm x 18 (by decide)
theorem Ya7 (x:Int):Ji .rem (aI (Md.iand x 255)) (aI 10)=some (aI (Md.lowmod x 10:Nat)):=lm x 10 (by decide)
theorem lm3 (x:Int):Ji .rem (aI (Md.iand x 255)) (aI 3)=some (aI (Md.lowmod x 3:Nat)):=lm x 3 (by decide)
theorem Zte {l:List Int}{i:Nat}(h:i<l.length)(n:Nat)(hn:n=l.length)(cs:List DV)(hc:cs=rC l):Z93 (.d (.lst cs n (some n))) (aI (i:Int)) 1=some (.d (.vptr (vi (l.getD i 0)::rC (l.drop (i+1))))):=by
 subst hn hc
 have:=Zxf h (s:=1) rfl (some l.length) .i64
 rw[List.getD_eq_getElem?_getD,List.getElem?_eq_getElem h]
 exact this
theorem Ya9 (x:Int):Z93 (.d (.lst [vi 1,vi 1,vi 2,vi 2,vi 2,vi 3,vi 3,vi 4,vi 5,vi 5,vi 5,vi 6,vi 7,vi 8,vi 9,vi 10,vi 11,vi 1] 18 (some 18))) (aI (Md.lowmod x 18:Nat)) 1=some (.d (.vptr (vi (Md.k18.getD (Md.lowmod x 18) 0)::rC (Md.k18.drop (Md.lowmod x 18+1))))):=
 Zte (l:=Md.k18) (Md.lowmod_lt x (by decide)) 18 rfl _ rfl
theorem Ya8 (x:Int):Z93 (.d (.lst [vi 9,vi 10,vi 3,vi 2] 4 (some 4))) (aI (Md.iand x 3)) 1=some (.d (.vptr (vi (Md.o4.getD (Md.iand x 3).toNat 0)::rC (Md.o4.drop ((Md.iand x 3).toNat+1))))):=by
 obtain⟨r,hr,h⟩:=Md.iand3 x
 rw[h,Int.toNat_natCast]
 exact Zte (l:=Md.o4) hr 4 rfl _ rfl
theorem w10 (x:Int):IntKind.i64.wrap ((Md.lowmod x 10:Nat)+1)=(Md.lowmod x 10:Nat)+1:=by
 have:=Md.lowmod_lt x (show 0<10 by decide)
 exact Zt (by omega) (by omega)
theorem lmN (x:Int)(n:Nat):Ji .rem (aI (Md.iand x 255)) (aI ((n:Int)+1))=some (aI (Md.lowmod x (n+1):Nat)):=by
 have:=lm x (n+1) (by omega)
 rw[Int.natCast_add] at this
 exact this
theorem Z97 (ps:List (Opd×Opd))(k:K)(tm:List AV)(A:List Blk):Ztp ps k tm A=bif Z2y tm ps then k tm A else none:=id rfl
theorem Zid (tm:List AV):Z2y tm []=true:=id rfl
theorem Y62 (tm:List AV)(a b:Opd)(l:List (Opd×Opd)):Z2y tm ((a,b)::l)=(Zej (look tm a) (look tm b)&&Z2y tm l):=id rfl
theorem Y61 (i v o j w q:Nat):Zej (.ref i v o) (.ref j w q)= !decide (i=j):=by
 show(!Nat.beq i j)=_
 by_cases h:i=j
 ·subst h
  have:Nat.beq i i=true:=Nat.beq_refl i
  rw[this];simp
 ·have:Nat.beq i j=false:=by
   cases hb:Nat.beq i j with
   | false=>rfl
   | true=>exact absurd (Nat.eq_of_beq_eq_true hb) h
  rw[this,decide_eq_false h]
variable {E:Env} {fn:FuncId->Option (Env->cT->cT)}
section
variable (S:Sur E fn)
include S
theorem Zjw:E.lives 73 7=none:=off S 73 7 (by decide) rfl
theorem Zjx:E.lives 38 7=none:=off S 38 7 (by decide) rfl
theorem Zsn:E.lives 40 13=none/\E.lives 40 17=none/\E.lives 40 19=none/\E.lives 40 21=none/\E.lives 40 25=none/\E.lives 40 29=none/\E.lives 40 31=none/\E.lives 40 35=none:=⟨off S 40 13 (by decide) rfl,off S 40 17 (by decide) rfl,off S 40 19 (by decide) rfl,off S 40 21 (by decide) rfl,off S 40 25 (by decide) rfl,off S 40 29 (by decide) rfl,off S 40 31 (by decide) rfl,off S 40 35 (by decide) rfl⟩
theorem Zqp (dp:Nat)(n:Int):Zk E fn (dp+1) 73 [vi n] (.agg (Cl.cells (Md.valN n))):=by
 unfold Zk
 show Zh (evC E fn (dp+1) 73 [.d (vi n)] [])=_
 rw[Z2,S.Zph,Z3,Zq1,Z6 _ _ _ _ _ _ _ _ rfl]
 by_cases h:Md.iand n 4=0
 ·simp only[eG,go_sem,thq S,nbr S,zN0,zN1,zN2,zN3,zN4,zI0,zI1,zI2,zI3,reduceCtorEq,Zjw S,Yy,h,Md.valN]
 ·simp only[eG,go_sem,thq S,nbr S,zN0,zN1,zN2,zN3,zN4,zI0,zI1,zI2,zI3,reduceCtorEq,Zjw S,Yy,h,Md.valN]
theorem Zwg (dp:Nat)(n:Int)(A:List Blk)(nb:Nat)(us:List Nat):Zb false E (evC E fn (dp+1)) 73 A nb (some ([vi n],us))=some (.made (.d (.agg (Cl.cells (Md.valN n)))) []):=
 Zk.flat (Zqp S dp n ) (np S 73 (by decide)) (rfl) A nb us
theorem Zhe (dp:Nat)(i:Int)(l:List Int)(h0:0<=i):Zk E fn (dp+1) 38 [vi i,.vptr [rD l]] (vi (Md.kM l i)):=by
 unfold Zk
 show Zh (evC E fn (dp+1) 38 [.d (vi i),.d (.vptr [rD l])] [])=_
 rw[Z2,S.Zda,Z3,Ze4,Z6 _ _ _ _ _ _ _ _ rfl]
 by_cases h:i<l.length
 ·obtain ⟨e, he⟩ := Yz (show i.toNat < l.length by omega)
  simp only[eG,go_sem,thq S,nbr S,zN0,zN1,zN2,zN3,zN4,zI0,zI1,zI2,zI3,reduceCtorEq,Zjx S,h,Z7r h0 he,he,Option.getD_some,Md.kM]
 ·simp only[eG,go_sem,thq S,nbr S,zN0,zN1,zN2,zN3,zN4,zI0,zI1,zI2,zI3,reduceCtorEq,Zjx S,h,Md.kM,List.getElem?_eq_none (show l.length<=i.toNat by omega),Option.getD_none]
theorem Ze (dp:Nat)(i:Int)(l:List Int)(h0:0<=i)(A:List Blk)(nb:Nat)(us:List Nat):Zb false E (evC E fn (dp+1)) 38 A nb (some ([vi i,.vptr [rD l]],us))=some (.made (.d (vi (Md.kM l i))) []):=
 Zk.flat (Zhe S dp i l h0) (np S 38 (by decide)) (rfl) A nb us
theorem Zqq (dp:Nat)(x:Int)(n:Nat)(hn:n<1000):Zk E fn (dp+2) 40 [vi x,vi (n:Nat)] (.agg (Cl.cells (Md.insN x n))):=by
 unfold Zk
 show Zh (evC E fn (dp+1+1) 40 [.d (vi x),.d (vi (n:Nat))] [])=_
 rw[Z2,S.Zpi,Z3,Zq2,Z6 _ _ _ _ _ _ _ _ rfl]
 have hw:IntKind.i64.wrap ((n:Int)+1)=(n:Int)+1:=Zt (by omega) (by omega)
 have hi:Md.insN x n=Md.insN x n:=rfl
 unfold Md.insN
 have r18:∀ {α:Type} (l:List α),rep l 18=l++(l++(l++(l++(l++(l++(l++(l++(l++(l++(l++(l++(l++(l++(l++(l++(l++l)))))))))))))))):=fun l=>by simp[rep]
 have r4:∀ {α:Type} (l:List α),rep l 4=l++(l++(l++l)):=fun l=>by simp[rep]
 simp only[eG,go_sem,thq S,nbr S,zN0,zN1,zN2,zN3,zN4,zI0,zI1,zI2,zI3,reduceCtorEq,Zsn S,sh8,Y8v,Y8u,Y8t,Y8s,Yy,Ya6,Ya7,lmN,Ya9,Ya8,hw,w10,Zwg S,r18,r4,Z97,Zid,Y62,Y61,Md.v0]
 generalize Md.k18.getD (Md.lowmod x 18) 0=k
 by_cases k1:k=1
 ·simp only[k1,decide_true,cond_true,if_true]
 by_cases k2:k=2
 ·simp only[k2,decide_true,decide_false,cond_true,cond_false,if_true,if_false,zI0,true_or,or_true]
 by_cases k3:k=3
 ·simp only[k3,decide_true,decide_false,cond_true,cond_false,if_true,if_false,zI0,true_or,or_true]
 by_cases k4:k=4
 ·simp only[k4,decide_true,decide_false,cond_true,cond_false,if_true,if_false,zI0,true_or,or_true,or_false]
 by_cases k5:k=5
 ·simp only[k5,decide_true,decide_false,cond_true,cond_false,if_true,if_false,zI0,true_or,or_true,or_false]
 by_cases k6:k=6
 ·simp only[k6,decide_true,decide_false,cond_true,cond_false,if_true,if_false,zI0,true_or,or_true,or_false]
 by_cases k8:k=8
 ·simp only[k8,decide_true,decide_false,cond_true,cond_false,if_true,if_false,zI0,true_or,or_true,or_false]
 by_cases k7:k=7
 ·simp only[k7,decide_true,decide_false,cond_true,cond_false,if_true,if_false,zI0,true_or,or_true,or_false]
 simp only[k1,k2,k3,k4,k5,k6,k7,k8,decide_false,cond_false,if_false,or_false]
theorem Z40 (dp:Nat)(x:Int)(n:Nat)(hn:n<1000)(A:List Blk)(nb:Nat)(us:List Nat):Zb false E (evC E fn (dp+2)) 40 A nb (some ([vi x,vi (n:Nat)],us))=some (.made (.d (.agg (Cl.cells (Md.insN x n)))) []):=
 Zk.flat (Zqq S dp x n hn) (np S 40 (by decide)) (rfl) A nb us
end
def dig (n:Nat):ByteArray:=⟨#[(48+n).toUInt8]⟩
theorem Y10 (r:Bool)(x:Opd)(E:Env)(call:cT)(tm:List AV)(A:List Blk)(nb:Nat):Zjy r x E call tm A nb=one? (Zl2 A r (look tm x)):=id rfl
theorem Y0q (a b:ByteArray)(h:a.size+b.size<=1099511627776):Ji .add (.d (vt a)) (.d (vt b))=some (.d (vt (a++b))):=by
 show(Zl4 .add a b).map _=_
 simp[Zl4,h]
theorem dg (z:Int):Z36 [z]++(⟨#[]⟩:ByteArray)=⟨#[UInt8.ofNat z.toNat]⟩:=by
 have:(⟨#[]⟩:ByteArray)=ByteArray.empty:=rfl
 rw[this,ByteArray.append_empty]
 rfl
theorem Y45 (z:Int):Ji .add (.d (vt (Z36 [z]))) (.d (vt ⟨#[]⟩))=some (.d (vt ⟨#[UInt8.ofNat z.toNat]⟩)):=by
 rw[Y0q _ _ (by rw[<-ByteArray.size_append,dg];show(1:Nat)<=_;decide),dg]
theorem Y8q (z:UInt8):Ji .eql (.d (vt ⟨#[z]⟩)) (.d (vt ⟨#[]⟩))=some (Q7 false):=by
 simp[Ji,Zl4]
theorem Zcj (E:Env)(call:cT)(kn:K)(kx:Nat->K)(kr:K)(tm:List AV)(A:List Blk):Z2a E call kn kx kr tm A=(cQ (cQ (cOz [st 6 (oV (.t 0)),st 7 (oB .gtr (.t 6) (ci 0)),st 8 (oV (.t 7)),sg 9 8 false (oV (.t 3)),sg 10 8 false (oB .eql (.t 9) (.c (.v (.string ⟨#[]⟩)))),st 11 (Y1 (.t 8) (.c (.v (.bool true))) (.t 10))]) (cJ 1 (.t 11) (cK) (Z14 0))) (Zp 1 (cQ (cOz [st 12 (oV (.t 0)),st 13 (oB .rem (.t 12) (ci 10)),st 14 (oB .add (ci 48) (.t 13)),st 15 (Zcq .u8 (.t 14)),st 16 (Z2g (rep [.d (.v (.int .u8 0))] 1) 1 1 [(0,1,(.t 15))]),st 17 (Zjy false (.t 16)),st 18 (oV (.t 3)),st 19 (oB .add (.t 17) (.t 18)),st 3 (oV (.t 19))]) (cOz [st 20 (oV (.t 0)),st 21 (oB .quo (.t 20) (ci 10)),st 0 (oV (.t 21))])))) E call kn kx kr tm A:=id rfl
variable {E:Env} {fn:FuncId->Option (Env->cT->cT)}
section
variable (S:Sur E fn)
include S
theorem Zso:E.lives 39 1=none/\E.lives 39 7=none:=⟨off S 39 1 (by decide) rfl,off S 39 7 (by decide) rfl⟩
theorem Zhl (dp:Nat)(n:Int)(hn:0<=n/\n<6):Zk E fn (dp+1) 39 [vi n] (vt (dig n.toNat)):=by
 unfold Zk
 show Zh (evC E fn (dp+1) 39 [.d (vi n)] [])=_
 rw[Z2,S.Zdj,Z3,Zed,Z6 _ _ _ _ _ _ _ _ rfl]
 have hloop:∀ kx kr m d T A,Zi 10 Z2a (inn E 39) (evC E fn dp) kx kr (m+1) (mk d 23 T) A=Zyn (Z2a (inn E 39) (evC E fn dp) (Zi 10 Z2a (inn E 39) (evC E fn dp) kx kr m) kx kr) 23 [0,3] d T A (Z0t A 0 100000 ([0,3].flatMap fun t=>Q5 8 (Z01 d T t)) []):=fun kx kr m d T A=>Z1 (on S _ _ [0,3] (by decide) rfl) rfl _ _ _ _ _ _ _ _ _ rfl
 have w1:∀ z:Int,0<=z->z<100->IntKind.i64.wrap z=z:=fun z h1 h2=>Zt (by omega) (by omega)
 have w2:∀ z:Int,0<=z->z<100->IntKind.u8.wrap z=z:=fun z h1 h2=>by simp only[IntKind.wrap,IntKind.signed,IntKind.bits];simp;omega
 have e0:Ji .eql (.d (vt ⟨#[]⟩)) (.d (vt ⟨#[]⟩))=some (Q7 true):=by simp[Ji,Zl4]
 rcases(show n=0∨n=1∨n=2∨n=3∨n=4∨n=5 by omega) with rfl | rfl | rfl | rfl | rfl | rfl
 all_goals simp only[eG,go_sem,thq S,nbr S,Nat.reduceLT,Nat.reduceEqDiff,Nat.reduceAdd,Nat.reduceMul,Nat.reduceLeDiff,Int.reduceEq,Int.reduceLT,Int.reduceLE,Int.reduceNeg,reduceCtorEq,Zso S,hloop,Zcj,ne_eq,not_false_eq_true,e0,gt_iff_lt,Int.reduceTMod,Int.reduceTDiv,Int.reduceMod,Int.reduceAdd,w1,w2,Y10,Zl2,Zcg,cellsAt,List.getElem?_cons_zero,List.take_succ_cons,List.take_zero,List.drop_zero,true_and,Nat.le_refl,and_self,Zae,Y45,Y8q,Zl]
 all_goals rfl
theorem Z11 (dp:Nat)(n:Int)(hn:0<=n/\n<6)(A:List Blk)(nb:Nat)(us:List Nat):Zb false E (evC E fn (dp+1)) 39 A nb (some ([vi n],us))=some (.made (.d (vt (dig n.toNat))) []):=
 Zk.flat (Zhl S dp n hn) (np S 39 (by decide)) (rfl) A nb us
end
theorem sh0 (x:Int):Ji .shr (.d (.v (.int .i64 x))) (.d (.v (.int .u64 0)))=some (aI (Md.shi x 0)):=Zux x 0 (by decide)
theorem sf0 (x:Int):x.fdiv (2^min 0 64)=Md.shi x 0:=by rw[Nat.min_eq_left (by decide)];rfl
theorem sf2 (x:Int):x.fdiv (2^min 2 64)=Md.shi x 2:=by rw[Nat.min_eq_left (by decide)];rfl
theorem sf4 (x:Int):x.fdiv (2^min 4 64)=Md.shi x 4:=by rw[Nat.min_eq_left (by decide)];rfl
theorem sf6 (x:Int):x.fdiv (2^min 6 64)=Md.shi x 6:=by rw[Nat.min_eq_left (by decide)];rfl
theorem Zfp (x:Int):Z93 (.d (.lst [vi 0,vi 0,vi 1,vi 2] 4 (some 4))) (aI (Md.iand x 3)) 1=some (.d (.vptr (vi (Md.r4.getD (Md.iand x 3).toNat 0)::rC (Md.r4.drop ((Md.iand x 3).toNat+1))))):=by
 obtain⟨r,hr,h⟩:=Md.iand3 x
 rw[h,Int.toNat_natCast]
 exact Zte (l:=Md.r4) hr 4 rfl _ rfl
theorem Y0 (E:Env)(l:Nat->Option (List Nat))(m:Nat)(call:cT)(tm:List AV)(A:List Blk)(nb:Nat)(g:FuncId)(args:List Opd)(cap:List AV)(h:Z1b g E.br=false):
  Zzw { br:=E.br,th:=E.th,prim:=E.prim,back:=E.back,lives:=E.lives,live:=l,nb0:=m } call tm A nb args (.fn (.func g) cap)=Zb (Z1b g E.th || Z47 (l (Z8d g))) E call g A nb (fkP (Z2e (deep A 8) (args.map (look tm)++cap))):=
 Zpp E l m call A nb g _ h
def Y8h (A:List Blk)(n i:Nat):Option (List AV)->Option (DV×List Nat)
 | some cs=>(Z2e (deep A n) cs).map fun r=>(.vptr r.1,i::r.2)
 | none=>none
theorem Zu (A:List Blk)(n i v o:Nat):deep A (n+1) (.ref i v o)=Y8h A n i (cellsAt A i v o):=by
 show(match cellsAt A i v o with | some cs=>_ | none=>none)=_
 cases cellsAt A i v o<;>rfl
theorem Zs (A:List Blk)(n i:Nat)(cs:List AV):Y8h A n i (some cs)=(Z2e (deep A n) cs).map fun r=>(.vptr r.1,i::r.2):=id rfl
variable {E:Env} {fn:FuncId->Option (Env->cT->cT)}
section
variable (S:Sur E fn)
include S
theorem Zr:E.lives 13 1=none/\E.lives 13 23=none/\E.lives 13 27=none/\E.lives 13 31=none/\E.lives 13 35=none/\E.lives 13 39=none:=⟨off S 13 1 (by decide) rfl,off S 13 23 (by decide) rfl,off S 13 27 (by decide) rfl,off S 13 31 (by decide) rfl,off S 13 35 (by decide) rfl,off S 13 39 (by decide) rfl⟩
theorem Y0u (dp:Nat)(l:List Int)(kx:Nat->K)(kr:K)(f:Nat)(W wn pub sec r0 r1 r2 r3 r:Int)(hr:Md.r4.getD (Md.iand (Md.shi (Md.kM l 1) 0) 3).toNat 0=r):
  Zm (inn E 13) (evC E fn (dp+1)) (Zi 12 Zm (inn E 13) (evC E fn (dp+1)) kx kr (f+1)) kx kr (mk .bot 171 [(2,.ref 0 0 0),(3,.fn (.func 38) [.ref 1 0 0]),(4,.ref 2 0 0),(5,aI pub),(6,aI sec),(7,aI 0)]) [.cells [zi,zi,zi,zi,zi,zi,zi,zn,zn,zn] 0 false,.cells [.d (rD l)] 0 false,.cells [aI W,aI wn,aI 6,aI r0,aI r1,aI r2,aI r3,zn,zn,zn] 0 false]=
  Zm (inn E 13) (evC E fn (dp+1)) (Zi 12 Zm (inn E 13) (evC E fn (dp+1)) kx kr f) kx kr (mk .bot 171 [(2,.ref 0 0 0),(3,.fn (.func 38) [.ref 1 0 0]),(4,.ref 2 0 0),(5,aI (Md.regStep W pub sec r).2.1),(6,aI (Md.regStep W pub sec r).2.2),(7,aI 1)]) [.cells [zi,zi,zi,zi,zi,zi,zi,zn,zn,zn] 0 false,.cells [.d (rD l)] 0 false,.cells [aI W,aI wn,aI 6,aI (Md.regStep W pub sec r).1,aI r1,aI r2,aI r3,zn,zn,zn] 0 false]:=by
 have w1:∀ z:Int,0<=z->z<100->IntKind.i64.wrap z=z:=fun z h1 h2=>Zt (by omega) (by omega)
 have w2:∀ z:Int,0<=z->z<100->IntKind.u64.wrap z=z:=fun z h1 h2=>Z6r (by omega) (by omega)
 have r4':∀ {α:Type} (l:List α),rep l 4=l++(l++(l++l)):=fun l=>by simp[rep]
 generalize hK:Zi 12 Zm _ _ kx kr (f+1)=KK
 first | (conv=>lhs;rw[Zm]) | rw[Zm]
 by_cases c1:r=1
 ·by_cases c2 : IntKind.i64.wrap (pub + W) <= 2
  ·simp only [eG, go_sem, thq S, nbr S, zN0, zN1, zN2, zN3, zN4, zI0, zI1, zI2, zI3, reduceCtorEq, Zr S, Zu, Zs, Y0, w1, w2, r4', Ze S, sh0, sf0, sf2, sf4, sf6, Yy, Zfp, Int.reduceMul, Int.reduceAdd, Int.toNat_zero, Int.reduceToNat, zI1, zI2, Int.cast_ofNat_Int, false_and, Md.regStep, Md.w64', and_true, true_and, and_self, hr, c1, c2]
   rw[<-hK,Z1 (on S _ _ [2,3,4,5,6,7] (by decide) rfl) rfl _ _ _ _ _ _ _ _ _ rfl]
   simp only[eG,go_sem,thq S,nbr S,zN0,zN1,zN2,zN3,zN4,zI0,zI1,zI2,zI3,reduceCtorEq,Zr S]
  ·simp only [eG, go_sem, thq S, nbr S, zN0, zN1, zN2, zN3, zN4, zI0, zI1, zI2, zI3, reduceCtorEq, Zr S, Zu, Zs, Y0, w1, w2, r4', Ze S, sh0, sf0, sf2, sf4, sf6, Yy, Zfp, Int.reduceMul, Int.reduceAdd, Int.toNat_zero, Int.reduceToNat, zI1, zI2, Int.cast_ofNat_Int, false_and, Md.regStep, Md.w64', and_true, true_and, and_self, hr, c1, c2]
   rw[<-hK,Z1 (on S _ _ [2,3,4,5,6,7] (by decide) rfl) rfl _ _ _ _ _ _ _ _ _ rfl]
   simp only[eG,go_sem,thq S,nbr S,zN0,zN1,zN2,zN3,zN4,zI0,zI1,zI2,zI3,reduceCtorEq,Zr S]
 ·by_cases c3 : r = 2
  ·by_cases c4 : IntKind.i64.wrap (sec + W) <= 2
   ·simp only [eG, go_sem, thq S, nbr S, zN0, zN1, zN2, zN3, zN4, zI0, zI1, zI2, zI3, reduceCtorEq, Zr S, Zu, Zs, Y0, w1, w2, r4', Ze S, sh0, sf0, sf2, sf4, sf6, Yy, Zfp, Int.reduceMul, Int.reduceAdd, Int.toNat_zero, Int.reduceToNat, zI1, zI2, Int.cast_ofNat_Int, false_and, Md.regStep, Md.w64', and_true, true_and, and_self, hr, c1, c3, c4]
    rw[<-hK,Z1 (on S _ _ [2,3,4,5,6,7] (by decide) rfl) rfl _ _ _ _ _ _ _ _ _ rfl]
    simp only[eG,go_sem,thq S,nbr S,zN0,zN1,zN2,zN3,zN4,zI0,zI1,zI2,zI3,reduceCtorEq,Zr S]
   ·simp only [eG, go_sem, thq S, nbr S, zN0, zN1, zN2, zN3, zN4, zI0, zI1, zI2, zI3, reduceCtorEq, Zr S, Zu, Zs, Y0, w1, w2, r4', Ze S, sh0, sf0, sf2, sf4, sf6, Yy, Zfp, Int.reduceMul, Int.reduceAdd, Int.toNat_zero, Int.reduceToNat, zI1, zI2, Int.cast_ofNat_Int, false_and, Md.regStep, Md.w64', and_true, true_and, and_self, hr, c1, c3, c4]
    rw[<-hK,Z1 (on S _ _ [2,3,4,5,6,7] (by decide) rfl) rfl _ _ _ _ _ _ _ _ _ rfl]
    simp only[eG,go_sem,thq S,nbr S,zN0,zN1,zN2,zN3,zN4,zI0,zI1,zI2,zI3,reduceCtorEq,Zr S]
  ·simp only [eG, go_sem, thq S, nbr S, zN0, zN1, zN2, zN3, zN4, zI0, zI1, zI2, zI3, reduceCtorEq, Zr S, Zu, Zs, Y0, w1, w2, r4', Ze S, sh0, sf0, sf2, sf4, sf6, Yy, Zfp, Int.reduceMul, Int.reduceAdd, Int.toNat_zero, Int.reduceToNat, zI1, zI2, Int.cast_ofNat_Int, false_and, Md.regStep, Md.w64', and_true, true_and, and_self, hr, c1, c3]
   rw[<-hK,Z1 (on S _ _ [2,3,4,5,6,7] (by decide) rfl) rfl _ _ _ _ _ _ _ _ _ rfl]
   simp only[eG,go_sem,thq S,nbr S,zN0,zN1,zN2,zN3,zN4,zI0,zI1,zI2,zI3,reduceCtorEq,Zr S]
theorem Y0t (dp:Nat)(l:List Int)(kx:Nat->K)(kr:K)(f:Nat)(W wn pub sec r0 r1 r2 r3 r:Int)(hr:Md.r4.getD (Md.iand (Md.shi (Md.kM l 1) 2) 3).toNat 0=r):
  Zm (inn E 13) (evC E fn (dp+1)) (Zi 12 Zm (inn E 13) (evC E fn (dp+1)) kx kr (f+1)) kx kr (mk .bot 171 [(2,.ref 0 0 0),(3,.fn (.func 38) [.ref 1 0 0]),(4,.ref 2 0 0),(5,aI pub),(6,aI sec),(7,aI 1)]) [.cells [zi,zi,zi,zi,zi,zi,zi,zn,zn,zn] 0 false,.cells [.d (rD l)] 0 false,.cells [aI W,aI wn,aI 6,aI r0,aI r1,aI r2,aI r3,zn,zn,zn] 0 false]=
  Zm (inn E 13) (evC E fn (dp+1)) (Zi 12 Zm (inn E 13) (evC E fn (dp+1)) kx kr f) kx kr (mk .bot 171 [(2,.ref 0 0 0),(3,.fn (.func 38) [.ref 1 0 0]),(4,.ref 2 0 0),(5,aI (Md.regStep W pub sec r).2.1),(6,aI (Md.regStep W pub sec r).2.2),(7,aI 2)]) [.cells [zi,zi,zi,zi,zi,zi,zi,zn,zn,zn] 0 false,.cells [.d (rD l)] 0 false,.cells [aI W,aI wn,aI 6,aI r0,aI (Md.regStep W pub sec r).1,aI r2,aI r3,zn,zn,zn] 0 false]:=by
 have w1:∀ z:Int,0<=z->z<100->IntKind.i64.wrap z=z:=fun z h1 h2=>Zt (by omega) (by omega)
 have w2:∀ z:Int,0<=z->z<100->IntKind.u64.wrap z=z:=fun z h1 h2=>Z6r (by omega) (by omega)
 have r4':∀ {α:Type} (l:List α),rep l 4=l++(l++(l++l)):=fun l=>by simp[rep]
 generalize hK:Zi 12 Zm _ _ kx kr (f+1)=KK
 first | (conv=>lhs;rw[Zm]) | rw[Zm]
 by_cases c1:r=1
 ·by_cases c2 : IntKind.i64.wrap (pub + W) <= 2
  ·simp only [eG, go_sem, thq S, nbr S, zN0, zN1, zN2, zN3, zN4, zI0, zI1, zI2, zI3, reduceCtorEq, Zr S, Zu, Zs, Y0, w1, w2, r4', Ze S, sh0, sf0, sf2, sf4, sf6, Yy, Zfp, Int.reduceMul, Int.reduceAdd, Int.toNat_zero, Int.reduceToNat, zI1, zI2, Int.cast_ofNat_Int, false_and, Md.regStep, Md.w64', and_true, true_and, and_self, hr, c1, c2]
   rw[<-hK,Z1 (on S _ _ [2,3,4,5,6,7] (by decide) rfl) rfl _ _ _ _ _ _ _ _ _ rfl]
   simp only[eG,go_sem,thq S,nbr S,zN0,zN1,zN2,zN3,zN4,zI0,zI1,zI2,zI3,reduceCtorEq,Zr S]
  ·simp only [eG, go_sem, thq S, nbr S, zN0, zN1, zN2, zN3, zN4, zI0, zI1, zI2, zI3, reduceCtorEq, Zr S, Zu, Zs, Y0, w1, w2, r4', Ze S, sh0, sf0, sf2, sf4, sf6, Yy, Zfp, Int.reduceMul, Int.reduceAdd, Int.toNat_zero, Int.reduceToNat, zI1, zI2, Int.cast_ofNat_Int, false_and, Md.regStep, Md.w64', and_true, true_and, and_self, hr, c1, c2]
   rw[<-hK,Z1 (on S _ _ [2,3,4,5,6,7] (by decide) rfl) rfl _ _ _ _ _ _ _ _ _ rfl]
   simp only[eG,go_sem,thq S,nbr S,zN0,zN1,zN2,zN3,zN4,zI0,zI1,zI2,zI3,reduceCtorEq,Zr S]
 ·by_cases c3 : r = 2
  ·by_cases c4 : IntKind.i64.wrap (sec + W) <= 2
   ·simp only [eG, go_sem, thq S, nbr S, zN0, zN1, zN2, zN3, zN4, zI0, zI1, zI2, zI3, reduceCtorEq, Zr S, Zu, Zs, Y0, w1, w2, r4', Ze S, sh0, sf0, sf2, sf4, sf6, Yy, Zfp, Int.reduceMul, Int.reduceAdd, Int.toNat_zero, Int.reduceToNat, zI1, zI2, Int.cast_ofNat_Int, false_and, Md.regStep, Md.w64', and_true, true_and, and_self, hr, c1, c3, c4]
    rw[<-hK,Z1 (on S _ _ [2,3,4,5,6,7] (by decide) rfl) rfl _ _ _ _ _ _ _ _ _ rfl]
    simp only[eG,go_sem,thq S,nbr S,zN0,zN1,zN2,zN3,zN4,zI0,zI1,zI2,zI3,reduceCtorEq,Zr S]
   ·simp only [eG, go_sem, thq S, nbr S, zN0, zN1, zN2, zN3, zN4, zI0, zI1, zI2, zI3, reduceCtorEq, Zr S, Zu, Zs, Y0, w1, w2, r4', Ze S, sh0, sf0, sf2, sf4, sf6, Yy, Zfp, Int.reduceMul, Int.reduceAdd, Int.toNat_zero, Int.reduceToNat, zI1, zI2, Int.cast_ofNat_Int, false_and, Md.regStep, Md.w64', and_true, true_and, and_self, hr, c1, c3, c4]
    rw[<-hK,Z1 (on S _ _ [2,3,4,5,6,7] (by decide) rfl) rfl _ _ _ _ _ _ _ _ _ rfl]
    simp only[eG,go_sem,thq S,nbr S,zN0,zN1,zN2,zN3,zN4,zI0,zI1,zI2,zI3,reduceCtorEq,Zr S]
  ·simp only [eG, go_sem, thq S, nbr S, zN0, zN1, zN2, zN3, zN4, zI0, zI1, zI2, zI3, reduceCtorEq, Zr S, Zu, Zs, Y0, w1, w2, r4', Ze S, sh0, sf0, sf2, sf4, sf6, Yy, Zfp, Int.reduceMul, Int.reduceAdd, Int.toNat_zero, Int.reduceToNat, zI1, zI2, Int.cast_ofNat_Int, false_and, Md.regStep, Md.w64', and_true, true_and, and_self, hr, c1, c3]
   rw[<-hK,Z1 (on S _ _ [2,3,4,5,6,7] (by decide) rfl) rfl _ _ _ _ _ _ _ _ _ rfl]
   simp only[eG,go_sem,thq S,nbr S,zN0,zN1,zN2,zN3,zN4,zI0,zI1,zI2,zI3,reduceCtorEq,Zr S]
theorem Y0s (dp:Nat)(l:List Int)(kx:Nat->K)(kr:K)(f:Nat)(W wn pub sec r0 r1 r2 r3 r:Int)(hr:Md.r4.getD (Md.iand (Md.shi (Md.kM l 1) 4) 3).toNat 0=r):
  Zm (inn E 13) (evC E fn (dp+1)) (Zi 12 Zm (inn E 13) (evC E fn (dp+1)) kx kr (f+1)) kx kr (mk .bot 171 [(2,.ref 0 0 0),(3,.fn (.func 38) [.ref 1 0 0]),(4,.ref 2 0 0),(5,aI pub),(6,aI sec),(7,aI 2)]) [.cells [zi,zi,zi,zi,zi,zi,zi,zn,zn,zn] 0 false,.cells [.d (rD l)] 0 false,.cells [aI W,aI wn,aI 6,aI r0,aI r1,aI r2,aI r3,zn,zn,zn] 0 false]=
  Zm (inn E 13) (evC E fn (dp+1)) (Zi 12 Zm (inn E 13) (evC E fn (dp+1)) kx kr f) kx kr (mk .bot 171 [(2,.ref 0 0 0),(3,.fn (.func 38) [.ref 1 0 0]),(4,.ref 2 0 0),(5,aI (Md.regStep W pub sec r).2.1),(6,aI (Md.regStep W pub sec r).2.2),(7,aI 3)]) [.cells [zi,zi,zi,zi,zi,zi,zi,zn,zn,zn] 0 false,.cells [.d (rD l)] 0 false,.cells [aI W,aI wn,aI 6,aI r0,aI r1,aI (Md.regStep W pub sec r).1,aI r3,zn,zn,zn] 0 false]:=by
 have w1:∀ z:Int,0<=z->z<100->IntKind.i64.wrap z=z:=fun z h1 h2=>Zt (by omega) (by omega)
 have w2:∀ z:Int,0<=z->z<100->IntKind.u64.wrap z=z:=fun z h1 h2=>Z6r (by omega) (by omega)
 have r4':∀ {α:Type} (l:List α),rep l 4=l++(l++(l++l)):=fun l=>by simp[rep]
 generalize hK:Zi 12 Zm _ _ kx kr (f+1)=KK
 first | (conv=>lhs;rw[Zm]) | rw[Zm]
 by_cases c1:r=1
 ·by_cases c2 : IntKind.i64.wrap (pub + W) <= 2
  ·simp only [eG, go_sem, thq S, nbr S, zN0, zN1, zN2, zN3, zN4, zI0, zI1, zI2, zI3, reduceCtorEq, Zr S, Zu, Zs, Y0, w1, w2, r4', Ze S, sh0, sf0, sf2, sf4, sf6, Yy, Zfp, Int.reduceMul, Int.reduceAdd, Int.toNat_zero, Int.reduceToNat, zI1, zI2, Int.cast_ofNat_Int, false_and, Md.regStep, Md.w64', and_true, true_and, and_self, hr, c1, c2]
   rw[<-hK,Z1 (on S _ _ [2,3,4,5,6,7] (by decide) rfl) rfl _ _ _ _ _ _ _ _ _ rfl]
   simp only[eG,go_sem,thq S,nbr S,zN0,zN1,zN2,zN3,zN4,zI0,zI1,zI2,zI3,reduceCtorEq,Zr S]
  ·simp only [eG, go_sem, thq S, nbr S, zN0, zN1, zN2, zN3, zN4, zI0, zI1, zI2, zI3, reduceCtorEq, Zr S, Zu, Zs, Y0, w1, w2, r4', Ze S, sh0, sf0, sf2, sf4, sf6, Yy, Zfp, Int.reduceMul, Int.reduceAdd, Int.toNat_zero, Int.reduceToNat, zI1, zI2, Int.cast_ofNat_Int, false_and, Md.regStep, Md.w64', and_true, true_and, and_self, hr, c1, c2]
   rw[<-hK,Z1 (on S _ _ [2,3,4,5,6,7] (by decide) rfl) rfl _ _ _ _ _ _ _ _ _ rfl]
   simp only[eG,go_sem,thq S,nbr S,zN0,zN1,zN2,zN3,zN4,zI0,zI1,zI2,zI3,reduceCtorEq,Zr S]
 ·by_cases c3 : r = 2
  ·by_cases c4 : IntKind.i64.wrap (sec + W) <= 2
   ·simp only [eG, go_sem, thq S, nbr S, zN0, zN1, zN2, zN3, zN4, zI0, zI1, zI2, zI3, reduceCtorEq, Zr S, Zu, Zs, Y0, w1, w2, r4', Ze S, sh0, sf0, sf2, sf4, sf6, Yy, Zfp, Int.reduceMul, Int.reduceAdd, Int.toNat_zero, Int.reduceToNat, zI1, zI2, Int.cast_ofNat_Int, false_and, Md.regStep, Md.w64', and_true, true_and, and_self, hr, c1, c3, c4]
    rw[<-hK,Z1 (on S _ _ [2,3,4,5,6,7] (by decide) rfl) rfl _ _ _ _ _ _ _ _ _ rfl]
    simp only[eG,go_sem,thq S,nbr S,zN0,zN1,zN2,zN3,zN4,zI0,zI1,zI2,zI3,reduceCtorEq,Zr S]
   ·simp only [eG, go_sem, thq S, nbr S, zN0, zN1, zN2, zN3, zN4, zI0, zI1, zI2, zI3, reduceCtorEq, Zr S, Zu, Zs, Y0, w1, w2, r4', Ze S, sh0, sf0, sf2, sf4, sf6, Yy, Zfp, Int.reduceMul, Int.reduceAdd, Int.toNat_zero, Int.reduceToNat, zI1, zI2, Int.cast_ofNat_Int, false_and, Md.regStep, Md.w64', and_true, true_and, and_self, hr, c1, c3, c4]
    rw[<-hK,Z1 (on S _ _ [2,3,4,5,6,7] (by decide) rfl) rfl _ _ _ _ _ _ _ _ _ rfl]
    simp only[eG,go_sem,thq S,nbr S,zN0,zN1,zN2,zN3,zN4,zI0,zI1,zI2,zI3,reduceCtorEq,Zr S]
  ·simp only [eG, go_sem, thq S, nbr S, zN0, zN1, zN2, zN3, zN4, zI0, zI1, zI2, zI3, reduceCtorEq, Zr S, Zu, Zs, Y0, w1, w2, r4', Ze S, sh0, sf0, sf2, sf4, sf6, Yy, Zfp, Int.reduceMul, Int.reduceAdd, Int.toNat_zero, Int.reduceToNat, zI1, zI2, Int.cast_ofNat_Int, false_and, Md.regStep, Md.w64', and_true, true_and, and_self, hr, c1, c3]
   rw[<-hK,Z1 (on S _ _ [2,3,4,5,6,7] (by decide) rfl) rfl _ _ _ _ _ _ _ _ _ rfl]
   simp only[eG,go_sem,thq S,nbr S,zN0,zN1,zN2,zN3,zN4,zI0,zI1,zI2,zI3,reduceCtorEq,Zr S]
theorem Y0r (dp:Nat)(l:List Int)(kx:Nat->K)(kr:K)(f:Nat)(W wn pub sec r0 r1 r2 r3 r:Int)(hr:Md.r4.getD (Md.iand (Md.shi (Md.kM l 1) 6) 3).toNat 0=r):
  Zm (inn E 13) (evC E fn (dp+1)) (Zi 12 Zm (inn E 13) (evC E fn (dp+1)) kx kr (f+1)) kx kr (mk .bot 171 [(2,.ref 0 0 0),(3,.fn (.func 38) [.ref 1 0 0]),(4,.ref 2 0 0),(5,aI pub),(6,aI sec),(7,aI 3)]) [.cells [zi,zi,zi,zi,zi,zi,zi,zn,zn,zn] 0 false,.cells [.d (rD l)] 0 false,.cells [aI W,aI wn,aI 6,aI r0,aI r1,aI r2,aI r3,zn,zn,zn] 0 false]=
  Zm (inn E 13) (evC E fn (dp+1)) (Zi 12 Zm (inn E 13) (evC E fn (dp+1)) kx kr f) kx kr (mk .bot 171 [(2,.ref 0 0 0),(3,.fn (.func 38) [.ref 1 0 0]),(4,.ref 2 0 0),(5,aI (Md.regStep W pub sec r).2.1),(6,aI (Md.regStep W pub sec r).2.2),(7,aI 4)]) [.cells [zi,zi,zi,zi,zi,zi,zi,zn,zn,zn] 0 false,.cells [.d (rD l)] 0 false,.cells [aI W,aI wn,aI 6,aI r0,aI r1,aI r2,aI (Md.regStep W pub sec r).1,zn,zn,zn] 0 false]:=by
 have w1:∀ z:Int,0<=z->z<100->IntKind.i64.wrap z=z:=fun z h1 h2=>Zt (by omega) (by omega)
 have w2:∀ z:Int,0<=z->z<100->IntKind.u64.wrap z=z:=fun z h1 h2=>Z6r (by omega) (by omega)
 have r4':∀ {α:Type} (l:List α),rep l 4=l++(l++(l++l)):=fun l=>by simp[rep]
 generalize hK:Zi 12 Zm _ _ kx kr (f+1)=KK
 first | (conv=>lhs;rw[Zm]) | rw[Zm]
 by_cases c1:r=1
 ·by_cases c2 : IntKind.i64.wrap (pub + W) <= 2
  ·simp only [eG, go_sem, thq S, nbr S, zN0, zN1, zN2, zN3, zN4, zI0, zI1, zI2, zI3, reduceCtorEq, Zr S, Zu, Zs, Y0, w1, w2, r4', Ze S, sh0, sf0, sf2, sf4, sf6, Yy, Zfp, Int.reduceMul, Int.reduceAdd, Int.toNat_zero, Int.reduceToNat, zI1, zI2, Int.cast_ofNat_Int, false_and, Md.regStep, Md.w64', and_true, true_and, and_self, hr, c1, c2]
   rw[<-hK,Z1 (on S _ _ [2,3,4,5,6,7] (by decide) rfl) rfl _ _ _ _ _ _ _ _ _ rfl]
   simp only[eG,go_sem,thq S,nbr S,zN0,zN1,zN2,zN3,zN4,zI0,zI1,zI2,zI3,reduceCtorEq,Zr S]
  ·simp only [eG, go_sem, thq S, nbr S, zN0, zN1, zN2, zN3, zN4, zI0, zI1, zI2, zI3, reduceCtorEq, Zr S, Zu, Zs, Y0, w1, w2, r4', Ze S, sh0, sf0, sf2, sf4, sf6, Yy, Zfp, Int.reduceMul, Int.reduceAdd, Int.toNat_zero, Int.reduceToNat, zI1, zI2, Int.cast_ofNat_Int, false_and, Md.regStep, Md.w64', and_true, true_and, and_self, hr, c1, c2]
   rw[<-hK,Z1 (on S _ _ [2,3,4,5,6,7] (by decide) rfl) rfl _ _ _ _ _ _ _ _ _ rfl]
   simp only[eG,go_sem,thq S,nbr S,zN0,zN1,zN2,zN3,zN4,zI0,zI1,zI2,zI3,reduceCtorEq,Zr S]
 ·by_cases c3 : r = 2
  ·by_cases c4 : IntKind.i64.wrap (sec + W) <= 2
   ·simp only [eG, go_sem, thq S, nbr S, zN0, zN1, zN2, zN3, zN4, zI0, zI1, zI2, zI3, reduceCtorEq, Zr S, Zu, Zs, Y0, w1, w2, r4', Ze S, sh0, sf0, sf2, sf4, sf6, Yy, Zfp, Int.reduceMul, Int.reduceAdd, Int.toNat_zero, Int.reduceToNat, zI1, zI2, Int.cast_ofNat_Int, false_and, Md.regStep, Md.w64', and_true, true_and, and_self, hr, c1, c3, c4]
    rw[<-hK,Z1 (on S _ _ [2,3,4,5,6,7] (by decide) rfl) rfl _ _ _ _ _ _ _ _ _ rfl]
    simp only[eG,go_sem,thq S,nbr S,zN0,zN1,zN2,zN3,zN4,zI0,zI1,zI2,zI3,reduceCtorEq,Zr S]
   ·simp only [eG, go_sem, thq S, nbr S, zN0, zN1, zN2, zN3, zN4, zI0, zI1, zI2, zI3, reduceCtorEq, Zr S, Zu, Zs, Y0, w1, w2, r4', Ze S, sh0, sf0, sf2, sf4, sf6, Yy, Zfp, Int.reduceMul, Int.reduceAdd, Int.toNat_zero, Int.reduceToNat, zI1, zI2, Int.cast_ofNat_Int, false_and, Md.regStep, Md.w64', and_true, true_and, and_self, hr, c1, c3, c4]
    rw[<-hK,Z1 (on S _ _ [2,3,4,5,6,7] (by decide) rfl) rfl _ _ _ _ _ _ _ _ _ rfl]
    simp only[eG,go_sem,thq S,nbr S,zN0,zN1,zN2,zN3,zN4,zI0,zI1,zI2,zI3,reduceCtorEq,Zr S]
  ·simp only [eG, go_sem, thq S, nbr S, zN0, zN1, zN2, zN3, zN4, zI0, zI1, zI2, zI3, reduceCtorEq, Zr S, Zu, Zs, Y0, w1, w2, r4', Ze S, sh0, sf0, sf2, sf4, sf6, Yy, Zfp, Int.reduceMul, Int.reduceAdd, Int.toNat_zero, Int.reduceToNat, zI1, zI2, Int.cast_ofNat_Int, false_and, Md.regStep, Md.w64', and_true, true_and, and_self, hr, c1, c3]
   rw[<-hK,Z1 (on S _ _ [2,3,4,5,6,7] (by decide) rfl) rfl _ _ _ _ _ _ _ _ _ rfl]
   simp only[eG,go_sem,thq S,nbr S,zN0,zN1,zN2,zN3,zN4,zI0,zI1,zI2,zI3,reduceCtorEq,Zr S]
theorem Y1m (dp:Nat)(l:List Int)(kx:Nat->K)(kr:K)(f:Nat)(hf:4<=f)(W wn:Int):
  Zm (inn E 13) (evC E fn (dp+1)) (Zi 12 Zm (inn E 13) (evC E fn (dp+1)) kx kr f) kx kr (mk .bot 171 [(2,.ref 0 0 0),(3,.fn (.func 38) [.ref 1 0 0]),(4,.ref 2 0 0),(5,aI 0),(6,aI 0),(7,aI 0)]) [.cells [zi,zi,zi,zi,zi,zi,zi,zn,zn,zn] 0 false,.cells [.d (rD l)] 0 false,.cells [aI W,aI wn,aI 6,aI 0,aI 0,aI 0,aI 0,zn,zn,zn] 0 false]=
  kx 0 (mk .bot 171 ((24,Q7 false)::(23,aI 4)::[(2,.ref 0 0 0),(3,.fn (.func 38) [.ref 1 0 0]),(4,.ref 2 0 0),(5,aI (Md.reg3 l W).2.1),(6,aI (Md.reg3 l W).2.2),(7,aI 4)])) [.cells [zi,zi,zi,zi,zi,zi,zi,zn,zn,zn] 0 false,.cells [.d (rD l)] 0 false,.cells [aI W,aI wn,aI 6,aI (Md.reg0 l W).1,aI (Md.reg1 l W).1,aI (Md.reg2 l W).1,aI (Md.reg3 l W).1,zn,zn,zn] 0 false]:=by
 obtain⟨f,rfl⟩:∃ g,f=g+4:=⟨f-4,by omega⟩
 rw[Y0u S dp l kx kr (f+3) W wn 0 0 0 0 0 0 _ rfl,Y0t S dp l kx kr (f+2) W wn _ _ _ 0 0 0 _ rfl,Y0s S dp l kx kr (f+1) W wn _ _ _ _ 0 0 _ rfl,Y0r S dp l kx kr f W wn _ _ _ _ _ 0 _ rfl]
 generalize Zi 12 Zm _ _ kx kr f=KK
 first | (conv=>lhs;rw[Zm]) | rw[Zm]
 simp only[eG,go_sem,thq S,nbr S,zN0,zN1,zN2,zN3,zN4,zI0,zI1,zI2,zI3,reduceCtorEq,Zr S]
 rfl
end
end Go.Aug.Mc
