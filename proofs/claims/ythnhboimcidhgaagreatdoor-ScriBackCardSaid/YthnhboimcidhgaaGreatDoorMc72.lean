import Derived.Test.YthnhboimcidhgaaGreatDoorMc36
import Derived.Test.YthnhboimcidhgaaGreatDoorMk2
import Derived.Test.YthnhboimcidhgaaGreatDoorMk6
import Derived.Test.YthnhboimcidhgaaGreatDoorEvPc
import Derived.Test.YthnhboimcidhgaaGreatDoorMl
import Derived.Test.YthnhboimcidhgaaGreatDoorBr
import Derived.Test.YthnhboimcidhgaaGreatDoorMc37
namespace Go.Aug.Mc
open Go Go.Aug
set_option linter.unusedSimpArgs false
set_option linter.unusedVariables false
set_option maxHeartbeats 40000000
set_option maxRecDepth 200000
theorem Z43 (n:Int):((Md.Hz n).reg=true->0<=(Md.Hz n).n/\(Md.Hz n).n<=3):=by
 obtain⟨r,h1,h2⟩:=Md.N6 n
 intro _
 unfold Md.Hz
 split<;>(simp only[h2];omega)
theorem Zp3:∀ k<18,1<=Md.N2.getD k 0/\Md.N2.getD k 0<=11:=by decide
theorem Zpg (x:Int)(n:Nat):1<=(Md.A7 x n).kind/\(Md.A7 x n).kind<=12/\0<=(Md.A7 x n).d/\(Md.A7 x n).d<=3/\0<=(Md.A7 x n).target/\(Md.A7 x n).target<=n/\((Md.A7 x n).a.reg=true->0<=(Md.A7 x n).a.n/\(Md.A7 x n).a.n<=3)/\((Md.A7 x n).b.reg=true->0<=(Md.A7 x n).b.n/\(Md.A7 x n).b.n<=3):=by
 obtain⟨d,d1,d2⟩:=Md.N6 (Md.ZZ x 14)
 have ht:=Md.RW (Md.ZZ x 18) (show 0<n+1 by omega)
 have hk:=Zp3 _ (Md.RW x (show 0<18 by decide))
 have ha:=Z43 (Md.ZZ x 8)
 have hb:=Z43 (Md.ZZ x 11)
 have h0:(Md.v0).reg=true->0<=(Md.v0).n/\(Md.v0).n<=3:=fun h=>by cases h
 unfold Md.A7
 simp only
 generalize Md.N2.getD (Md.YR x 18) 0=k at hk
 rw[d2]
 split
 ·exact⟨(by show(1:Int)<=1;decide),(by show(1:Int)<=12;decide),by show(0:Int)<=d;omega,by show(d:Int)<=3;omega,Int.le_refl _,by show(0:Int)<=n;omega,ha,hb⟩
 split
 ·exact⟨hk.1,by show k<=12;omega,by show(0:Int)<=d;omega,by show(d:Int)<=3;omega,Int.le_refl _,by show(0:Int)<=n;omega,ha,hb⟩
 split
 ·exact⟨(by show(1:Int)<=5;decide),(by show(5:Int)<=12;decide),Int.le_refl _,(by show(0:Int)<=3;decide),by show(0:Int)<=(Md.YR (Md.ZZ x 18) (n+1):Nat);omega,by show((Md.YR (Md.ZZ x 18) (n+1):Nat):Int)<=n;omega,ha,hb⟩
 split
 ·exact⟨hk.1,by show k<=12;omega,Int.le_refl _,(by show(0:Int)<=3;decide),by show(0:Int)<=(Md.YR (Md.ZZ x 18) (n+1):Nat);omega,by show((Md.YR (Md.ZZ x 18) (n+1):Nat):Int)<=n;omega,h0,h0⟩
 split
 ·exact⟨(by show(1:Int)<=7;decide),(by show(7:Int)<=12;decide),Int.le_refl _,(by show(0:Int)<=3;decide),Int.le_refl _,by show(0:Int)<=n;omega,ha,h0⟩
 ·exact⟨hk.1,by show k<=12;omega,Int.le_refl _,(by show(0:Int)<=3;decide),Int.le_refl _,by show(0:Int)<=n;omega,h0,h0⟩
theorem Zo0 (l:List Int):Md.Fine (Md.make l):=by
 have hn:=Znz l
 have hl3:=Md.RW (Md.ZZ (Md.kM l 0) 1) (show 0<3 by decide)
 have hlen:(Md.make l).ins.length=Md.nM l:=by show((List.range (Md.nM l)).map _).length=_;rw[List.length_map,List.length_range]
 refine⟨Znv l,⟨?_,?_⟩,by omega,fun x hx=> ?_⟩
 ·show(1:Int)<=(Md.YR (Md.ZZ (Md.kM l 0) 1) 3:Nat)+1;omega
 ·show((Md.YR (Md.ZZ (Md.kM l 0) 1) 3:Nat):Int)+1<=3;omega
 ·have hx : x ∈ (List.range (Md.nM l)).map fun i : Nat => Md.A7 (Md.kM l (i + 2)) (Md.nM l) := hx
  obtain⟨i,_,rfl⟩:=List.mem_map.1 hx
  have:=Zpg (Md.kM l (i+2)) (Md.nM l)
  rw[hlen]
  exact this
theorem Zo1 (l:List Int):Zz (Md.make l).mems<=1000:=by
 have h:=(NA (Md.make l).mems).2
 have h2:(Md.make l).mems.length<=2:=by
  show(Md.J2 l (Md.Zk l)).length<=2
  have h1:(Md.Bk l (Md.Zk l)).length<=1:=by unfold Md.Bk;split<;>simp
  unfold Md.J2
  split
  ·rw[List.length_append,List.length_singleton];omega
  ·omega
 omega
theorem SOk.inv {N:Int}{p:Prog}(hp:Md.Fine p){s:State}(h:SOk N s):Md.Inv N p (Md.BS s):=Md.Inv.begin hp h.mem h.mv h.rg h.stk h.pc
end Go.Aug.Mc
namespace Go.Aug
open Go
set_option linter.unusedSimpArgs false
section
variable {α:Type} [Cl α] [Cl1 α]
theorem Zta {A:List Blk}{s bytes j v:Nat}{out l2:List α}(hA:A[j]? =some (.cells ((rC out).map .d) v false))(hs:s=Cl.n α)(hp:0<Cl.n α)(h0:l2.length≠0)(h1:(out.length+l2.length)*bytes<=Z5)(h2:out.length+l2.length<=Z5):
  YU A s bytes (.sref j v 0 out.length s none) ((rC l2).map .d) l2.length=some (.turn j (.cells ((rC (out++l2)).map .d) (v+1) false) (.sref j (v+1) 0 (out.length+l2.length) s none)):=by
 subst hs
 have e:(rC (out++l2)).map AV.d=(rC out).map .d++(rC l2).map .d:=by rw[Kq,List.map_append]
 obtain⟨m,hm⟩:∃ m,l2.length=m+1:=⟨l2.length-1,by omega⟩
 rw[S3,if_neg h0,if_neg (by rw[G5];simp;exact⟨by omega,by omega⟩),hA,e]
 have hl:((rC out).map AV.d).length=out.length*Cl.n α:=by rw[List.length_map,J4]
 have hlt:¬0+(out.length+l2.length)*Cl.n α<=((rC out).map AV.d).length:=by
  rw[hl,hm,Nat.add_mul,Nat.add_mul];omega
 simp only[ne_eq,not_true_eq_false,false_or]
 rw[if_neg (by omega),if_neg (by simp),if_neg hlt]
 exact if_pos ⟨trivial,hl.symm⟩
end
end Go.Aug
namespace Go.Aug
open Go
set_option linter.unusedSimpArgs false
section
variable {α:Type} [Cl α] [Cl1 α]
end
end Go.Aug
namespace Go.Aug.Mc
open Go Go.Aug
open Nat renaming reduceLT -> zN0, reduceEqDiff -> zN1, reduceAdd -> zN2, reduceMul -> zN3, reduceLeDiff -> zN4
open Int renaming reduceEq -> zI0, reduceLT -> zI1, reduceLE -> zI2, reduceNeg -> zI3
set_option linter.unusedSimpArgs false
set_option linter.unusedVariables false
set_option maxHeartbeats 40000000
set_option maxRecDepth 200000
theorem Ztb {A:List Blk}{bytes j v:Nat}{out l:List Int}{new:List AV}{n:Nat}(hA:A[j]? =some (.cells ((rC out).map .d) v false))(hn:new=(rC l).map .d)(hl:n=l.length)(h0:n≠0)(h1:(out.length+n)*bytes<=Z5)(h2:out.length+n<=Z5):
  YU A 1 bytes (.sref j v 0 out.length 1 none) new n=some (.turn j (.cells ((rC (out++l)).map .d) (v+1) false) (.sref j (v+1) 0 (out.length+n) 1 none)):=by
 subst hn hl
 have e:(rC (out++l)).map AV.d=(rC out).map .d++(rC l).map .d:=by rw[Kq,List.map_append]
 rw[S3,if_neg h0,if_neg (by rw[G5];simp;exact⟨by omega,by omega⟩),hA,e]
 have hl:((rC out).map AV.d).length=out.length*1:=by rw[List.length_map,J4];rfl
 have:¬0+(out.length+l.length)*1<=((rC out).map AV.d).length:=by rw[hl];omega
 simp only[ne_eq,not_true_eq_false,false_or]
 rw[if_neg (by omega),if_neg (by simp),if_neg this]
 exact if_pos ⟨trivial,hl.symm⟩
theorem FG (A:List Blk)(x:DV)(k:Option Nat):E9 A false 1 (.d (.lst [x] 1 k))=some ([.d x],1):=rfl
theorem SC {A:List Blk}{bytes j v:Nat}{out:List Int}{n:Int}{len:Nat}(hl:len=out.length)(hA:A[j]? =some (.cells ((rC out).map .d) v false))(h1:(len+1)*bytes<=Z5)(h2:len+1<=Z5):
  YU A 1 bytes (.sref j v 0 len 1 none) [aI n] 1=some (.turn j (.cells ((rC (out++[n])).map .d) (v+1) false) (.sref j (v+1) 0 (len+1) 1 none)):=by
 subst hl;exact BU hA h1 h2
theorem Z3g {A:List Blk}{bytes j v:Nat}{out l:List Int}{len:Nat}(hl:len=out.length)(hA:A[j]? =some (.cells ((rC out).map .d) v false))(h0:l.length≠0)(h1:(len+l.length)*bytes<=Z5)(h2:len+l.length<=Z5):
  YU A 1 bytes (.sref j v 0 len 1 none) ((rC l).map .d) l.length=some (.turn j (.cells ((rC (out++l)).map .d) (v+1) false) (.sref j (v+1) 0 (len+l.length) 1 none)):=by
 subst hl;exact Ztb hA rfl rfl h0 h1 h2
theorem Zdt {A:List Blk}{bytes:Nat}{out l:List Int}{len:Nat}(hl:len=out.length)(h0:l.length≠0)(h1:(len+l.length)*bytes<=Z5)(h2:len+l.length<=Z5):
  YU A 1 bytes (.d (.lst (rC out) len (some len))) ((rC l).map .d) l.length=some (.fresh ((rC (out++l)).map .d) (len+l.length)):=by
 subst hl
 have e:(rC (out++l)).map AV.d=(rC out).map .d++(rC l).map .d:=by rw[Kq,List.map_append]
 unfold YU
 rw[if_neg h0,e]
 exact if_pos ⟨by omega,by rw[J4];rfl,h1,h2⟩
def Gx (s:State):List Int:=[s.regs.r0,s.regs.r1,s.regs.r2,s.regs.r3,s.mem.length]++s.mem++[(s.stack.length:Int)]++s.stack++[s.pc]
theorem Vk {α:Type}(l:List α):rep l 5=l++(l++(l++(l++l))):=by simp[rep]
variable {E:Env} {fn:FuncId->Option (Env->cT->cT)}
section
variable (S:Sur E fn)
include S
theorem Pq:E.lives 48 1=none:=off S 48 1 (by decide) rfl
theorem Zmq (dp:Nat)(r0 r1 r2 r3:Int)(mm sk:List Int)(pc:Int)(hm:mm.length<1073741824)(hs:sk.length<1073741824):
  Z4 E fn (dp+1) 92 [.d (.agg [vi r0,vi r1,vi r2,vi r3,rD mm,rD sk,vi pc])] []=some (.sref 0 0 0 (Gx ⟨⟨r0,r1,r2,r3⟩,mm,sk,pc⟩).length 1 none,[.cells ((rC (Gx ⟨⟨r0,r1,r2,r3⟩,mm,sk,pc⟩)).map .d) 0 false]):=by
 rw[ZD,S.Zal,ZG,Zfy,ZC _ _ _ _ _ _ _ _ rfl]
 generalize h1:[r0,r1,r2,r3,(mm.length:Int)]=O1
 generalize h2:O1++mm=O2
 generalize h3:O2++[(sk.length:Int)]=O3
 generalize h4:O3++sk=O4
 have l1:O1.length=5:=by rw[<-h1];rfl
 have l2:O2.length=5+mm.length:=by rw[<-h2,List.length_append,l1]
 have l3:O3.length=5+mm.length+1:=by rw[<-h3,List.length_append,l2];rfl
 have l4:O4.length=5+mm.length+1+sk.length:=by rw[<-h4,List.length_append,l3]
 have hi:Gx ⟨⟨r0,r1,r2,r3⟩,mm,sk,pc⟩=O4++[pc]:=by rw[<-h4,<-h3,<-h2,<-h1];rfl
 have l5:(O4++[pc]).length=5+mm.length+1+sk.length+1:=by rw[List.length_append,l4];rfl
 have lim:Z5=1099511627776:=rfl
 rw[hi,l5]
 have a5:∀(A:List Blk) (j v:Nat),A[j]? =some (.cells ((rC O4).map .d) v false)->YU A 1 8 (.sref j v 0 (5+mm.length+1+sk.length) 1 none) [aI pc] 1=some (.turn j (.cells ((rC (O4++[pc])).map .d) (v+1) false) (.sref j (v+1) 0 (5+mm.length+1+sk.length+1) 1 none)):=fun A j v hA=>SC l4.symm hA (by omega) (by omega)
 have as2:mm.length=0->∀(A:List Blk) (cs:List DV) (len:Nat) (k:Option Nat) (new:List AV),YU A 1 8 (.d (.lst cs len k)) new mm.length=some .same:=fun h A cs len k new=>by rw[h];exact Zt9 A 1 8 len cs k new
 have b2:mm.length≠0->∀ A:List Blk,YU A 1 8 (.d (.lst [vi r0,vi r1,vi r2,vi r3,vi mm.length] 5 (some 5))) ((rC mm).map .d) mm.length=some (.fresh ((rC O2).map .d) (5+mm.length)):=fun h A=>by
  rw[<-h2]
  have:=Zdt (A:=A) (bytes:=8) (out:=O1) (l:=mm) l1.symm h (by omega) (by omega)
  rw[<-h1] at this ⊢
  exact this
 have b3:mm.length=0->∀ A:List Blk,YU A 1 8 (.d (.lst [vi r0,vi r1,vi r2,vi r3,vi mm.length] 5 (some 5))) [aI sk.length] 1=some (.fresh ((rC O3).map .d) (5+mm.length+1)):=fun h A=>by
  have e1:mm=[]:=List.length_eq_zero_iff.1 h
  have q:O3=O1++[(sk.length:Int)]:=by rw[<-h3,<-h2,e1,List.append_nil]
  rw[q]
  have:=Zdt (A:=A) (bytes:=8) (out:=O1) (l:=[(sk.length:Int)]) l1.symm (by simp) (by simp;omega) (by simp;omega)
  rw[show 5+mm.length+1=5+[(sk.length:Int)].length by rw[h];rfl]
  rw[<-h1] at this ⊢
  exact this
 have a3:∀(A:List Blk) (j v:Nat),A[j]? =some (.cells ((rC O2).map .d) v false)->YU A 1 8 (.sref j v 0 (5+mm.length) 1 none) [aI sk.length] 1=some (.turn j (.cells ((rC O3).map .d) (v+1) false) (.sref j (v+1) 0 (5+mm.length+1) 1 none)):=fun A j v hA=>by
  rw[<-h3];exact SC l2.symm hA (by omega) (by omega)
 have s4:sk.length=0->∀(A:List Blk) (i v o len sz:Nat) (k:Option Nat) (new:List AV),YU A 1 8 (.sref i v o len sz k) new sk.length=some .same:=fun h A i v o len sz k new=>by rw[h];exact UA A 1 8 i v o len sz k new
 have a4:sk.length≠0->∀(A:List Blk) (j v:Nat),A[j]? =some (.cells ((rC O3).map .d) v false)->YU A 1 8 (.sref j v 0 (5+mm.length+1) 1 none) ((rC sk).map .d) sk.length=some (.turn j (.cells ((rC O4).map .d) (v+1) false) (.sref j (v+1) 0 (5+mm.length+1+sk.length) 1 none)):=fun h A j v hA=>by
  rw[<-h4];exact Z3g l3.symm hA h (by omega) (by omega)
 have a5':sk.length=0->∀(A:List Blk) (j v:Nat),A[j]? =some (.cells ((rC O3).map .d) v false)->YU A 1 8 (.sref j v 0 (5+mm.length+1) 1 none) [aI pc] 1=some (.turn j (.cells ((rC (O4++[pc])).map .d) (v+1) false) (.sref j (v+1) 0 (5+mm.length+1+sk.length+1) 1 none)):=fun h A j v hA=>by
  have e2:sk=[]:=List.length_eq_zero_iff.1 h
  have q:O4=O3:=by rw[<-h4,e2,List.append_nil]
  rw[q,h];exact SC l3.symm hA (by omega) (by omega)
 by_cases m0:mm.length=0<;>by_cases s0:sk.length=0
 ·simp only[eG,go_sem,Z3 S,Z2 S,zN0,zN1,zN2,zN3,zN4,zI0,zI1,zI2,zI3,reduceCtorEq,Int.cast_ofNat_Int,Int.reduceToNat,Int.toNat_zero,true_and,if_true,Nat.zero_add,Nat.add_zero,Vk,Zq,ZH,ZJ,ZE,ZF,Option.map_some,FG,as2 m0,b3 m0,s4 s0,a5' s0]
 ·simp only[eG,go_sem,Z3 S,Z2 S,zN0,zN1,zN2,zN3,zN4,zI0,zI1,zI2,zI3,reduceCtorEq,Int.cast_ofNat_Int,Int.reduceToNat,Int.toNat_zero,true_and,if_true,Nat.zero_add,Nat.add_zero,Vk,Zq,ZH,ZJ,ZE,ZF,Option.map_some,FG,as2 m0,b3 m0,a4 s0,a5]
 ·simp only[eG,go_sem,Z3 S,Z2 S,zN0,zN1,zN2,zN3,zN4,zI0,zI1,zI2,zI3,reduceCtorEq,Int.cast_ofNat_Int,Int.reduceToNat,Int.toNat_zero,true_and,if_true,Nat.zero_add,Nat.add_zero,Vk,Zq,ZH,ZJ,ZE,ZF,Option.map_some,FG,b2 m0,a3,s4 s0,a5' s0]
 ·simp only[eG,go_sem,Z3 S,Z2 S,zN0,zN1,zN2,zN3,zN4,zI0,zI1,zI2,zI3,reduceCtorEq,Int.cast_ofNat_Int,Int.reduceToNat,Int.toNat_zero,true_and,if_true,Nat.zero_add,Nat.add_zero,Vk,Zq,ZH,ZJ,ZE,ZF,Option.map_some,FG,b2 m0,a3,a4 s0,a5]
theorem Zn8 (dp:Nat)(r0 r1 r2 r3:Int)(mm sk:List Int)(pc:Int)(hm:mm.length<1073741824)(hs:sk.length<1073741824)(A:List Blk)(nb:Nat):
  Zv true E (Z4 E fn (dp+1)) 92 A nb (some ([.agg [vi r0,vi r1,vi r2,vi r3,rD mm,rD sk,vi pc]],[]))=some (.made (.sref nb 0 0 (Gx ⟨⟨r0,r1,r2,r3⟩,mm,sk,pc⟩).length 1 none) [.cells ((rC (Gx ⟨⟨r0,r1,r2,r3⟩,mm,sk,pc⟩)).map .d) 0 false]):=by
 have h:=Zmq S dp r0 r1 r2 r3 mm sk pc hm hs
 have hr:Jk E (Z4 E fn (dp+1)) 92 [.agg [vi r0,vi r1,vi r2,vi r3,rD mm,rD sk,vi pc]]=some (.sref 0 0 0 (Gx ⟨⟨r0,r1,r2,r3⟩,mm,sk,pc⟩).length 1 none,[.cells ((rC (Gx ⟨⟨r0,r1,r2,r3⟩,mm,sk,pc⟩)).map .d) 0 false]):=by
  unfold Jk
  rw[np S 92 (by decide)]
  exact h
 simp only[Zv,hr,F5,cond_true]
 simp[B4,E3,Bq,Y8]
end
def K0 (e:Ent):List Int:=[e.pc,e.val,e.addr,e.frm,e.next,Md.EN e.done,Md.EN e.known,Md.EN e.fault]
def Gq (c:Conf):List Int:=Gx c.state++[(c.buf.length:Int)]++c.buf.flatMap K0++[(c.rsb.length:Int)]++c.rsb++[c.end_]
theorem Zig {α:Type}(l:List α):rep l 8=l++(l++(l++(l++(l++(l++(l++l)))))):=by simp[rep]
theorem Zns (A:List Blk)(a b c d e f g h:DV)(k:Option Nat):E9 A false 1 (.d (.lst [a,b,c,d,e,f,g,h] 8 k))=some ([.d a,.d b,.d c,.d d,.d e,.d f,.d g,.d h],8):=rfl
theorem Ztf {A:List Blk}{j v len:Nat}{out:List Int}(a b c d e f g h:Int)(hl:len=out.length)(hA:A[j]? =some (.cells ((rC out).map .d) v false))(h1:(len+8)*8<=Z5)(h2:len+8<=Z5):
  YU A 1 8 (.sref j v 0 len 1 none) [aI a,aI b,aI c,aI d,aI e,aI f,aI g,aI h] 8=some (.turn j (.cells ((rC (out++[a,b,c,d,e,f,g,h])).map .d) (v+1) false) (.sref j (v+1) 0 (len+8) 1 none)):=
 Z3g (l:=[a,b,c,d,e,f,g,h]) hl hA (by simp) h1 h2
section
variable (S:Sur E fn)
include S
theorem Zon (dp:Nat)(c:Conf)(hb:c.buf.length<1073741824)(kx:Nat->K)(D:DV)(R:List Int)
  (hx:∀ T,ZX .bot T 1=.ref 0 0 0->ZX .bot T 3=.sref 1 0 0 R.length 1 none->Z7 (kx 0 (mk .bot 64 T) [.cells ((Jq c).map .d) 0 false,.cells ((rC R).map .d) 0 false])=some D):
  ∀(m k f:Nat) (o:List Int),k+m=c.buf.length->m<=f->o.length+8*m<17179869184->o++(c.buf.drop k).flatMap K0=R->
  Z7 (Mz (Zj E 48) (Z4 E fn (dp+1)) (Z9 10 Mz (Zj E 48) (Z4 E fn (dp+1)) kx (ZY 0 [.tmp 2]) f) kx (ZY 0 [.tmp 2]) (mk .bot 64 [(1,.ref 0 0 0),(3,.sref 1 0 0 o.length 1 none),(4,aI k)]) [.cells ((Jq c).map .d) 0 false,.cells ((rC o).map .d) 0 false])=some D:=by
 intro m
 induction m with
 | zero=>
  intro k f o hk _ _ hr
  rw[List.drop_of_length_le (by omega)] at hr
  have hr:o=R:=by simpa using hr
  subst hr
  generalize Z9 10 Mz _ _ kx _ f=KK
  first | (conv=>lhs;rw[Mz]) | rw[Mz]
  simp only[eG,go_sem,Z3 S,Z2 S,zN0,zN1,zN2,zN3,zN4,zI0,zI1,zI2,zI3,reduceCtorEq,Pq S,show ¬(k:Int)<c.buf.length by omega]
  exact hx _ rfl rfl
 | succ m ih=>
  intro k f o hk hf ho hr
  obtain⟨e,he⟩:=YK (show k<c.buf.length by omega)
  obtain⟨f,rfl⟩:∃ g,f=g+1:=⟨f-1,by omega⟩
  have hkg:(k:Int)<c.buf.length:=by omega
  have hr':(o++K0 e)++(c.buf.drop (k+1)).flatMap K0=R:=by
   rw[<-hr,Aj he,List.flatMap_cons,List.append_assoc]
  have hle:(o++K0 e).length=o.length+8:=by rw[List.length_append];rfl
  have:=ih (k+1) f (o++K0 e) (by omega) (by omega) (by rw[hle];omega) hr'
  rw[hle] at this
  have k1:(o.length+8)*8<=Z5:=by unfold Z5;omega
  have k2:o.length+8<=Z5:=by unfold Z5;omega
  have ap:∀(A:List Blk) (j v:Nat) (t1 t2 t3:Int),A[j]? =some (.cells ((rC o).map .d) v false)->YU A 1 8 (.sref j v 0 o.length 1 none) [aI e.pc,aI e.val,aI e.addr,aI e.frm,aI e.next,aI t1,aI t2,aI t3] 8=some (.turn j (.cells ((rC (o++[e.pc,e.val,e.addr,e.frm,e.next,t1,t2,t3])).map .d) (v+1) false) (.sref j (v+1) 0 (o.length+8) 1 none)):=fun A j v t1 t2 t3 hA=>Ztf _ _ _ _ _ _ _ _ rfl hA k1 k2
  generalize hK:Z9 10 Mz _ _ kx _ (f+1)=KK
  first | (conv=>lhs;rw[Mz]) | rw[Mz]
  simp only[eG,go_sem,Z3 S,Z2 S,zN0,zN1,zN2,zN3,zN4,zI0,zI1,zI2,zI3,reduceCtorEq,Pq S,Zig,Zns,ZH,ZJ,ZE,ZF,Option.map_some,hkg,Zx he,wi k (by omega),Zsa S,ap]
  rw[<-hK,Z8 (on S _ _ [1,3,4] (by decide) rfl) rfl _ _ _ _ _ _ _ _ _ rfl]
  simp only[eG,go_sem,Z3 S,Z2 S,zN0,zN1,zN2,zN3,zN4,zI0,zI1,zI2,zI3,reduceCtorEq,Pq S]
  exact this
theorem Zk4 (dp:Nat)(c:Conf)(hm:c.state.mem.length<1073741824)(hs:c.state.stack.length<1073741824)(hb:c.buf.length<1073741824)(hr:c.rsb.length<1073741824):Z6 E fn (dp+2) 48 [ZS c] (rD (Gq c)):=by
 unfold Z6
 show Z7 (Z4 E fn (dp+1+1) 48 [.d (ZS c)] [])=_
 rw[ZD,S.Za4,ZG,Zfh,ZC _ _ _ _ _ _ _ _ rfl]
 generalize h1:Gx c.state=O1
 generalize h2:O1++[(c.buf.length:Int)]=O2
 generalize h3:O2++c.buf.flatMap K0=O3
 generalize h4:O3++[(c.rsb.length:Int)]=O4
 generalize h5:O4++c.rsb=O5
 have hi:Gq c=O5++[c.end_]:=by rw[<-h5,<-h4,<-h3,<-h2,<-h1];rfl
 have l1:O1.length<2147483656:=by rw[<-h1];unfold Gx;simp;omega
 have l2:O2.length=O1.length+1:=by rw[<-h2,List.length_append];rfl
 have hfl:∀ l:List Ent,(l.flatMap K0).length=8*l.length:=by
  intro l
  induction l with
  | nil=>rfl
  | cons e l ih=>rw[List.flatMap_cons,List.length_append,ih,List.length_cons];show 8+_=_;omega
 have l3:O3.length=O2.length+8*c.buf.length:=by rw[<-h3,List.length_append,hfl]
 have l4:O4.length=O3.length+1:=by rw[<-h4,List.length_append];rfl
 have l5:O5.length=O4.length+c.rsb.length:=by rw[<-h5,List.length_append]
 have lim:Z5=1099511627776:=rfl
 have a2:∀(A:List Blk) (j v:Nat),A[j]? =some (.cells ((rC O1).map .d) v false)->YU A 1 8 (.sref j v 0 O1.length 1 none) [aI c.buf.length] 1=some (.turn j (.cells ((rC O2).map .d) (v+1) false) (.sref j (v+1) 0 (O1.length+1) 1 none)):=fun A j v hA=>by
  rw[<-h2];exact SC rfl hA (by omega) (by omega)
 have a4:∀(A:List Blk) (j v:Nat),A[j]? =some (.cells ((rC O3).map .d) v false)->YU A 1 8 (.sref j v 0 O3.length 1 none) [aI c.rsb.length] 1=some (.turn j (.cells ((rC O4).map .d) (v+1) false) (.sref j (v+1) 0 O4.length 1 none)):=fun A j v hA=>by
  rw[l4,<-h4];exact SC rfl hA (by omega) (by omega)
 have s5:c.rsb.length=0->∀(A:List Blk) (i v o len sz:Nat) (k:Option Nat) (new:List AV),YU A 1 8 (.sref i v o len sz k) new c.rsb.length=some .same:=fun h A i v o len sz k new=>by rw[h];exact UA A 1 8 i v o len sz k new
 have a5:c.rsb.length≠0->∀(A:List Blk) (j v:Nat),A[j]? =some (.cells ((rC O4).map .d) v false)->YU A 1 8 (.sref j v 0 O4.length 1 none) ((rC c.rsb).map .d) c.rsb.length=some (.turn j (.cells ((rC O5).map .d) (v+1) false) (.sref j (v+1) 0 O5.length 1 none)):=fun h A j v hA=>by
  rw[l5,<-h5];exact Z3g rfl hA h (by omega) (by omega)
 have a6:∀(A:List Blk) (j v:Nat),A[j]? =some (.cells ((rC O5).map .d) v false)->YU A 1 8 (.sref j v 0 O5.length 1 none) [aI c.end_] 1=some (.turn j (.cells ((rC (O5++[c.end_])).map .d) (v+1) false) (.sref j (v+1) 0 (O5.length+1) 1 none)):=fun A j v hA=>SC rfl hA (by omega) (by omega)
 have hd:deep [.cells ((rC (O5++[c.end_])).map .d) 0 false] 8 (.sref 0 0 0 (O5.length+1) 1 none)=some (.lst (rC (O5++[c.end_])) (O5++[c.end_]).length none,[0]):=Ax _ (by simp) _ (by simp) 6 1 none rfl
 have hmk:Gx ⟨⟨c.state.regs.r0,c.state.regs.r1,c.state.regs.r2,c.state.regs.r3⟩,c.state.mem,c.state.stack,c.state.pc⟩=O1:=h1
 rw[hi]
 simp only[eG,go_sem,Z3 S,Z2 S,zN0,zN1,zN2,zN3,zN4,zI0,zI1,zI2,zI3,reduceCtorEq,Pq S,Zq,ZH,ZJ,ZE,ZF,Option.map_some,FG,Zn8 S,hm,hs,h1,a2]
 rw[Y7,Z8 (on S _ _ [1,3,4] (by decide) rfl) rfl _ _ _ _ _ _ _ _ _ rfl]
 simp only[eG,go_sem,Z3 S,Z2 S,zN0,zN1,zN2,zN3,zN4,zI0,zI1,zI2,zI3,reduceCtorEq,Pq S]
 have go:=fun(kx:Nat->K) (D:DV) hx=>Zon S dp c hb kx D O3 hx c.buf.length 0 999999999999999999999999999999 O2 (by omega) (by omega) (by omega) (by rw[List.drop_zero];exact h3)
 rw[l2] at go
 refine go _ _ ?_
 intro T t1 t3
 by_cases r0:c.rsb.length=0
 ·have e5 : O5 = O4 := by rw [<- h5, List.length_eq_zero_iff.1 r0, List.append_nil]
  rw[e5] at a6 hd ⊢
  simp only[eG,go_sem,Z3 S,Z2 S,zN0,zN1,zN2,zN3,zN4,zI0,zI1,zI2,zI3,reduceCtorEq,Pq S,Zq,ZH,ZJ,ZE,ZF,Option.map_some,FG,t1,t3,a4,s5 r0,a6,hd]
  rfl
 ·simp only [eG, go_sem, Z3 S, Z2 S, zN0, zN1, zN2, zN3, zN4, zI0, zI1, zI2, zI3, reduceCtorEq, Pq S, Zq, ZH, ZJ, ZE, ZF, Option.map_some, FG, t1, t3, a4, a5 r0, a6, hd]
  rfl
theorem Zse (dp:Nat)(c_r0 c_r1 c_r2 c_r3:Int)(c_mm c_st:List Int)(c_pc:Int)(c_bf:List Ent)(c_rb:List Int)(c_en:Int)(hm:(⟨⟨⟨c_r0,c_r1,c_r2,c_r3⟩,c_mm,c_st,c_pc⟩,c_bf,c_rb,c_en⟩:Conf).state.mem.length<1073741824)(hs:(⟨⟨⟨c_r0,c_r1,c_r2,c_r3⟩,c_mm,c_st,c_pc⟩,c_bf,c_rb,c_en⟩:Conf).state.stack.length<1073741824)(hb:(⟨⟨⟨c_r0,c_r1,c_r2,c_r3⟩,c_mm,c_st,c_pc⟩,c_bf,c_rb,c_en⟩:Conf).buf.length<1073741824)(hr:(⟨⟨⟨c_r0,c_r1,c_r2,c_r3⟩,c_mm,c_st,c_pc⟩,c_bf,c_rb,c_en⟩:Conf).rsb.length<1073741824)(A:List Blk)(nb:Nat):Zv false E (Z4 E fn (dp+2)) 48 A nb (some ([.agg [vi c_r0,vi c_r1,vi c_r2,vi c_r3,rD c_mm,rD c_st,vi c_pc,rD c_bf,rD c_rb,vi c_en]],[]))=some (.made (.d (rD (Gq (⟨⟨⟨c_r0,c_r1,c_r2,c_r3⟩,c_mm,c_st,c_pc⟩,c_bf,c_rb,c_en⟩:Conf)))) []):=
 Z6.deep (Zk4 S dp (⟨⟨⟨c_r0,c_r1,c_r2,c_r3⟩,c_mm,c_st,c_pc⟩,c_bf,c_rb,c_en⟩:Conf) hm hs hb hr) (np S 48 (by decide)) A nb
theorem Zjx (dp:Nat)(a b:Conf)(h1:a.state.mem.length<1073741824)(h2:a.state.stack.length<1073741824)(h3:a.buf.length<1073741824)(h4:a.rsb.length<1073741824)(g1:b.state.mem.length<1073741824)(g2:b.state.stack.length<1073741824)(g3:b.buf.length<1073741824)(g4:b.rsb.length<1073741824)(h5:(Gq a).length<1073741824):Z6 E fn (dp+3) 18 [ZS a,ZS b] (vb (decide (Gq a=Gq b))):=by
 unfold Z6
 show Z7 (Z4 E fn (dp+2+1) 18 [.d (ZS a),.d (ZS b)] [])=_
 rw[ZD,S.Z9y,ZG,Zfb,ZC _ _ _ _ _ _ _ _ rfl]
 simp only[eG,go_sem,Z3 S,Z2 S,zN0,zN1,zN2,zN3,zN4,zI0,zI1,zI2,zI3,reduceCtorEq,Zse S,h1,h2,h3,h4,g1,g2,g3,g4,Zsi S,h5]
theorem Zsd (dp:Nat)(a_r0 a_r1 a_r2 a_r3:Int)(a_mm a_st:List Int)(a_pc:Int)(a_bf:List Ent)(a_rb:List Int)(a_en b_r0 b_r1 b_r2 b_r3:Int)(b_mm b_st:List Int)(b_pc:Int)(b_bf:List Ent)(b_rb:List Int)(b_en:Int)(h1:(⟨⟨⟨a_r0,a_r1,a_r2,a_r3⟩,a_mm,a_st,a_pc⟩,a_bf,a_rb,a_en⟩:Conf).state.mem.length<1073741824)(h2:(⟨⟨⟨a_r0,a_r1,a_r2,a_r3⟩,a_mm,a_st,a_pc⟩,a_bf,a_rb,a_en⟩:Conf).state.stack.length<1073741824)(h3:(⟨⟨⟨a_r0,a_r1,a_r2,a_r3⟩,a_mm,a_st,a_pc⟩,a_bf,a_rb,a_en⟩:Conf).buf.length<1073741824)(h4:(⟨⟨⟨a_r0,a_r1,a_r2,a_r3⟩,a_mm,a_st,a_pc⟩,a_bf,a_rb,a_en⟩:Conf).rsb.length<1073741824)(g1:(⟨⟨⟨b_r0,b_r1,b_r2,b_r3⟩,b_mm,b_st,b_pc⟩,b_bf,b_rb,b_en⟩:Conf).state.mem.length<1073741824)(g2:(⟨⟨⟨b_r0,b_r1,b_r2,b_r3⟩,b_mm,b_st,b_pc⟩,b_bf,b_rb,b_en⟩:Conf).state.stack.length<1073741824)(g3:(⟨⟨⟨b_r0,b_r1,b_r2,b_r3⟩,b_mm,b_st,b_pc⟩,b_bf,b_rb,b_en⟩:Conf).buf.length<1073741824)(g4:(⟨⟨⟨b_r0,b_r1,b_r2,b_r3⟩,b_mm,b_st,b_pc⟩,b_bf,b_rb,b_en⟩:Conf).rsb.length<1073741824)(h5:(Gq (⟨⟨⟨a_r0,a_r1,a_r2,a_r3⟩,a_mm,a_st,a_pc⟩,a_bf,a_rb,a_en⟩:Conf)).length<1073741824)(A:List Blk)(nb:Nat)(us:List Nat):Zv false E (Z4 E fn (dp+3)) 18 A nb (some ([.agg [vi a_r0,vi a_r1,vi a_r2,vi a_r3,rD a_mm,rD a_st,vi a_pc,rD a_bf,rD a_rb,vi a_en],.agg [vi b_r0,vi b_r1,vi b_r2,vi b_r3,rD b_mm,rD b_st,vi b_pc,rD b_bf,rD b_rb,vi b_en]],us))=some (.made (.d (vb (decide (Gq (⟨⟨⟨a_r0,a_r1,a_r2,a_r3⟩,a_mm,a_st,a_pc⟩,a_bf,a_rb,a_en⟩:Conf)=Gq (⟨⟨⟨b_r0,b_r1,b_r2,b_r3⟩,b_mm,b_st,b_pc⟩,b_bf,b_rb,b_en⟩:Conf))))) []):=
 Z6.flat (Zjx S dp (⟨⟨⟨a_r0,a_r1,a_r2,a_r3⟩,a_mm,a_st,a_pc⟩,a_bf,a_rb,a_en⟩:Conf) (⟨⟨⟨b_r0,b_r1,b_r2,b_r3⟩,b_mm,b_st,b_pc⟩,b_bf,b_rb,b_en⟩:Conf) h1 h2 h3 h4 g1 g2 g3 g4 h5) (np S 18 (by decide)) (rfl) A nb us
end
theorem Z8f:∀ l:List Ent,(l.flatMap K0).length<=8*l.length
 | []=>Nat.le_refl _
 | e::l=>by
  have:=Z8f l
  rw[List.flatMap_cons,List.length_append,List.length_cons]
  have h:(K0 e).length=8:=rfl
  omega
theorem Zpf (c:Conf):(Gq c).length<=c.state.mem.length+c.state.stack.length+8*c.buf.length+c.rsb.length+100:=by
 have:=Z8f c.buf
 unfold Gq Gx
 simp only[List.length_append,List.length_cons,List.length_nil]
 omega
theorem Zny (l:List Int):(Md.make l).ins.length<=8:=by
 show((List.range (Md.nM l)).map _).length<=8
 obtain⟨r,h1,h2⟩:=Md.N6 (Md.ZZ (Md.kM l 0) 12)
 rw[List.length_map,List.length_range]
 unfold Md.nM
 rw[h2,Int.toNat_natCast];omega
variable {E:Env} {fn:FuncId->Option (Env->cT->cT)}
section
variable (S:Sur E fn)
include S
theorem W3:E.lives 16 1=none/\E.lives 16 19=none:=⟨off S 16 1 (by decide) rfl,off S 16 19 (by decide) rfl⟩
theorem Zi6 (dp:Nat)(p:Prog)(hp:Md.Fine p)(hml:p.mems.length<1000)(hN:Zz p.mems<=1000)(c:Conf)(hI:Md.Inv (Zz p.mems) p c)(l:List Dir)(hl:l.length<1000000):
  Z6 E fn (dp+12) 16 [Zw p,ZS c,rD l] (.tup [ZS (E4 (Zz p.mems) p l c 0).1,rD (E4 (Zz p.mems) p l c 0).2.1,vi (E4 (Zz p.mems) p l c 0).2.2]):=by
 obtain⟨q1,q2,q3,q4,q5,_⟩:=RY hp hI hN ⟨0,0⟩
 have g1:c.state.mem.length<1073741824:=by omega
 have g2:c.state.stack.length<1073741824:=by omega
 have g3:c.buf.length<1073741824:=by omega
 have g4:c.rsb.length<1073741824:=by omega
 show Z7 (Z4 E fn (dp+11+1) 16 [.d (Zw p),.d (ZS c),.d (rD l)] [])=_
 rw[ZD,S.Z98,ZG,Zem,ZC _ _ _ _ _ _ _ _ rfl]
 simp only[eG,go_sem,Z3 S,Z2 S,Nat.reduceLT,Nat.reduceEqDiff,Nat.reduceAdd,Nat.reduceMul,Nat.reduceLeDiff,Int.reduceEq,Int.reduceLT,Int.reduceLE,Int.reduceNeg,reduceCtorEq,W3 S,X7 S,g1,g2,g3,g4]
 rw[Y7,Z8 (on S _ _ [2,3,4,6,9,17,18,19] (by decide) rfl) rfl _ _ _ _ _ _ _ _ _ rfl]
 simp only[eG,go_sem,Z3 S,Z2 S,Nat.reduceLT,Nat.reduceEqDiff,Nat.reduceAdd,Nat.reduceMul,Nat.reduceLeDiff,Int.reduceEq,Int.reduceLT,Int.reduceLE,Int.reduceNeg,reduceCtorEq,W3 S]
 have key:=fun(kx:Nat->K) hx=>Zom S dp p hp hml hN l hl kx hx l.length 0 999999999999999999999999999999 c [] hI (by omega) (by omega) (by simp)
 rw[Yv,Yw,List.append_nil,List.drop_zero,List.nil_append] at key
 refine key _ ?_
 intro T c' o' t2 t4 t6 t9
 by_cases h0:o'.length=0
 ·have e : o' = [] := List.length_eq_zero_iff.1 h0
  subst e
  rw[Yv] at t9
  rw[Yw,List.append_nil]
  simp only[eG,go_sem,Z3 S,Z2 S,Nat.reduceLT,Nat.reduceEqDiff,Nat.reduceAdd,Nat.reduceMul,Nat.reduceLeDiff,Int.reduceEq,Int.reduceLT,Int.reduceLE,Int.reduceNeg,reduceCtorEq,W3 S,t2,t4,t6,t9]
  try rfl
 ·rw [ZN h0] at t9
  rw[ZM h0]
  have hne:o'≠[]:=fun e=>h0 (by rw[e];rfl)
  have hd:deep [.cells ((rC o').map .d) 0 false] 7 (.sref 0 0 0 o'.length 2 none)=some (.lst (rC o') o'.length none,[0]):=Ax o' hne _ rfl 5 2 none rfl
  simp only[eG,go_sem,Z3 S,Z2 S,Nat.reduceLT,Nat.reduceEqDiff,Nat.reduceAdd,Nat.reduceMul,Nat.reduceLeDiff,Int.reduceEq,Int.reduceLT,Int.reduceLE,Int.reduceNeg,reduceCtorEq,W3 S,t2,t4,t6,t9,hd]
  try rfl
end
theorem Zr9 {A:List Blk}{j v m n:Nat}{L:List Dir}{ro:Bool}(hA:A[j]? =some (.cells ((rC L).map .d) v ro))(hn:n=L.length)(h0:n≠0):deep A (m+2) (.sref j v 0 n 2 none)=some (rD L,[j]):=by
 subst hn
 exact WU (α:=Dir) (fun e=>h0 (by rw[e];rfl)) hA m none
theorem Bv {A:List Blk}{j v m:Nat}{out l2:List Dir}(hA:A[j]? =some (.cells ((rC (out++⟨1,500⟩::l2)).map .d) v false)):deep A (m+2) (.sref j v 0 (out.length+1+l2.length) 2 none)=some (rD (out++⟨1,500⟩::l2),[j]):=
 Zr9 hA (by simp;omega) (by omega)
variable {E:Env} {fn:FuncId->Option (Env->cT->cT)}
section
variable (S:Sur E fn)
include S
end
end Go.Aug.Mc
