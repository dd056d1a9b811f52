import Derived.Test.YthnhboimcidhgaaGreatDoorMk
import Derived.Test.YthnhboimcidhgaaGreatDoorMc6
import Derived.Test.YthnhboimcidhgaaGreatDoorBo2
import Derived.Test.YthnhboimcidhgaaGreatDoorMa
namespace Go.Aug.Mc
open Go Go.Aug
open Nat renaming reduceLT -> zN0, reduceEqDiff -> zN1, reduceAdd -> zN2, reduceMul -> zN3, reduceLeDiff -> zN4
open Int renaming reduceEq -> zI0, reduceLT -> zI1, reduceLE -> zI2, reduceNeg -> zI3
set_option linter.unusedSimpArgs false
set_option linter.unusedVariables false
set_option maxHeartbeats 40000000
set_option maxRecDepth 200000
theorem Zwk {A:List Blk}{bytes j v:Nat}{out l:List Int}{new:List AV}{n:Nat}(hA:A[j]? =some (.cells ((rC out).map .d) v false))(hn:new=(rC l).map .d)(hl:n=l.length)(h0:n≠0)(h1:(out.length+n)*bytes<=Zf)(h2:out.length+n<=Zf):
  Qs A 1 bytes (.sref j v 0 out.length 1 none) new n=some (.turn j (.cells ((rC (out++l)).map .d) (v+1) false) (.sref j (v+1) 0 (out.length+n) 1 none)):=by
 subst hn hl
 have e:(rC (out++l)).map AV.d=(rC out).map .d++(rC l).map .d:=by rw[Z2r,List.map_append]
 rw[Z2l,if_neg h0,if_neg (by rw[Z45];simp;exact⟨by omega,by omega⟩),hA,e]
 have hl:((rC out).map AV.d).length=out.length*1:=by rw[List.length_map,Yc];rfl
 have:¬0+(out.length+l.length)*1<=((rC out).map AV.d).length:=by rw[hl];omega
 simp only[ne_eq,not_true_eq_false,false_or]
 rw[if_neg (by omega),if_neg (by simp),if_neg this]
 exact if_pos ⟨trivial,hl.symm⟩
theorem Zyp (A:List Blk)(x:DV)(k:Option Nat):Z0g A false 1 (.d (.lst [x] 1 k))=some ([.d x],1):=rfl
theorem Zrl {A:List Blk}{bytes j v:Nat}{out:List Int}{n:Int}{len:Nat}(hl:len=out.length)(hA:A[j]? =some (.cells ((rC out).map .d) v false))(h1:(len+1)*bytes<=Zf)(h2:len+1<=Zf):
  Qs A 1 bytes (.sref j v 0 len 1 none) [aI n] 1=some (.turn j (.cells ((rC (out++[n])).map .d) (v+1) false) (.sref j (v+1) 0 (len+1) 1 none)):=by
 subst hl;exact Qp hA h1 h2
theorem Y09 {A:List Blk}{bytes j v:Nat}{out l:List Int}{len:Nat}(hl:len=out.length)(hA:A[j]? =some (.cells ((rC out).map .d) v false))(h0:l.length≠0)(h1:(len+l.length)*bytes<=Zf)(h2:len+l.length<=Zf):
  Qs A 1 bytes (.sref j v 0 len 1 none) ((rC l).map .d) l.length=some (.turn j (.cells ((rC (out++l)).map .d) (v+1) false) (.sref j (v+1) 0 (len+l.length) 1 none)):=by
 subst hl;exact Zwk hA rfl rfl h0 h1 h2
theorem Y2n {A:List Blk}{bytes:Nat}{out l:List Int}{len:Nat}(hl:len=out.length)(h0:l.length≠0)(h1:(len+l.length)*bytes<=Zf)(h2:len+l.length<=Zf):
  Qs A 1 bytes (.d (.lst (rC out) len (some len))) ((rC l).map .d) l.length=some (.fresh ((rC (out++l)).map .d) (len+l.length)):=by
 subst hl
 have e:(rC (out++l)).map AV.d=(rC out).map .d++(rC l).map .d:=by rw[Z2r,List.map_append]
 unfold Qs
 rw[if_neg h0,e]
 exact if_pos ⟨by omega,by rw[Yc];rfl,h1,h2⟩
def Zbl (s:State):List Int:=[s.regs.r0,s.regs.r1,s.regs.r2,s.regs.r3,s.mem.length]++s.mem++[(s.stack.length:Int)]++s.stack++[s.pc]
theorem Y31 {α:Type}(l:List α):rep l 5=l++(l++(l++(l++l))):=by simp[rep]
variable {E:Env} {fn:FuncId->Option (Env->cT->cT)}
section
variable (S:Sur E fn)
include S
theorem Zcs:E.lives 48 1=none:=off S 48 1 (by decide) rfl
theorem Zvc (dp:Nat)(r0 r1 r2 r3:Int)(mm sk:List Int)(pc:Int)(hm:mm.length<1073741824)(hs:sk.length<1073741824):
  evC E fn (dp+1) 92 [.d (.agg [vi r0,vi r1,vi r2,vi r3,rD mm,rD sk,vi pc])] []=some (.sref 0 0 0 (Zbl ⟨⟨r0,r1,r2,r3⟩,mm,sk,pc⟩).length 1 none,[.cells ((rC (Zbl ⟨⟨r0,r1,r2,r3⟩,mm,sk,pc⟩)).map .d) 0 false]):=by
 rw[Z2,S.Zkw,Z3,Zmc,Z6 _ _ _ _ _ _ _ _ rfl]
 generalize h1:[r0,r1,r2,r3,(mm.length:Int)]=O1
 generalize h2:O1++mm=O2
 generalize h3:O2++[(sk.length:Int)]=O3
 generalize h4:O3++sk=O4
 have l1:O1.length=5:=by rw[<-h1];rfl
 have l2:O2.length=5+mm.length:=by rw[<-h2,List.length_append,l1]
 have l3:O3.length=5+mm.length+1:=by rw[<-h3,List.length_append,l2];rfl
 have l4:O4.length=5+mm.length+1+sk.length:=by rw[<-h4,List.length_append,l3]
 have hi:Zbl ⟨⟨r0,r1,r2,r3⟩,mm,sk,pc⟩=O4++[pc]:=by rw[<-h4,<-h3,<-h2,<-h1];rfl
 have l5:(O4++[pc]).length=5+mm.length+1+sk.length+1:=by rw[List.length_append,l4];rfl
 have lim:Zf=1099511627776:=rfl
 rw[hi,l5]
 have a5:∀(A:List Blk) (j v:Nat),A[j]? =some (.cells ((rC O4).map .d) v false)->Qs A 1 8 (.sref j v 0 (5+mm.length+1+sk.length) 1 none) [aI pc] 1=some (.turn j (.cells ((rC (O4++[pc])).map .d) (v+1) false) (.sref j (v+1) 0 (5+mm.length+1+sk.length+1) 1 none)):=fun A j v hA=>Zrl l4.symm hA (by omega) (by omega)
 have as2:mm.length=0->∀(A:List Blk) (cs:List DV) (len:Nat) (k:Option Nat) (new:List AV),Qs A 1 8 (.d (.lst cs len k)) new mm.length=some .same:=fun h A cs len k new=>by rw[h];exact Zug A 1 8 len cs k new
 have b2:mm.length≠0->∀ A:List Blk,Qs A 1 8 (.d (.lst [vi r0,vi r1,vi r2,vi r3,vi mm.length] 5 (some 5))) ((rC mm).map .d) mm.length=some (.fresh ((rC O2).map .d) (5+mm.length)):=fun h A=>by
  rw[<-h2]
  have:=Y2n (A:=A) (bytes:=8) (out:=O1) (l:=mm) l1.symm h (by omega) (by omega)
  rw[<-h1] at this ⊢
  exact this
 have b3:mm.length=0->∀ A:List Blk,Qs A 1 8 (.d (.lst [vi r0,vi r1,vi r2,vi r3,vi mm.length] 5 (some 5))) [aI sk.length] 1=some (.fresh ((rC O3).map .d) (5+mm.length+1)):=fun h A=>by
  have e1:mm=[]:=List.length_eq_zero_iff.1 h
  have q:O3=O1++[(sk.length:Int)]:=by rw[<-h3,<-h2,e1,List.append_nil]
  rw[q]
  have:=Y2n (A:=A) (bytes:=8) (out:=O1) (l:=[(sk.length:Int)]) l1.symm (by simp) (by simp;omega) (by simp;omega)
  rw[show 5+mm.length+1=5+[(sk.length:Int)].length by rw[h];rfl]
  rw[<-h1] at this ⊢
  exact this
 have a3:∀(A:List Blk) (j v:Nat),A[j]? =some (.cells ((rC O2).map .d) v false)->Qs A 1 8 (.sref j v 0 (5+mm.length) 1 none) [aI sk.length] 1=some (.turn j (.cells ((rC O3).map .d) (v+1) false) (.sref j (v+1) 0 (5+mm.length+1) 1 none)):=fun A j v hA=>by
  rw[<-h3];exact Zrl l2.symm hA (by omega) (by omega)
 have s4:sk.length=0->∀(A:List Blk) (i v o len sz:Nat) (k:Option Nat) (new:List AV),Qs A 1 8 (.sref i v o len sz k) new sk.length=some .same:=fun h A i v o len sz k new=>by rw[h];exact Zpx A 1 8 i v o len sz k new
 have a4:sk.length≠0->∀(A:List Blk) (j v:Nat),A[j]? =some (.cells ((rC O3).map .d) v false)->Qs A 1 8 (.sref j v 0 (5+mm.length+1) 1 none) ((rC sk).map .d) sk.length=some (.turn j (.cells ((rC O4).map .d) (v+1) false) (.sref j (v+1) 0 (5+mm.length+1+sk.length) 1 none)):=fun h A j v hA=>by
  rw[<-h4];exact Y09 l3.symm hA h (by omega) (by omega)
 have a5':sk.length=0->∀(A:List Blk) (j v:Nat),A[j]? =some (.cells ((rC O3).map .d) v false)->Qs A 1 8 (.sref j v 0 (5+mm.length+1) 1 none) [aI pc] 1=some (.turn j (.cells ((rC (O4++[pc])).map .d) (v+1) false) (.sref j (v+1) 0 (5+mm.length+1+sk.length+1) 1 none)):=fun h A j v hA=>by
  have e2:sk=[]:=List.length_eq_zero_iff.1 h
  have q:O4=O3:=by rw[<-h4,e2,List.append_nil]
  rw[q,h];exact Zrl l3.symm hA (by omega) (by omega)
 by_cases m0:mm.length=0<;>by_cases s0:sk.length=0
 ·simp only[eG,go_sem,thq S,nbr S,zN0,zN1,zN2,zN3,zN4,zI0,zI1,zI2,zI3,reduceCtorEq,Int.cast_ofNat_Int,Int.reduceToNat,Int.toNat_zero,true_and,if_true,Nat.zero_add,Nat.add_zero,Y31,Zl,Jd,Je,Zj,Z7,Option.map_some,Zyp,as2 m0,b3 m0,s4 s0,a5' s0]
 ·simp only[eG,go_sem,thq S,nbr S,zN0,zN1,zN2,zN3,zN4,zI0,zI1,zI2,zI3,reduceCtorEq,Int.cast_ofNat_Int,Int.reduceToNat,Int.toNat_zero,true_and,if_true,Nat.zero_add,Nat.add_zero,Y31,Zl,Jd,Je,Zj,Z7,Option.map_some,Zyp,as2 m0,b3 m0,a4 s0,a5]
 ·simp only[eG,go_sem,thq S,nbr S,zN0,zN1,zN2,zN3,zN4,zI0,zI1,zI2,zI3,reduceCtorEq,Int.cast_ofNat_Int,Int.reduceToNat,Int.toNat_zero,true_and,if_true,Nat.zero_add,Nat.add_zero,Y31,Zl,Jd,Je,Zj,Z7,Option.map_some,Zyp,b2 m0,a3,s4 s0,a5' s0]
 ·simp only[eG,go_sem,thq S,nbr S,zN0,zN1,zN2,zN3,zN4,zI0,zI1,zI2,zI3,reduceCtorEq,Int.cast_ofNat_Int,Int.reduceToNat,Int.toNat_zero,true_and,if_true,Nat.zero_add,Nat.add_zero,Y31,Zl,Jd,Je,Zj,Z7,Option.map_some,Zyp,b2 m0,a3,a4 s0,a5]
theorem Y17 (dp:Nat)(r0 r1 r2 r3:Int)(mm sk:List Int)(pc:Int)(hm:mm.length<1073741824)(hs:sk.length<1073741824)(A:List Blk)(nb:Nat):
  Zb true E (evC E fn (dp+1)) 92 A nb (some ([.agg [vi r0,vi r1,vi r2,vi r3,rD mm,rD sk,vi pc]],[]))=some (.made (.sref nb 0 0 (Zbl ⟨⟨r0,r1,r2,r3⟩,mm,sk,pc⟩).length 1 none) [.cells ((rC (Zbl ⟨⟨r0,r1,r2,r3⟩,mm,sk,pc⟩)).map .d) 0 false]):=by
 have h:=Zvc S dp r0 r1 r2 r3 mm sk pc hm hs
 have hr:Z2c E (evC E fn (dp+1)) 92 [.agg [vi r0,vi r1,vi r2,vi r3,rD mm,rD sk,vi pc]]=some (.sref 0 0 0 (Zbl ⟨⟨r0,r1,r2,r3⟩,mm,sk,pc⟩).length 1 none,[.cells ((rC (Zbl ⟨⟨r0,r1,r2,r3⟩,mm,sk,pc⟩)).map .d) 0 false]):=by
  unfold Z2c
  rw[np S 92 (by decide)]
  exact h
 simp only[Zb,hr,Z4r,cond_true]
 simp[Zc3,Z3l,Qg,Z1b]
end
def Zur (e:Ent):List Int:=[e.pc,e.val,e.addr,e.frm,e.next,Md.truth e.done,Md.truth e.known,Md.truth e.fault]
def Z9u (c:Conf):List Int:=Zbl c.state++[(c.buf.length:Int)]++c.buf.flatMap Zur++[(c.rsb.length:Int)]++c.rsb++[c.end_]
theorem Y8x {α:Type}(l:List α):rep l 8=l++(l++(l++(l++(l++(l++(l++l)))))):=by simp[rep]
theorem nc8 (A:List Blk)(a b c d e f g h:DV)(k:Option Nat):Z0g A false 1 (.d (.lst [a,b,c,d,e,f,g,h] 8 k))=some ([.d a,.d b,.d c,.d d,.d e,.d f,.d g,.d h],8):=rfl
theorem Y6a {A:List Blk}{j v len:Nat}{out:List Int}(a b c d e f g h:Int)(hl:len=out.length)(hA:A[j]? =some (.cells ((rC out).map .d) v false))(h1:(len+8)*8<=Zf)(h2:len+8<=Zf):
  Qs A 1 8 (.sref j v 0 len 1 none) [aI a,aI b,aI c,aI d,aI e,aI f,aI g,aI h] 8=some (.turn j (.cells ((rC (out++[a,b,c,d,e,f,g,h])).map .d) (v+1) false) (.sref j (v+1) 0 (len+8) 1 none)):=
 Y09 (l:=[a,b,c,d,e,f,g,h]) hl hA (by simp) h1 h2
section
variable (S:Sur E fn)
include S
theorem Zta (dp:Nat)(c:Conf)(hb:c.buf.length<1073741824)(kx:Nat->K)(D:DV)(R:List Int)
  (hx:∀ T,Z01 .bot T 1=.ref 0 0 0->Z01 .bot T 3=.sref 1 0 0 R.length 1 none->Zh (kx 0 (mk .bot 64 T) [.cells ((Z22 c).map .d) 0 false,.cells ((rC R).map .d) 0 false])=some D):
  ∀(m k f:Nat) (o:List Int),k+m=c.buf.length->m<=f->o.length+8*m<17179869184->o++(c.buf.drop k).flatMap Zur=R->
  Zh (Z0l (inn E 48) (evC E fn (dp+1)) (Zi 10 Z0l (inn E 48) (evC E fn (dp+1)) kx (Z0u 0 [.tmp 2]) f) kx (Z0u 0 [.tmp 2]) (mk .bot 64 [(1,.ref 0 0 0),(3,.sref 1 0 0 o.length 1 none),(4,aI k)]) [.cells ((Z22 c).map .d) 0 false,.cells ((rC o).map .d) 0 false])=some D:=by
 intro m
 induction m with
 | zero=>
  intro k f o hk _ _ hr
  rw[List.drop_of_length_le (by omega)] at hr
  have hr:o=R:=by simpa using hr
  subst hr
  generalize Zi 10 Z0l _ _ kx _ f=KK
  first | (conv=>lhs;rw[Z0l]) | rw[Z0l]
  simp only[eG,go_sem,thq S,nbr S,zN0,zN1,zN2,zN3,zN4,zI0,zI1,zI2,zI3,reduceCtorEq,Zcs S,show ¬(k:Int)<c.buf.length by omega]
  exact hx _ rfl rfl
 | succ m ih=>
  intro k f o hk hf ho hr
  obtain⟨e,he⟩:=Yz (show k<c.buf.length by omega)
  obtain⟨f,rfl⟩:∃ g,f=g+1:=⟨f-1,by omega⟩
  have hkg:(k:Int)<c.buf.length:=by omega
  have hr':(o++Zur e)++(c.buf.drop (k+1)).flatMap Zur=R:=by
   rw[<-hr,Z02 he,List.flatMap_cons,List.append_assoc]
  have hle:(o++Zur e).length=o.length+8:=by rw[List.length_append];rfl
  have:=ih (k+1) f (o++Zur e) (by omega) (by omega) (by rw[hle];omega) hr'
  rw[hle] at this
  have k1:(o.length+8)*8<=Zf:=by unfold Zf;omega
  have k2:o.length+8<=Zf:=by unfold Zf;omega
  have ap:∀(A:List Blk) (j v:Nat) (t1 t2 t3:Int),A[j]? =some (.cells ((rC o).map .d) v false)->Qs A 1 8 (.sref j v 0 o.length 1 none) [aI e.pc,aI e.val,aI e.addr,aI e.frm,aI e.next,aI t1,aI t2,aI t3] 8=some (.turn j (.cells ((rC (o++[e.pc,e.val,e.addr,e.frm,e.next,t1,t2,t3])).map .d) (v+1) false) (.sref j (v+1) 0 (o.length+8) 1 none)):=fun A j v t1 t2 t3 hA=>Y6a _ _ _ _ _ _ _ _ rfl hA k1 k2
  generalize hK:Zi 10 Z0l _ _ kx _ (f+1)=KK
  first | (conv=>lhs;rw[Z0l]) | rw[Z0l]
  simp only[eG,go_sem,thq S,nbr S,zN0,zN1,zN2,zN3,zN4,zI0,zI1,zI2,zI3,reduceCtorEq,Zcs S,Y8x,nc8,Jd,Je,Zj,Z7,Option.map_some,hkg,Q4 he,wi k (by omega),Zrb S,ap]
  rw[<-hK,Z1 (on S _ _ [1,3,4] (by decide) rfl) rfl _ _ _ _ _ _ _ _ _ rfl]
  simp only[eG,go_sem,thq S,nbr S,zN0,zN1,zN2,zN3,zN4,zI0,zI1,zI2,zI3,reduceCtorEq,Zcs S]
  exact this
theorem Zn7 (dp:Nat)(c:Conf)(hm:c.state.mem.length<1073741824)(hs:c.state.stack.length<1073741824)(hb:c.buf.length<1073741824)(hr:c.rsb.length<1073741824):Zk E fn (dp+2) 48 [Zv c] (rD (Z9u c)):=by
 unfold Zk
 show Zh (evC E fn (dp+1+1) 48 [.d (Zv c)] [])=_
 rw[Z2,S.Zks,Z3,Zm8,Z6 _ _ _ _ _ _ _ _ rfl]
 generalize h1:Zbl c.state=O1
 generalize h2:O1++[(c.buf.length:Int)]=O2
 generalize h3:O2++c.buf.flatMap Zur=O3
 generalize h4:O3++[(c.rsb.length:Int)]=O4
 generalize h5:O4++c.rsb=O5
 have hi:Z9u c=O5++[c.end_]:=by rw[<-h5,<-h4,<-h3,<-h2,<-h1];rfl
 have l1:O1.length<2147483656:=by rw[<-h1];unfold Zbl;simp;omega
 have l2:O2.length=O1.length+1:=by rw[<-h2,List.length_append];rfl
 have hfl:∀ l:List Ent,(l.flatMap Zur).length=8*l.length:=by
  intro l
  induction l with
  | nil=>rfl
  | cons e l ih=>rw[List.flatMap_cons,List.length_append,ih,List.length_cons];show 8+_=_;omega
 have l3:O3.length=O2.length+8*c.buf.length:=by rw[<-h3,List.length_append,hfl]
 have l4:O4.length=O3.length+1:=by rw[<-h4,List.length_append];rfl
 have l5:O5.length=O4.length+c.rsb.length:=by rw[<-h5,List.length_append]
 have lim:Zf=1099511627776:=rfl
 have a2:∀(A:List Blk) (j v:Nat),A[j]? =some (.cells ((rC O1).map .d) v false)->Qs A 1 8 (.sref j v 0 O1.length 1 none) [aI c.buf.length] 1=some (.turn j (.cells ((rC O2).map .d) (v+1) false) (.sref j (v+1) 0 (O1.length+1) 1 none)):=fun A j v hA=>by
  rw[<-h2];exact Zrl rfl hA (by omega) (by omega)
 have a4:∀(A:List Blk) (j v:Nat),A[j]? =some (.cells ((rC O3).map .d) v false)->Qs A 1 8 (.sref j v 0 O3.length 1 none) [aI c.rsb.length] 1=some (.turn j (.cells ((rC O4).map .d) (v+1) false) (.sref j (v+1) 0 O4.length 1 none)):=fun A j v hA=>by
  rw[l4,<-h4];exact Zrl rfl hA (by omega) (by omega)
 have s5:c.rsb.length=0->∀(A:List Blk) (i v o len sz:Nat) (k:Option Nat) (new:List AV),Qs A 1 8 (.sref i v o len sz k) new c.rsb.length=some .same:=fun h A i v o len sz k new=>by rw[h];exact Zpx A 1 8 i v o len sz k new
 have a5:c.rsb.length≠0->∀(A:List Blk) (j v:Nat),A[j]? =some (.cells ((rC O4).map .d) v false)->Qs A 1 8 (.sref j v 0 O4.length 1 none) ((rC c.rsb).map .d) c.rsb.length=some (.turn j (.cells ((rC O5).map .d) (v+1) false) (.sref j (v+1) 0 O5.length 1 none)):=fun h A j v hA=>by
  rw[l5,<-h5];exact Y09 rfl hA h (by omega) (by omega)
 have a6:∀(A:List Blk) (j v:Nat),A[j]? =some (.cells ((rC O5).map .d) v false)->Qs A 1 8 (.sref j v 0 O5.length 1 none) [aI c.end_] 1=some (.turn j (.cells ((rC (O5++[c.end_])).map .d) (v+1) false) (.sref j (v+1) 0 (O5.length+1) 1 none)):=fun A j v hA=>Zrl rfl hA (by omega) (by omega)
 have hd:deep [.cells ((rC (O5++[c.end_])).map .d) 0 false] 8 (.sref 0 0 0 (O5.length+1) 1 none)=some (.lst (rC (O5++[c.end_])) (O5++[c.end_]).length none,[0]):=Y8 _ (by simp) _ (by simp) 6 1 none rfl
 have hmk:Zbl ⟨⟨c.state.regs.r0,c.state.regs.r1,c.state.regs.r2,c.state.regs.r3⟩,c.state.mem,c.state.stack,c.state.pc⟩=O1:=h1
 rw[hi]
 simp only[eG,go_sem,thq S,nbr S,zN0,zN1,zN2,zN3,zN4,zI0,zI1,zI2,zI3,reduceCtorEq,Zcs S,Zl,Jd,Je,Zj,Z7,Option.map_some,Zyp,Y17 S,hm,hs,h1,a2]
 rw[Y2,Z1 (on S _ _ [1,3,4] (by decide) rfl) rfl _ _ _ _ _ _ _ _ _ rfl]
 simp only[eG,go_sem,thq S,nbr S,zN0,zN1,zN2,zN3,zN4,zI0,zI1,zI2,zI3,reduceCtorEq,Zcs S]
 have go:=fun(kx:Nat->K) (D:DV) hx=>Zta S dp c hb kx D O3 hx c.buf.length 0 999999999999999999999999999999 O2 (by omega) (by omega) (by omega) (by rw[List.drop_zero];exact h3)
 rw[l2] at go
 refine go _ _ ?_
 intro T t1 t3
 by_cases r0:c.rsb.length=0
 ·have e5 : O5 = O4 := by rw [<- h5, List.length_eq_zero_iff.1 r0, List.append_nil]
  rw[e5] at a6 hd ⊢
  simp only[eG,go_sem,thq S,nbr S,zN0,zN1,zN2,zN3,zN4,zI0,zI1,zI2,zI3,reduceCtorEq,Zcs S,Zl,Jd,Je,Zj,Z7,Option.map_some,Zyp,t1,t3,a4,s5 r0,a6,hd]
  rfl
 ·simp only [eG, go_sem, thq S, nbr S, zN0, zN1, zN2, zN3, zN4, zI0, zI1, zI2, zI3, reduceCtorEq, Zcs S, Zl, Jd, Je, Zj, Z7, Option.map_some, Zyp, t1, t3, a4, a5 r0, a6, hd]
  rfl
theorem Zu4 (dp:Nat)(c_r0 c_r1 c_r2 c_r3:Int)(c_mm c_st:List Int)(c_pc:Int)(c_bf:List Ent)(c_rb:List Int)(c_en:Int)(hm:(⟨⟨⟨c_r0,c_r1,c_r2,c_r3⟩,c_mm,c_st,c_pc⟩,c_bf,c_rb,c_en⟩:Conf).state.mem.length<1073741824)(hs:(⟨⟨⟨c_r0,c_r1,c_r2,c_r3⟩,c_mm,c_st,c_pc⟩,c_bf,c_rb,c_en⟩:Conf).state.stack.length<1073741824)(hb:(⟨⟨⟨c_r0,c_r1,c_r2,c_r3⟩,c_mm,c_st,c_pc⟩,c_bf,c_rb,c_en⟩:Conf).buf.length<1073741824)(hr:(⟨⟨⟨c_r0,c_r1,c_r2,c_r3⟩,c_mm,c_st,c_pc⟩,c_bf,c_rb,c_en⟩:Conf).rsb.length<1073741824)(A:List Blk)(nb:Nat):Zb false E (evC E fn (dp+2)) 48 A nb (some ([.agg [vi c_r0,vi c_r1,vi c_r2,vi c_r3,rD c_mm,rD c_st,vi c_pc,rD c_bf,rD c_rb,vi c_en]],[]))=some (.made (.d (rD (Z9u (⟨⟨⟨c_r0,c_r1,c_r2,c_r3⟩,c_mm,c_st,c_pc⟩,c_bf,c_rb,c_en⟩:Conf)))) []):=
 Zk.deep (Zn7 S dp (⟨⟨⟨c_r0,c_r1,c_r2,c_r3⟩,c_mm,c_st,c_pc⟩,c_bf,c_rb,c_en⟩:Conf) hm hs hb hr) (np S 48 (by decide)) A nb
theorem Zn3 (dp:Nat)(a b:Conf)(h1:a.state.mem.length<1073741824)(h2:a.state.stack.length<1073741824)(h3:a.buf.length<1073741824)(h4:a.rsb.length<1073741824)(g1:b.state.mem.length<1073741824)(g2:b.state.stack.length<1073741824)(g3:b.buf.length<1073741824)(g4:b.rsb.length<1073741824)(h5:(Z9u a).length<1073741824):Zk E fn (dp+3) 18 [Zv a,Zv b] (vb (decide (Z9u a=Z9u b))):=by
 unfold Zk
 show Zh (evC E fn (dp+2+1) 18 [.d (Zv a),.d (Zv b)] [])=_
 rw[Z2,S.Zkp,Z3,Zm5,Z6 _ _ _ _ _ _ _ _ rfl]
 simp only[eG,go_sem,thq S,nbr S,zN0,zN1,zN2,zN3,zN4,zI0,zI1,zI2,zI3,reduceCtorEq,Zu4 S,h1,h2,h3,h4,g1,g2,g3,g4,Zih S,h5]
theorem Zlk (dp:Nat)(a_r0 a_r1 a_r2 a_r3:Int)(a_mm a_st:List Int)(a_pc:Int)(a_bf:List Ent)(a_rb:List Int)(a_en b_r0 b_r1 b_r2 b_r3:Int)(b_mm b_st:List Int)(b_pc:Int)(b_bf:List Ent)(b_rb:List Int)(b_en:Int)(h1:(⟨⟨⟨a_r0,a_r1,a_r2,a_r3⟩,a_mm,a_st,a_pc⟩,a_bf,a_rb,a_en⟩:Conf).state.mem.length<1073741824)(h2:(⟨⟨⟨a_r0,a_r1,a_r2,a_r3⟩,a_mm,a_st,a_pc⟩,a_bf,a_rb,a_en⟩:Conf).state.stack.length<1073741824)(h3:(⟨⟨⟨a_r0,a_r1,a_r2,a_r3⟩,a_mm,a_st,a_pc⟩,a_bf,a_rb,a_en⟩:Conf).buf.length<1073741824)(h4:(⟨⟨⟨a_r0,a_r1,a_r2,a_r3⟩,a_mm,a_st,a_pc⟩,a_bf,a_rb,a_en⟩:Conf).rsb.length<1073741824)(g1:(⟨⟨⟨b_r0,b_r1,b_r2,b_r3⟩,b_mm,b_st,b_pc⟩,b_bf,b_rb,b_en⟩:Conf).state.mem.length<1073741824)(g2:(⟨⟨⟨b_r0,b_r1,b_r2,b_r3⟩,b_mm,b_st,b_pc⟩,b_bf,b_rb,b_en⟩:Conf).state.stack.length<1073741824)(g3:(⟨⟨⟨b_r0,b_r1,b_r2,b_r3⟩,b_mm,b_st,b_pc⟩,b_bf,b_rb,b_en⟩:Conf).buf.length<1073741824)(g4:(⟨⟨⟨b_r0,b_r1,b_r2,b_r3⟩,b_mm,b_st,b_pc⟩,b_bf,b_rb,b_en⟩:Conf).rsb.length<1073741824)(h5:(Z9u (⟨⟨⟨a_r0,a_r1,a_r2,a_r3⟩,a_mm,a_st,a_pc⟩,a_bf,a_rb,a_en⟩:Conf)).length<1073741824)(A:List Blk)(nb:Nat)(us:List Nat):Zb false E (evC E fn (dp+3)) 18 A nb (some ([.agg [vi a_r0,vi a_r1,vi a_r2,vi a_r3,rD a_mm,rD a_st,vi a_pc,rD a_bf,rD a_rb,vi a_en],.agg [vi b_r0,vi b_r1,vi b_r2,vi b_r3,rD b_mm,rD b_st,vi b_pc,rD b_bf,rD b_rb,vi b_en]],us))=some (.made (.d (vb (decide (Z9u (⟨⟨⟨a_r0,a_r1,a_r2,a_r3⟩,a_mm,a_st,a_pc⟩,a_bf,a_rb,a_en⟩:Conf)=Z9u (⟨⟨⟨b_r0,b_r1,b_r2,b_r3⟩,b_mm,b_st,b_pc⟩,b_bf,b_rb,b_en⟩:Conf))))) []):=
 Zk.flat (Zn3 S dp (⟨⟨⟨a_r0,a_r1,a_r2,a_r3⟩,a_mm,a_st,a_pc⟩,a_bf,a_rb,a_en⟩:Conf) (⟨⟨⟨b_r0,b_r1,b_r2,b_r3⟩,b_mm,b_st,b_pc⟩,b_bf,b_rb,b_en⟩:Conf) h1 h2 h3 h4 g1 g2 g3 g4 h5) (np S 18 (by decide)) (rfl) A nb us
end
theorem Zxj:∀ l:List Ent,(l.flatMap Zur).length<=8*l.length
 | []=>Nat.le_refl _
 | e::l=>by
  have:=Zxj l
  rw[List.flatMap_cons,List.length_append,List.length_cons]
  have h:(Zur e).length=8:=rfl
  omega
theorem Zkb (c:Conf):(Z9u c).length<=c.state.mem.length+c.state.stack.length+8*c.buf.length+c.rsb.length+100:=by
 have:=Zxj c.buf
 unfold Z9u Zbl
 simp only[List.length_append,List.length_cons,List.length_nil]
 omega
theorem Y1j (l:List Int):(Md.make l).ins.length<=8:=by
 show((List.range (Md.nM l)).map _).length<=8
 obtain⟨r,h1,h2⟩:=Md.iand3 (Md.shi (Md.kM l 0) 12)
 rw[List.length_map,List.length_range]
 unfold Md.nM
 rw[h2,Int.toNat_natCast];omega
theorem Y02 {N:Int}{p:Prog}(h:p.ins.length<=8)(c:Conf):Md.canSay N p c ⟨1,500⟩=false:=by
 show Md.canFetch p c 500=false
 have hg:Md.guesses p c<=9:=by
  unfold Md.guesses
  split
  ·omega
  ·split
   ·omega
   ·split<;>omega
 simp only[Md.canFetch,Bool.and_eq_false_imp,decide_eq_true_eq,decide_eq_false_iff_not]
 intro _
 omega
theorem Zor {N:Int}{p:Prog}{d:Dir}(hd:∀ c,Md.canSay N p c d=false)(l:List Dir):∀(o:List Dir) (c:Conf) (k:Nat),Md.canAll N p o c->∃ q,Ziq N p (o++d::l) c k=(Md.runAll N p o c,q,k+o.length)
 | [],c,k,_=>⟨[],by rw[List.nil_append,Z8h,hd];rfl⟩
 | e::o,c,k,h=>by
  obtain⟨q,hq⟩:=Zor hd l o _ (k+1) h.2
  refine⟨(Md.say N p c e).2++q,?_⟩
  rw[List.cons_append,Z8h,h.1,cond_true,hq]
  show(_,_,_)=(_,_,_)
  rw[List.length_cons,show k+1+o.length=k+(o.length+1) by omega];rfl
variable {E:Env} {fn:FuncId->Option (Env->cT->cT)}
section
variable (S:Sur E fn)
include S
theorem Zp8:E.lives 16 1=none/\E.lives 16 19=none:=⟨off S 16 1 (by decide) rfl,off S 16 19 (by decide) rfl⟩
theorem Zh6 (dp:Nat)(p:Prog)(hp:Md.Fine p)(hml:p.mems.length<1000)(hN:Z5 p.mems<=1000)(c:Conf)(hI:Md.Inv (Z5 p.mems) p c)(l:List Dir)(hl:l.length<1000000):
  Zk E fn (dp+12) 16 [Zn p,Zv c,rD l] (.tup [Zv (Ziq (Z5 p.mems) p l c 0).1,rD (Ziq (Z5 p.mems) p l c 0).2.1,vi (Ziq (Z5 p.mems) p l c 0).2.2]):=by
 obtain⟨q1,q2,q3,q4,q5,_⟩:=Z70 hp hI hN ⟨0,0⟩
 have g1:c.state.mem.length<1073741824:=by omega
 have g2:c.state.stack.length<1073741824:=by omega
 have g3:c.buf.length<1073741824:=by omega
 have g4:c.rsb.length<1073741824:=by omega
 show Zh (evC E fn (dp+11+1) 16 [.d (Zn p),.d (Zv c),.d (rD l)] [])=_
 rw[Z2,S.Zfs,Z3,Zgl,Z6 _ _ _ _ _ _ _ _ rfl]
 simp only[eG,go_sem,thq S,nbr S,Nat.reduceLT,Nat.reduceEqDiff,Nat.reduceAdd,Nat.reduceMul,Nat.reduceLeDiff,Int.reduceEq,Int.reduceLT,Int.reduceLE,Int.reduceNeg,reduceCtorEq,Zp8 S,Z41 S,g1,g2,g3,g4]
 rw[Y2,Z1 (on S _ _ [2,3,4,6,9,17,18,19] (by decide) rfl) rfl _ _ _ _ _ _ _ _ _ rfl]
 simp only[eG,go_sem,thq S,nbr S,Nat.reduceLT,Nat.reduceEqDiff,Nat.reduceAdd,Nat.reduceMul,Nat.reduceLeDiff,Int.reduceEq,Int.reduceLT,Int.reduceLE,Int.reduceNeg,reduceCtorEq,Zp8 S]
 have key:=fun(kx:Nat->K) hx=>Zvq S dp p hp hml hN l hl kx hx l.length 0 999999999999999999999999999999 c [] hI (by omega) (by omega) (by simp)
 rw[Zz,Zy,List.append_nil,List.drop_zero,List.nil_append] at key
 refine key _ ?_
 intro T c' o' t2 t4 t6 t9
 by_cases h0:o'.length=0
 ·have e : o' = [] := List.length_eq_zero_iff.1 h0
  subst e
  rw[Zz] at t9
  rw[Zy,List.append_nil]
  simp only[eG,go_sem,thq S,nbr S,Nat.reduceLT,Nat.reduceEqDiff,Nat.reduceAdd,Nat.reduceMul,Nat.reduceLeDiff,Int.reduceEq,Int.reduceLT,Int.reduceLE,Int.reduceNeg,reduceCtorEq,Zp8 S,t2,t4,t6,t9]
  try rfl
 ·rw [Za h0] at t9
  rw[Z9 h0]
  have hne:o'≠[]:=fun e=>h0 (by rw[e];rfl)
  have hd:deep [.cells ((rC o').map .d) 0 false] 7 (.sref 0 0 0 o'.length 2 none)=some (.lst (rC o') o'.length none,[0]):=Y8 o' hne _ rfl 5 2 none rfl
  simp only[eG,go_sem,thq S,nbr S,Nat.reduceLT,Nat.reduceEqDiff,Nat.reduceAdd,Nat.reduceMul,Nat.reduceLeDiff,Int.reduceEq,Int.reduceLT,Int.reduceLE,Int.reduceNeg,reduceCtorEq,Zp8 S,t2,t4,t6,t9,hd]
  try rfl
end
theorem Y0a {A:List Blk}{bytes j v:Nat}{out:List Dir}(hA:A[j]? =some (.cells ((rC out).map .d) v false))(h1:(out.length+1)*bytes<=Zf)(h2:out.length+1<=Zf):
  Qs A 2 bytes (.sref j v 0 out.length 2 none) [.d (.v (.int .i64 1)),.d (.v (.int .i64 500))] 1=some (.turn j (.cells ((rC (out++[⟨1,500⟩])).map .d) (v+1) false) (.sref j (v+1) 0 (out.length+1) 2 none)):=
 Qv hA h1 h2
theorem Zwl {A:List Blk}{bytes j v:Nat}{out l2:List Dir}(hA:A[j]? =some (.cells ((rC (out++[⟨1,500⟩])).map .d) v false))(h0:l2.length≠0)(h1:(out.length+1+l2.length)*bytes<=Zf)(h2:out.length+1+l2.length<=Zf):
  Qs A 2 bytes (.sref j v 0 (out.length+1) 2 none) ((rC l2).map .d) l2.length=some (.turn j (.cells ((rC (out++⟨1,500⟩::l2)).map .d) (v+1) false) (.sref j (v+1) 0 (out.length+1+l2.length) 2 none)):=by
 have e:(out++[(⟨1,500⟩:Dir)]).length=out.length+1:=by simp
 have h:=Zpy (s:=2) (bytes:=bytes) (l2:=l2) hA rfl (by decide) h0 (by rw[e];exact h1) (by rw[e];exact h2)
 rw[e,List.append_assoc] at h
 exact h
theorem Zwn {A:List Blk}{bytes j v:Nat}{l2:List Dir}(hA:A[j]? =some (.cells [AV.d (DV.v (Value.int IntKind.i64 1)),AV.d (DV.v (Value.int IntKind.i64 500))] v false))(h0:l2.length≠0)(h1:(1+l2.length)*bytes<=Zf)(h2:1+l2.length<=Zf):
  Qs A 2 bytes (.sref j v 0 1 2 (some 1)) ((rC l2).map .d) l2.length=some (.fresh ((rC ((⟨1,500⟩:Dir)::l2)).map .d) (1+l2.length)):=
 Zwp (out:=[(⟨1,500⟩:Dir)]) hA rfl h0 h1 h2
theorem Zwm {A:List Blk}{bytes j v:Nat}{l2:List Dir}(hA:A[j]? =some (.cells [AV.d (DV.v (Value.int IntKind.i64 1)),AV.d (DV.v (Value.int IntKind.i64 500))] v false))(h0:l2.length≠0)(h1:(1+l2.length)*bytes<=Zf)(h2:1+l2.length<=Zf):
  Qs A 2 bytes (.sref j v 0 1 2 none) ((rC l2).map .d) l2.length=some (.turn j (.cells ((rC ((⟨1,500⟩:Dir)::l2)).map .d) (v+1) false) (.sref j (v+1) 0 (1+l2.length) 2 none)):=
 Zpy (out:=[(⟨1,500⟩:Dir)]) hA rfl (by decide) h0 h1 h2
theorem Zic {A:List Blk}{j v m n:Nat}{L:List Dir}{ro:Bool}(hA:A[j]? =some (.cells ((rC L).map .d) v ro))(hn:n=L.length)(h0:n≠0):deep A (m+2) (.sref j v 0 n 2 none)=some (rD L,[j]):=by
 subst hn
 exact Zia (α:=Dir) (fun e=>h0 (by rw[e];rfl)) hA m none
theorem Q8 {A:List Blk}{j v m:Nat}{out l2:List Dir}(hA:A[j]? =some (.cells ((rC (out++⟨1,500⟩::l2)).map .d) v false)):deep A (m+2) (.sref j v 0 (out.length+1+l2.length) 2 none)=some (rD (out++⟨1,500⟩::l2),[j]):=
 Zic hA (by simp;omega) (by omega)
theorem Zwb {A:List Blk}{j v m:Nat}{out:List Dir}(hA:A[j]? =some (.cells ((rC (out++[⟨1,500⟩])).map .d) v false)):deep A (m+2) (.sref j v 0 (out.length+1) 2 none)=some (rD (out++[⟨1,500⟩]),[j]):=
 Zic hA (by simp) (by omega)
theorem Ztt {A:List Blk}{j v m:Nat}{l2:List Dir}(hA:A[j]? =some (.cells ((rC ((⟨1,500⟩:Dir)::l2)).map .d) v false)):deep A (m+2) (.sref j v 0 (1+l2.length) 2 none)=some (rD ((⟨1,500⟩:Dir)::l2),[j]):=
 Zic hA (by simp;omega) (by omega)
theorem Ztu {A:List Blk}{j v m:Nat}{k:Option Nat}(hA:A[j]? =some (.cells [AV.d (DV.v (Value.int IntKind.i64 1)),AV.d (DV.v (Value.int IntKind.i64 500))] v false)):deep A (m+2) (.sref j v 0 1 2 k)=some (.lst [vi 1,vi 500] 1 k,[j]):=
 Zia (α:=Dir) (l:=[⟨1,500⟩]) (by simp) hA m k
variable {E:Env} {fn:FuncId->Option (Env->cT->cT)}
section
variable (S:Sur E fn)
include S
theorem Y1a:E.lives 3 7=none:=off S 3 7 (by decide) rfl
theorem Zxs (dp:Nat){p:Prog}(hp:Md.Fine p)(hml:p.mems.length<1000)(hN:Z5 p.mems<=1000){c:Conf}(hI:Md.Inv (Z5 p.mems) p c){l:List Dir}(hl:l.length<1000000){c':Conf}{q:List Obs}{k:Nat}(hr:Ziq (Z5 p.mems) p l c 0=(c',q,k))(hf:(DV.tup [Zv c',rD q,vi k]).flat 8=true)(A:List Blk)(nb:Nat)(us:List Nat):
  Zb false E (evC E fn (dp+13)) 16 A nb (some ([Zn p,Zv c,rD l],us))=some (.made (.d (.tup [Zv c',rD q,vi k])) []):=by
 have h:=Zh6 S (dp+1) p hp hml hN c hI l hl
 rw[hr] at h
 exact Zk.flat h (np S 16 (by decide)) hf A nb us
theorem Zxt (dp:Nat){p:Prog}(hp:Md.Fine p)(hml:p.mems.length<1000)(hN:Z5 p.mems<=1000){c:Conf}(hI:Md.Inv (Z5 p.mems) p c){l:List Dir}(hl:l.length<1000000){c':Conf}{q:List Obs}{k:Nat}(hr:Ziq (Z5 p.mems) p l c 0=(c',q,k))(hf:(DV.tup [Zv c',rD q,vi k]).flat 8=false)(A:List Blk)(nb i:Nat)(us:List Nat):
  Zb false E (evC E fn (dp+13)) 16 A nb (some ([Zn p,Zv c,rD l],i::us))=some (.turned (.d (.tup [Zv c',rD q,vi k])) (Qn A (i::us))):=by
 have h:=Zh6 S (dp+1) p hp hml hN c hI l hl
 rw[hr] at h
 exact Zk.used h (np S 16 (by decide)) hf A nb i us
theorem Y2g (dp:Nat){p:Prog}(hp:Md.Fine p)(hml:p.mems.length<1000)(hN:Z5 p.mems<=1000){c:Conf}(hI:Md.Inv (Z5 p.mems) p c)(A:List Blk)(nb:Nat):
  Zb false E (evC E fn (dp+13)) 16 A nb (some ([Zn p,Zv c,rD ([]:List Dir)],[]))=some (.made (.d (.tup [Zv c,rD ([]:List Obs),vi 0])) []):=
 Zk.deep (Zh6 S (dp+1) p hp hml hN c hI [] (by decide)) (np S 16 (by decide)) A nb
theorem raw_lawStops (ha:E.prim 12=some trueG)(dp:Nat)(m st w:List Int)(ds:List Dir):evC E fn (dp+14) 3 [.d (rD m),.d (rD st),.d (rD w),.d (rD ds)] []=some (Q7 true,[]):=by
 have hp:=Zyq m
 have hN:=Zvk m
 have hml:=Y55 m
 have hil:=Y1j m
 obtain⟨s,s',hS,o1,o2⟩:=Zj8 S (dp+8) (Md.make m) (Y54 m) hml st 1
 have hI0:=o1.inv hp
 obtain⟨c,way,hW,hI⟩:=Zqk S (dp+5) (Md.make m) hp _ hN s hI0 w
 have hwl:=hI.len
 have hcn:=hI.can
 have hrn:=hI.run
 have hIc:=hI.inv
 have cS:=fun(A:List Blk) (nb:Nat)=>Zk.deep hS (np S 14 (by decide)) A nb
 have cW:=fun(A:List Blk) (nb:Nat)=>Zk.deep hW (np S 15 (by decide)) A nb
 obtain⟨y0,y1,y2,y3,y4,-⟩:=Z70 hp hIc hN ⟨0,0⟩
 obtain⟨z0,z1,z2,z3,z4,-⟩:=Z70 hp hI0 hN ⟨0,0⟩
 have h9c:(Z9u c).length<1073741824:=by have:=Zkb c;omega
 have h9s:(Z9u (Md.begin_ s)).length<1073741824:=by have:=Zkb (Md.begin_ s);omega
 have bad:=Y02 (N:=Z5 (Md.make m).mems) (p:=Md.make m) hil
 obtain⟨o3,hr1⟩:=Zor bad ds way (Md.begin_ s) 0 hcn
 rw[hrn,Nat.zero_add] at hr1
 have hr2:Ziq (Z5 (Md.make m).mems) (Md.make m) (⟨1,500⟩::way) (Md.begin_ s) 0=(Md.begin_ s,[],0):=by rw[Z8h,bad];rfl
 have g1:c.state.mem.length<1073741824:=by omega
 have g2:c.state.stack.length<1073741824:=by omega
 have g3:c.buf.length<1073741824:=by omega
 have g4:c.rsb.length<1073741824:=by omega
 have lim:Zf=1099511627776:=rfl
 show evC E fn (dp+13+1) 3 [.d (rD m),.d (rD st),.d (rD w),.d (rD ds)] []=_
 rw[Z2,S.Z68,Z3,Z6n,Z6 _ _ _ _ _ _ _ _ rfl]
 by_cases hbig:(60:Int)<ds.length
 ·simp only[eG,go_sem,thq S,nbr S,Nat.reduceLT,Nat.reduceEqDiff,Nat.reduceAdd,Nat.reduceMul,Nat.reduceLeDiff,Int.reduceEq,Int.reduceLT,Int.reduceLE,Int.reduceNeg,reduceCtorEq,Y1a S,gt_iff_lt,hbig,Zxr ha]
 have hd60:ds.length<=60:=by omega
 have c3:=fun(A:List Blk) (nb:Nat)=>Y2g S dp hp hml hN hIc A nb
 have cB:=fun(A:List Blk) (nb:Nat)=>Zk.deep (Za8 S (dp+12) s) (np S 17 (by decide)) A nb
 simp only[Zn,Yd,Z0y,Z5y,Zv,Z22,Zj0] at cS cW cB c3
 have n1:way.length*16<=Zf:=by omega
 have n2:way.length<=Zf:=by omega
 have n3:(way.length+1)*16<=Zf:=by omega
 have n4:way.length+1<=Zf:=by omega
 have n5:(way.length+1+ds.length)*16<=Zf:=by omega
 have n6:way.length+1+ds.length<=Zf:=by omega
 have n7:(1+way.length)*16<=Zf:=by omega
 have n8:1+way.length<=Zf:=by omega
 have n9:(1+ds.length)*16<=Zf:=by omega
 have n10:1+ds.length<=Zf:=by omega
 have h60:¬(60:Int)<((0:Nat):Int):=by decide
 have l16:(1:Nat)*16<=Zf:=by decide
 have l1:(1:Nat)<=Zf:=by decide
 have m1:s.mem.length<1073741824:=by have:(Md.begin_ s).state.mem.length=s.mem.length:=rfl;omega
 have m2:s.stack.length<1073741824:=by have:(Md.begin_ s).state.stack.length=s.stack.length:=rfl;omega
 have m3:([]:List Ent).length<1073741824:=by decide
 have m4:([]:List Int).length<1073741824:=by decide
 have sB:=fun(A:List Blk) (nb:Nat)=>Zlk S (dp+10) s.regs.r0 s.regs.r1 s.regs.r2 s.regs.r3 s.mem s.stack s.pc [] [] 0 s.regs.r0 s.regs.r1 s.regs.r2 s.regs.r3 s.mem s.stack s.pc [] [] 0 m1 m2 m3 m4 m1 m2 m3 m4 h9s A nb []
 simp only[Zj0,decide_true] at sB
 have e4:rD [(⟨1,500⟩:Dir)]=.lst [vi 1,vi 500] 1 none:=rfl
 have hw0:way.length=0->way=[]:=fun h=>List.length_eq_zero_iff.1 h
 have hcs:way.length=0->c=Md.begin_ s:=fun h0=>by
  have h:=hrn
  rw[hw0 h0] at h
  exact h.symm
 have hd0:ds.length=0->ds=[]:=fun h=>List.length_eq_zero_iff.1 h
 cases hf1:(DV.tup [Zv c,rD o3,vi way.length]).flat 8<;>cases hf2:(DV.tup [Zv (Md.begin_ s),rD ([]:List Obs),vi (0:Nat)]).flat 8
 all_goals
  have L1:(way++(⟨1,500⟩:Dir)::ds).length<1000000:=by simp;omega
  have L2:((⟨1,500⟩:Dir)::way).length<1000000:=by simp;omega
  first
  | have c1:=fun(A:List Blk) (nb:Nat) (us:List Nat)=>Zxs S dp hp hml hN hI0 L1 hr1 hf1 A nb us
  | have c1:=fun(A:List Blk) (nb i:Nat) (us:List Nat)=>Zxt S dp hp hml hN hI0 L1 hr1 hf1 A nb i us
  first
  | have c2:=fun(A:List Blk) (nb:Nat) (us:List Nat)=>Zxs S dp hp hml hN hI0 L2 hr2 hf2 A nb us
  | have c2:=fun(A:List Blk) (nb i:Nat) (us:List Nat)=>Zxt S dp hp hml hN hI0 L2 hr2 hf2 A nb i us
  simp only[Zn,Yd,Z0y,Z5y,Zv,Z22,Md.begin_,Zj0,Int.cast_ofNat_Int] at c1 c2
  by_cases w0:way.length=0<;>by_cases d0:ds.length=0
 all_goals
  first
  | (obtain rfl:c=Md.begin_ s:=hcs w0;rw[hw0 w0,hd0 d0] at c1;rw[hw0 w0] at c2;simp only[List.nil_append,e4,Md.begin_,Zj0] at c1 c2 cW c3)
  | (rw[hw0 w0] at c1 c2;simp only[List.nil_append,e4] at c1 c2)
  | rw[hd0 d0] at c1
  | skip
 all_goals simp only[eG,go_sem,thq S,nbr S,Nat.reduceLT,Nat.reduceEqDiff,Nat.reduceAdd,Nat.reduceMul,Nat.reduceLeDiff,Int.reduceEq,Int.reduceLT,Int.reduceLE,Int.reduceNeg,reduceCtorEq,Y1a S,gt_iff_lt,hbig,sB,Int.cast_ofNat_Int,Zu2 S,cS,cW,cB,c3,J3,Zl,Jq (cs:=[]),Z45,Bool.not_true,Bool.not_false,ne_eq,not_true_eq_false,not_false_eq_true,Zzr,Zzq,Zby,Zrr,Ziy,Ziv,Ziu,Zrs,Z5z,Z3e,Zit,Ziw,Zbz,List.all_cons,List.all_nil,Nat.beq,Y0a,Zwl,Zwn,Zwm,Q8,Zwb,Ztt,Ztu,Zlk S,g1,g2,g3,g4,m1,m2,m3,m4,h9c,h9s,Zxr ha,bne_self_eq_false,n1,n2,n3,n4,n5,n6,n7,n8,n9,n10,l16,l1,h60,w0,d0,c1,c2]
end
end Go.Aug.Mc
