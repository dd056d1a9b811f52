import Derived.Test.YtmfdoekbjkgckaaGreatMc60
import Derived.Test.YtmfdoekbjkgckaaGreatMc12
namespace Go.Aug.Mc
open Go Go.Aug
open Nat renaming reduceLT -> zN0, reduceEqDiff -> zN1, reduceAdd -> zN2, reduceMul -> zN3, reduceLeDiff -> zN4
open Int renaming reduceEq -> zI0, reduceLT -> zI1, reduceLE -> zI2, reduceNeg -> zI3
set_option linter.unusedSimpArgs false
set_option linter.unusedVariables false
set_option maxHeartbeats 40000000
set_option maxRecDepth 200000
theorem Zss {A:List Blk}{bytes j v:Nat}{out l:List Int}{new:List AV}{n:Nat}(hA:A[j]? =some (.cells ((rC out).map .d) v false))(hn:new=(rC l).map .d)(hl:n=l.length)(h0:n≠0)(h1:(out.length+n)*bytes<=Z5)(h2:out.length+n<=Z5):
  Q7 A 1 bytes (.sref j v 0 out.length 1 none) new n=some (.turn j (.cells ((rC (out++l)).map .d) (v+1) false) (.sref j (v+1) 0 (out.length+n) 1 none)):=by
 subst hn hl
 have e:(rC (out++l)).map AV.d=(rC out).map .d++(rC l).map .d:=by rw[ER,List.map_append]
 rw[RW,if_neg h0,if_neg (by rw[ME];simp;exact⟨by omega,by omega⟩),hA,e]
 have hl:((rC out).map AV.d).length=out.length*1:=by rw[List.length_map,QX];rfl
 have:¬0+(out.length+l.length)*1<=((rC out).map AV.d).length:=by rw[hl];omega
 simp only[ne_eq,not_true_eq_false,false_or]
 rw[if_neg (by omega),if_neg (by simp),if_neg this]
 exact if_pos ⟨trivial,hl.symm⟩
theorem P5 (A:List Blk)(x:DV)(k:Option Nat):Ek A false 1 (.d (.lst [x] 1 k))=some ([.d x],1):=rfl
theorem Sk {A:List Blk}{bytes j v:Nat}{out:List Int}{n:Int}{len:Nat}(hl:len=out.length)(hA:A[j]? =some (.cells ((rC out).map .d) v false))(h1:(len+1)*bytes<=Z5)(h2:len+1<=Z5):
  Q7 A 1 bytes (.sref j v 0 len 1 none) [aI n] 1=some (.turn j (.cells ((rC (out++[n])).map .d) (v+1) false) (.sref j (v+1) 0 (len+1) 1 none)):=by
 subst hl;exact BX hA h1 h2
theorem Z35 {A:List Blk}{bytes j v:Nat}{out l:List Int}{len:Nat}(hl:len=out.length)(hA:A[j]? =some (.cells ((rC out).map .d) v false))(h0:l.length≠0)(h1:(len+l.length)*bytes<=Z5)(h2:len+l.length<=Z5):
  Q7 A 1 bytes (.sref j v 0 len 1 none) ((rC l).map .d) l.length=some (.turn j (.cells ((rC (out++l)).map .d) (v+1) false) (.sref j (v+1) 0 (len+l.length) 1 none)):=by
 subst hl;exact Zss hA rfl rfl h0 h1 h2
theorem Zd9 {A:List Blk}{bytes:Nat}{out l:List Int}{len:Nat}(hl:len=out.length)(h0:l.length≠0)(h1:(len+l.length)*bytes<=Z5)(h2:len+l.length<=Z5):
  Q7 A 1 bytes (.d (.lst (rC out) len (some len))) ((rC l).map .d) l.length=some (.fresh ((rC (out++l)).map .d) (len+l.length)):=by
 subst hl
 have e:(rC (out++l)).map AV.d=(rC out).map .d++(rC l).map .d:=by rw[ER,List.map_append]
 unfold Q7
 rw[if_neg h0,e]
 exact if_pos ⟨by omega,by rw[QX];rfl,h1,h2⟩
def G1 (s:State):List Int:=[s.regs.r0,s.regs.r1,s.regs.r2,s.regs.r3,s.mem.length]++s.mem++[(s.stack.length:Int)]++s.stack++[s.pc]
theorem UZ {α:Type}(l:List α):rep l 5=l++(l++(l++(l++l))):=by simp[rep]
variable {E:Env} {fn:FuncId->Option (Env->cT->cT)}
section
variable (S:Sur E fn)
include S
theorem P1:E.lives 38 1=none:=off S 38 1 (by decide) rfl
theorem Zm4 (dp:Nat)(r0 r1 r2 r3:Int)(mm sk:List Int)(pc:Int)(hm:mm.length<1073741824)(hs:sk.length<1073741824):
  Z4 E fn (dp+1) 68 [.d (.agg [vi r0,vi r1,vi r2,vi r3,rD mm,rD sk,vi pc])] []=some (.sref 0 0 0 (G1 ⟨⟨r0,r1,r2,r3⟩,mm,sk,pc⟩).length 1 none,[.cells ((rC (G1 ⟨⟨r0,r1,r2,r3⟩,mm,sk,pc⟩)).map .d) 0 false]):=by
 rw[ZK,S.Za2,ZM,Zfb,ZP _ _ _ _ _ _ _ _ rfl]
 generalize h1:[r0,r1,r2,r3,(mm.length:Int)]=O1
 generalize h2:O1++mm=O2
 generalize h3:O2++[(sk.length:Int)]=O3
 generalize h4:O3++sk=O4
 have l1:O1.length=5:=by rw[<-h1];rfl
 have l2:O2.length=5+mm.length:=by rw[<-h2,List.length_append,l1]
 have l3:O3.length=5+mm.length+1:=by rw[<-h3,List.length_append,l2];rfl
 have l4:O4.length=5+mm.length+1+sk.length:=by rw[<-h4,List.length_append,l3]
 have hi:G1 ⟨⟨r0,r1,r2,r3⟩,mm,sk,pc⟩=O4++[pc]:=by rw[<-h4,<-h3,<-h2,<-h1];rfl
 have l5:(O4++[pc]).length=5+mm.length+1+sk.length+1:=by rw[List.length_append,l4];rfl
 have lim:Z5=1099511627776:=rfl
 rw[hi,l5]
 have a5:∀(A:List Blk) (j v:Nat),A[j]? =some (.cells ((rC O4).map .d) v false)->Q7 A 1 8 (.sref j v 0 (5+mm.length+1+sk.length) 1 none) [aI pc] 1=some (.turn j (.cells ((rC (O4++[pc])).map .d) (v+1) false) (.sref j (v+1) 0 (5+mm.length+1+sk.length+1) 1 none)):=fun A j v hA=>Sk l4.symm hA (by omega) (by omega)
 have as2:mm.length=0->∀(A:List Blk) (cs:List DV) (len:Nat) (k:Option Nat) (new:List AV),Q7 A 1 8 (.d (.lst cs len k)) new mm.length=some .same:=fun h A cs len k new=>by rw[h];exact Zsq A 1 8 len cs k new
 have b2:mm.length≠0->∀ A:List Blk,Q7 A 1 8 (.d (.lst [vi r0,vi r1,vi r2,vi r3,vi mm.length] 5 (some 5))) ((rC mm).map .d) mm.length=some (.fresh ((rC O2).map .d) (5+mm.length)):=fun h A=>by
  rw[<-h2]
  have:=Zd9 (A:=A) (bytes:=8) (out:=O1) (l:=mm) l1.symm h (by omega) (by omega)
  rw[<-h1] at this ⊢
  exact this
 have b3:mm.length=0->∀ A:List Blk,Q7 A 1 8 (.d (.lst [vi r0,vi r1,vi r2,vi r3,vi mm.length] 5 (some 5))) [aI sk.length] 1=some (.fresh ((rC O3).map .d) (5+mm.length+1)):=fun h A=>by
  have e1:mm=[]:=List.length_eq_zero_iff.1 h
  have q:O3=O1++[(sk.length:Int)]:=by rw[<-h3,<-h2,e1,List.append_nil]
  rw[q]
  have:=Zd9 (A:=A) (bytes:=8) (out:=O1) (l:=[(sk.length:Int)]) l1.symm (by simp) (by simp;omega) (by simp;omega)
  rw[show 5+mm.length+1=5+[(sk.length:Int)].length by rw[h];rfl]
  rw[<-h1] at this ⊢
  exact this
 have a3:∀(A:List Blk) (j v:Nat),A[j]? =some (.cells ((rC O2).map .d) v false)->Q7 A 1 8 (.sref j v 0 (5+mm.length) 1 none) [aI sk.length] 1=some (.turn j (.cells ((rC O3).map .d) (v+1) false) (.sref j (v+1) 0 (5+mm.length+1) 1 none)):=fun A j v hA=>by
  rw[<-h3];exact Sk l2.symm hA (by omega) (by omega)
 have s4:sk.length=0->∀(A:List Blk) (i v o len sz:Nat) (k:Option Nat) (new:List AV),Q7 A 1 8 (.sref i v o len sz k) new sk.length=some .same:=fun h A i v o len sz k new=>by rw[h];exact Zd7 A 1 8 i v o len sz k new
 have a4:sk.length≠0->∀(A:List Blk) (j v:Nat),A[j]? =some (.cells ((rC O3).map .d) v false)->Q7 A 1 8 (.sref j v 0 (5+mm.length+1) 1 none) ((rC sk).map .d) sk.length=some (.turn j (.cells ((rC O4).map .d) (v+1) false) (.sref j (v+1) 0 (5+mm.length+1+sk.length) 1 none)):=fun h A j v hA=>by
  rw[<-h4];exact Z35 l3.symm hA h (by omega) (by omega)
 have a5':sk.length=0->∀(A:List Blk) (j v:Nat),A[j]? =some (.cells ((rC O3).map .d) v false)->Q7 A 1 8 (.sref j v 0 (5+mm.length+1) 1 none) [aI pc] 1=some (.turn j (.cells ((rC (O4++[pc])).map .d) (v+1) false) (.sref j (v+1) 0 (5+mm.length+1+sk.length+1) 1 none)):=fun h A j v hA=>by
  have e2:sk=[]:=List.length_eq_zero_iff.1 h
  have q:O4=O3:=by rw[<-h4,e2,List.append_nil]
  rw[q,h];exact Sk l3.symm hA (by omega) (by omega)
 by_cases m0:mm.length=0<;>by_cases s0:sk.length=0
 ·simp only[eG,go_sem,Z3 S,Z2 S,zN0,zN1,zN2,zN3,zN4,zI0,zI1,zI2,zI3,reduceCtorEq,Int.cast_ofNat_Int,Int.reduceToNat,Int.toNat_zero,true_and,if_true,Nat.zero_add,Nat.add_zero,UZ,Z9,ZD,ZE,ZF,ZG,Option.map_some,P5,as2 m0,b3 m0,s4 s0,a5' s0]
 ·simp only[eG,go_sem,Z3 S,Z2 S,zN0,zN1,zN2,zN3,zN4,zI0,zI1,zI2,zI3,reduceCtorEq,Int.cast_ofNat_Int,Int.reduceToNat,Int.toNat_zero,true_and,if_true,Nat.zero_add,Nat.add_zero,UZ,Z9,ZD,ZE,ZF,ZG,Option.map_some,P5,as2 m0,b3 m0,a4 s0,a5]
 ·simp only[eG,go_sem,Z3 S,Z2 S,zN0,zN1,zN2,zN3,zN4,zI0,zI1,zI2,zI3,reduceCtorEq,Int.cast_ofNat_Int,Int.reduceToNat,Int.toNat_zero,true_and,if_true,Nat.zero_add,Nat.add_zero,UZ,Z9,ZD,ZE,ZF,ZG,Option.map_some,P5,b2 m0,a3,s4 s0,a5' s0]
 ·simp only[eG,go_sem,Z3 S,Z2 S,zN0,zN1,zN2,zN3,zN4,zI0,zI1,zI2,zI3,reduceCtorEq,Int.cast_ofNat_Int,Int.reduceToNat,Int.toNat_zero,true_and,if_true,Nat.zero_add,Nat.add_zero,UZ,Z9,ZD,ZE,ZF,ZG,Option.map_some,P5,b2 m0,a3,a4 s0,a5]
theorem Zmt (dp:Nat)(r0 r1 r2 r3:Int)(mm sk:List Int)(pc:Int)(hm:mm.length<1073741824)(hs:sk.length<1073741824)(A:List Blk)(nb:Nat):
  ZH true E (Z4 E fn (dp+1)) 68 A nb (some ([.agg [vi r0,vi r1,vi r2,vi r3,rD mm,rD sk,vi pc]],[]))=some (.made (.sref nb 0 0 (G1 ⟨⟨r0,r1,r2,r3⟩,mm,sk,pc⟩).length 1 none) [.cells ((rC (G1 ⟨⟨r0,r1,r2,r3⟩,mm,sk,pc⟩)).map .d) 0 false]):=by
 have h:=Zm4 S dp r0 r1 r2 r3 mm sk pc hm hs
 have hr:JN E (Z4 E fn (dp+1)) 68 [.agg [vi r0,vi r1,vi r2,vi r3,rD mm,rD sk,vi pc]]=some (.sref 0 0 0 (G1 ⟨⟨r0,r1,r2,r3⟩,mm,sk,pc⟩).length 1 none,[.cells ((rC (G1 ⟨⟨r0,r1,r2,r3⟩,mm,sk,pc⟩)).map .d) 0 false]):=by
  unfold JN
  rw[np S 68 (by decide)]
  exact h
 simp only[ZH,hr,F0,cond_true]
 simp[Av,DS,B5,Yj]
end
def HV (e:Ent):List Int:=[e.pc,e.val,e.addr,e.frm,e.next,Md.EK e.done,Md.EK e.known,Md.EK e.fault]
def GR (c:Conf):List Int:=G1 c.state++[(c.buf.length:Int)]++c.buf.flatMap HV++[(c.rsb.length:Int)]++c.rsb++[c.end_]
theorem Zhy {α:Type}(l:List α):rep l 8=l++(l++(l++(l++(l++(l++(l++l)))))):=by simp[rep]
theorem Zne (A:List Blk)(a b c d e f g h:DV)(k:Option Nat):Ek A false 1 (.d (.lst [a,b,c,d,e,f,g,h] 8 k))=some ([.d a,.d b,.d c,.d d,.d e,.d f,.d g,.d h],8):=rfl
theorem Zsw {A:List Blk}{j v len:Nat}{out:List Int}(a b c d e f g h:Int)(hl:len=out.length)(hA:A[j]? =some (.cells ((rC out).map .d) v false))(h1:(len+8)*8<=Z5)(h2:len+8<=Z5):
  Q7 A 1 8 (.sref j v 0 len 1 none) [aI a,aI b,aI c,aI d,aI e,aI f,aI g,aI h] 8=some (.turn j (.cells ((rC (out++[a,b,c,d,e,f,g,h])).map .d) (v+1) false) (.sref j (v+1) 0 (len+8) 1 none)):=
 Z35 (l:=[a,b,c,d,e,f,g,h]) hl hA (by simp) h1 h2
section
variable (S:Sur E fn)
include S
theorem Zoe (dp:Nat)(c:Conf)(hb:c.buf.length<1073741824)(kx:Nat->K)(D:DV)(R:List Int)
  (hx:∀ T,ZT .bot T 1=.ref 0 0 0->ZT .bot T 3=.sref 1 0 0 R.length 1 none->Zk (kx 0 (mk .bot 64 T) [.cells ((QB c).map .d) 0 false,.cells ((rC R).map .d) 0 false])=some D):
  ∀(m k f:Nat) (o:List Int),k+m=c.buf.length->m<=f->o.length+8*m<17179869184->o++(c.buf.drop k).flatMap HV=R->
  Zk (M7 (Zq E 38) (Z4 E fn (dp+1)) (Zj 10 M7 (Zq E 38) (Z4 E fn (dp+1)) kx (ZX 0 [.tmp 2]) f) kx (ZX 0 [.tmp 2]) (mk .bot 64 [(1,.ref 0 0 0),(3,.sref 1 0 0 o.length 1 none),(4,aI k)]) [.cells ((QB c).map .d) 0 false,.cells ((rC o).map .d) 0 false])=some D:=by
 intro m
 induction m with
 | zero=>
  intro k f o hk _ _ hr
  rw[List.drop_of_length_le (by omega)] at hr
  have hr:o=R:=by simpa using hr
  subst hr
  generalize Zj 10 M7 _ _ kx _ f=KK
  first | (conv=>lhs;rw[M7]) | rw[M7]
  simp only[eG,go_sem,Z3 S,Z2 S,zN0,zN1,zN2,zN3,zN4,zI0,zI1,zI2,zI3,reduceCtorEq,P1 S,show ¬(k:Int)<c.buf.length by omega]
  exact hx _ rfl rfl
 | succ m ih=>
  intro k f o hk hf ho hr
  obtain⟨e,he⟩:=YX (show k<c.buf.length by omega)
  obtain⟨f,rfl⟩:∃ g,f=g+1:=⟨f-1,by omega⟩
  have hkg:(k:Int)<c.buf.length:=by omega
  have hr':(o++HV e)++(c.buf.drop (k+1)).flatMap HV=R:=by
   rw[<-hr,JQ he,List.flatMap_cons,List.append_assoc]
  have hle:(o++HV e).length=o.length+8:=by rw[List.length_append];rfl
  have:=ih (k+1) f (o++HV e) (by omega) (by omega) (by rw[hle];omega) hr'
  rw[hle] at this
  have k1:(o.length+8)*8<=Z5:=by unfold Z5;omega
  have k2:o.length+8<=Z5:=by unfold Z5;omega
  have ap:∀(A:List Blk) (j v:Nat) (t1 t2 t3:Int),A[j]? =some (.cells ((rC o).map .d) v false)->Q7 A 1 8 (.sref j v 0 o.length 1 none) [aI e.pc,aI e.val,aI e.addr,aI e.frm,aI e.next,aI t1,aI t2,aI t3] 8=some (.turn j (.cells ((rC (o++[e.pc,e.val,e.addr,e.frm,e.next,t1,t2,t3])).map .d) (v+1) false) (.sref j (v+1) 0 (o.length+8) 1 none)):=fun A j v t1 t2 t3 hA=>Zsw _ _ _ _ _ _ _ _ rfl hA k1 k2
  generalize hK:Zj 10 M7 _ _ kx _ (f+1)=KK
  first | (conv=>lhs;rw[M7]) | rw[M7]
  simp only[eG,go_sem,Z3 S,Z2 S,zN0,zN1,zN2,zN3,zN4,zI0,zI1,zI2,zI3,reduceCtorEq,P1 S,Zhy,Zne,ZD,ZE,ZF,ZG,Option.map_some,hkg,Zz he,wi k (by omega),Zrv S,ap]
  rw[<-hK,Z8 (on S _ _ [1,3,4] (by decide) rfl) rfl _ _ _ _ _ _ _ _ _ rfl]
  simp only[eG,go_sem,Z3 S,Z2 S,zN0,zN1,zN2,zN3,zN4,zI0,zI1,zI2,zI3,reduceCtorEq,P1 S]
  exact this
theorem Zjj (dp:Nat)(c:Conf)(hm:c.state.mem.length<1073741824)(hs:c.state.stack.length<1073741824)(hb:c.buf.length<1073741824)(hr:c.rsb.length<1073741824):Z6 E fn (dp+2) 38 [ZA c] (rD (GR c)):=by
 unfold Z6
 show Zk (Z4 E fn (dp+1+1) 38 [.d (ZA c)] [])=_
 rw[ZK,S.Z9l,ZM,Zeu,ZP _ _ _ _ _ _ _ _ rfl]
 generalize h1:G1 c.state=O1
 generalize h2:O1++[(c.buf.length:Int)]=O2
 generalize h3:O2++c.buf.flatMap HV=O3
 generalize h4:O3++[(c.rsb.length:Int)]=O4
 generalize h5:O4++c.rsb=O5
 have hi:GR c=O5++[c.end_]:=by rw[<-h5,<-h4,<-h3,<-h2,<-h1];rfl
 have l1:O1.length<2147483656:=by rw[<-h1];unfold G1;simp;omega
 have l2:O2.length=O1.length+1:=by rw[<-h2,List.length_append];rfl
 have hfl:∀ l:List Ent,(l.flatMap HV).length=8*l.length:=by
  intro l
  induction l with
  | nil=>rfl
  | cons e l ih=>rw[List.flatMap_cons,List.length_append,ih,List.length_cons];show 8+_=_;omega
 have l3:O3.length=O2.length+8*c.buf.length:=by rw[<-h3,List.length_append,hfl]
 have l4:O4.length=O3.length+1:=by rw[<-h4,List.length_append];rfl
 have l5:O5.length=O4.length+c.rsb.length:=by rw[<-h5,List.length_append]
 have lim:Z5=1099511627776:=rfl
 have a2:∀(A:List Blk) (j v:Nat),A[j]? =some (.cells ((rC O1).map .d) v false)->Q7 A 1 8 (.sref j v 0 O1.length 1 none) [aI c.buf.length] 1=some (.turn j (.cells ((rC O2).map .d) (v+1) false) (.sref j (v+1) 0 (O1.length+1) 1 none)):=fun A j v hA=>by
  rw[<-h2];exact Sk rfl hA (by omega) (by omega)
 have a4:∀(A:List Blk) (j v:Nat),A[j]? =some (.cells ((rC O3).map .d) v false)->Q7 A 1 8 (.sref j v 0 O3.length 1 none) [aI c.rsb.length] 1=some (.turn j (.cells ((rC O4).map .d) (v+1) false) (.sref j (v+1) 0 O4.length 1 none)):=fun A j v hA=>by
  rw[l4,<-h4];exact Sk rfl hA (by omega) (by omega)
 have s5:c.rsb.length=0->∀(A:List Blk) (i v o len sz:Nat) (k:Option Nat) (new:List AV),Q7 A 1 8 (.sref i v o len sz k) new c.rsb.length=some .same:=fun h A i v o len sz k new=>by rw[h];exact Zd7 A 1 8 i v o len sz k new
 have a5:c.rsb.length≠0->∀(A:List Blk) (j v:Nat),A[j]? =some (.cells ((rC O4).map .d) v false)->Q7 A 1 8 (.sref j v 0 O4.length 1 none) ((rC c.rsb).map .d) c.rsb.length=some (.turn j (.cells ((rC O5).map .d) (v+1) false) (.sref j (v+1) 0 O5.length 1 none)):=fun h A j v hA=>by
  rw[l5,<-h5];exact Z35 rfl hA h (by omega) (by omega)
 have a6:∀(A:List Blk) (j v:Nat),A[j]? =some (.cells ((rC O5).map .d) v false)->Q7 A 1 8 (.sref j v 0 O5.length 1 none) [aI c.end_] 1=some (.turn j (.cells ((rC (O5++[c.end_])).map .d) (v+1) false) (.sref j (v+1) 0 (O5.length+1) 1 none)):=fun A j v hA=>Sk rfl hA (by omega) (by omega)
 have hd:deep [.cells ((rC (O5++[c.end_])).map .d) 0 false] 8 (.sref 0 0 0 (O5.length+1) 1 none)=some (.lst (rC (O5++[c.end_])) (O5++[c.end_]).length none,[0]):=CA _ (by simp) _ (by simp) 6 1 none rfl
 have hmk:G1 ⟨⟨c.state.regs.r0,c.state.regs.r1,c.state.regs.r2,c.state.regs.r3⟩,c.state.mem,c.state.stack,c.state.pc⟩=O1:=h1
 rw[hi]
 simp only[eG,go_sem,Z3 S,Z2 S,zN0,zN1,zN2,zN3,zN4,zI0,zI1,zI2,zI3,reduceCtorEq,P1 S,Z9,ZD,ZE,ZF,ZG,Option.map_some,P5,Zmt S,hm,hs,h1,a2]
 rw[Y9,Z8 (on S _ _ [1,3,4] (by decide) rfl) rfl _ _ _ _ _ _ _ _ _ rfl]
 simp only[eG,go_sem,Z3 S,Z2 S,zN0,zN1,zN2,zN3,zN4,zI0,zI1,zI2,zI3,reduceCtorEq,P1 S]
 have go:=fun(kx:Nat->K) (D:DV) hx=>Zoe S dp c hb kx D O3 hx c.buf.length 0 999999999999999999999999999999 O2 (by omega) (by omega) (by omega) (by rw[List.drop_zero];exact h3)
 rw[l2] at go
 refine go _ _ ?_
 intro T t1 t3
 by_cases r0:c.rsb.length=0
 ·have e5 : O5 = O4 := by rw [<- h5, List.length_eq_zero_iff.1 r0, List.append_nil]
  rw[e5] at a6 hd ⊢
  simp only[eG,go_sem,Z3 S,Z2 S,zN0,zN1,zN2,zN3,zN4,zI0,zI1,zI2,zI3,reduceCtorEq,P1 S,Z9,ZD,ZE,ZF,ZG,Option.map_some,P5,t1,t3,a4,s5 r0,a6,hd]
  rfl
 ·simp only [eG, go_sem, Z3 S, Z2 S, zN0, zN1, zN2, zN3, zN4, zI0, zI1, zI2, zI3, reduceCtorEq, P1 S, Z9, ZD, ZE, ZF, ZG, Option.map_some, P5, t1, t3, a4, a5 r0, a6, hd]
  rfl
theorem Zrw (dp:Nat)(c_r0 c_r1 c_r2 c_r3:Int)(c_mm c_st:List Int)(c_pc:Int)(c_bf:List Ent)(c_rb:List Int)(c_en:Int)(hm:(⟨⟨⟨c_r0,c_r1,c_r2,c_r3⟩,c_mm,c_st,c_pc⟩,c_bf,c_rb,c_en⟩:Conf).state.mem.length<1073741824)(hs:(⟨⟨⟨c_r0,c_r1,c_r2,c_r3⟩,c_mm,c_st,c_pc⟩,c_bf,c_rb,c_en⟩:Conf).state.stack.length<1073741824)(hb:(⟨⟨⟨c_r0,c_r1,c_r2,c_r3⟩,c_mm,c_st,c_pc⟩,c_bf,c_rb,c_en⟩:Conf).buf.length<1073741824)(hr:(⟨⟨⟨c_r0,c_r1,c_r2,c_r3⟩,c_mm,c_st,c_pc⟩,c_bf,c_rb,c_en⟩:Conf).rsb.length<1073741824)(A:List Blk)(nb:Nat):ZH false E (Z4 E fn (dp+2)) 38 A nb (some ([.agg [vi c_r0,vi c_r1,vi c_r2,vi c_r3,rD c_mm,rD c_st,vi c_pc,rD c_bf,rD c_rb,vi c_en]],[]))=some (.made (.d (rD (GR (⟨⟨⟨c_r0,c_r1,c_r2,c_r3⟩,c_mm,c_st,c_pc⟩,c_bf,c_rb,c_en⟩:Conf)))) []):=
 Z6.deep (Zjj S dp (⟨⟨⟨c_r0,c_r1,c_r2,c_r3⟩,c_mm,c_st,c_pc⟩,c_bf,c_rb,c_en⟩:Conf) hm hs hb hr) (np S 38 (by decide)) A nb
theorem Zjc (dp:Nat)(a b:Conf)(h1:a.state.mem.length<1073741824)(h2:a.state.stack.length<1073741824)(h3:a.buf.length<1073741824)(h4:a.rsb.length<1073741824)(g1:b.state.mem.length<1073741824)(g2:b.state.stack.length<1073741824)(g3:b.buf.length<1073741824)(g4:b.rsb.length<1073741824)(h5:(GR a).length<1073741824):Z6 E fn (dp+3) 14 [ZA a,ZA b] (vb (decide (GR a=GR b))):=by
 unfold Z6
 show Zk (Z4 E fn (dp+2+1) 14 [.d (ZA a),.d (ZA b)] [])=_
 rw[ZK,S.Z9f,ZM,Zeo,ZP _ _ _ _ _ _ _ _ rfl]
 simp only[eG,go_sem,Z3 S,Z2 S,zN0,zN1,zN2,zN3,zN4,zI0,zI1,zI2,zI3,reduceCtorEq,Zrw S,h1,h2,h3,h4,g1,g2,g3,g4,Zs0 S,h5]
end
theorem Z80:∀ l:List Ent,(l.flatMap HV).length<=8*l.length
 | []=>Nat.le_refl _
 | e::l=>by
  have:=Z80 l
  rw[List.flatMap_cons,List.length_append,List.length_cons]
  have h:(HV e).length=8:=rfl
  omega
theorem Zp6 (c:Conf):(GR c).length<=c.state.mem.length+c.state.stack.length+8*c.buf.length+c.rsb.length+100:=by
 have:=Z80 c.buf
 unfold GR G1
 simp only[List.length_append,List.length_cons,List.length_nil]
 omega
abbrev MY (E:Env)(f:FuncId):Env:={ br:=E.br,th:=E.th,prim:=E.prim,back:=E.back,lives:=E.lives,live:=E.lives f,nb0:=1 }
theorem Zna (E:Env)(f:FuncId)(key:Nat)(l:List Nat)(hl:E.lives f key=some l)(ha:Gj 0 l=true)(k:K)(d:AV)(N:Nat)(S:List (Nat×AV))(A:List Blk)(hN:∀ t ∈ l,t<N):
  D2 (MY E f) key k (mk d N S) A=
   k (mk .bot N (l.map fun t=>(t,Yz A 1 (QD A 1 100000 ((l.flatMap fun t=>Q2 8 (ZT d S t))++(A.take 1).flatMap fun b=>Dx (some b)) []) 8 (ZT d S t)))) (Yq A 1 (QD A 1 100000 ((l.flatMap fun t=>Q2 8 (ZT d S t))++(A.take 1).flatMap fun b=>Dx (some b)) [])):=by
 unfold D2
 simp only[hl]
 unfold VS SN
 have e:(l.flatMap fun t=>Q2 8 (Y6 (mk d N S) t))=l.flatMap fun t=>Q2 8 (ZT d S t):=by
  clear ha hl
  induction l with
  | nil=>rfl
  | cons t l ih=>
   rw[List.flatMap_cons,List.flatMap_cons,VQ _ _ _ _ (hN t (by simp)),ih (fun t ht=>hN t (by simp[ht]))]
 simp only[e]
 rw[Z6t _ _ _ _ _ ha]
def Z6c (k:K)(N:Nat)(l:List Nat)(d:AV)(S:List (Nat×AV))(A:List Blk)(ids:List Nat):F6:=
 k (mk .bot N (l.map fun t=>(t,Yz A 1 ids 8 (ZT d S t)))) (Yq A 1 ids)
theorem Tj (k:K)(N:Nat)(l:List Nat)(d:AV)(S:List (Nat×AV))(A:List Blk)(ids:List Nat):Z6c k N l d S A ids=k (mk .bot N (l.map fun t=>(t,Yz A 1 ids 8 (ZT d S t)))) (Yq A 1 ids):=id rfl
theorem Tv {E:Env}{f:FuncId}{key:Nat}{l:List Nat}(hl:E.lives f key=some l)(ha:Gj 0 l=true)(c:CT)(call:cT)(kx:Nat->K)(kr:K)(n:Nat)(d:AV)(N:Nat)(S:List (Nat×AV))(A:List Blk)(hN:(l.all fun t=>Nat.blt t N)=true):
  Zj key c (MY E f) call kx kr (n+1) (mk d N S) A=
   Z6c (c (MY E f) call (Zj key c (MY E f) call kx kr n) kx kr) N l d S A (QD A 1 100000 ((l.flatMap fun t=>Q2 8 (ZT d S t))++(A.take 1).flatMap fun b=>Dx (some b)) []):=by
 rw[Zbn]
 refine Zna E f key l hl ha _ d N S A fun t ht=> ?_
 have:=List.all_eq_true.1 hN t ht
 exact Nat.le_of_ble_eq_true this
def E2 (y:Dir):List Dir->List Dir
 | []=>[]
 | z::l=>if z=y then E2 z l else z::E2 z l
def Bj:List Dir->List Dir
 | []=>[]
 | y::l=>y::E2 y l
abbrev d0:Dir:=⟨0,0⟩
theorem Z2a (y:Dir):∀ l,(E2 y l).length<=l.length
 | []=>Nat.le_refl _
 | z::l=>by
  unfold E2
  split
  ·exact Nat.le_succ_of_le (Z2a z l)
  ·exact Nat.succ_le_succ (Z2a z l)
theorem Zr1:∀ l,(Bj l).length<=l.length
 | []=>Nat.le_refl _
 | y::l=>Nat.succ_le_succ (Z2a y l)
theorem UV {c:List Dir}{i:Nat}{e:Dir}(h:c[i]? =some e):((rC c).map AV.d).drop (i*2)=.d (vi e.kind):: .d (vi e.n)::((rC (c.drop (i+1))).map AV.d):=by
 obtain⟨hi,rfl⟩:=List.getElem?_eq_some_iff.1 h
 have e1:c=c.take i++c[i]::c.drop (i+1):=by
  rw[<-List.drop_eq_getElem_cons hi,List.take_append_drop]
 have e3:rC c=rC (c.take i)++(Cl.cells c[i]++rC (c.drop (i+1))):=by
  conv=>lhs;rw[e1]
  rw[ER];rfl
 have hl:((rC (c.take i)).map AV.d).length=i*2:=by
  rw[List.length_map,QX,List.length_take,Nat.min_eq_left (by omega)];rfl
 rw[e3,List.map_append,<-hl,List.drop_left]
 rfl
theorem Mv {c:List Dir}{i:Nat}(h:i<c.length):i*2<=((rC c).map AV.d).length:=by
 rw[List.length_map,QX];show i*2<=c.length*2;omega
theorem Zhk {A:List Blk}{i v k:Nat}{l:List Dir}{e e':Dir}(h:l[k]? =some e):storeAt A i v (k*2) [.d (vi e'.kind),.d (vi e'.n)] 2 (some (.cells ((rC l).map .d) v false))=some (A.set i (.cells ((rC (l.set k e')).map .d) v false)):=
 Mw (A:=A) (i:=i) (v:=v) (o:=0) (n:=2) (e':=e') [vi e'.kind,vi e'.n] h rfl rfl rfl rfl (Nat.le_refl 2) 2 rfl (k*2) rfl
theorem XZ:∀ n,rep [aI 0,aI 0] n=(rC (List.replicate n d0)).map AV.d
 | 0=>rfl
 | n+1=>by
  rw[List.replicate_succ]
  show[aI 0,aI 0]++rep [aI 0,aI 0] n=_
  rw[XZ n];rfl
theorem Zm9 (n:Nat):((rC (List.replicate n d0)).map AV.d).all AV.one=true:=by
 rw[<-XZ]
 induction n with
 | zero=>rfl
 | succ n ih=>exact ih
theorem Zmn (z:List AV)(x:Opd)(E:Env)(call:cT)(tm:List AV)(A:List Blk)(nb:Nat):RD z x E call tm A nb=F7 (TM A z (look tm x)):=id rfl
theorem Zgr (A:List Blk):F7 (some A)=some (.turned JX A):=id rfl
theorem Zr3 {P Q:List Dir}{m:Nat}(hQ:Q≠[])(hm:m=Q.length):TM [.cells ((rC (P++Q)).map .d) 0 false] [aI 0,aI 0] (.sref 0 0 (P.length*2) m 2 none)=some [.cells ((rC (P++List.replicate Q.length d0)).map .d) 0 false]:=by
 subst hm
 have hl:Q.length≠0:=fun h=>hQ (List.length_eq_zero_iff.1 h)
 have hP:((rC P).map AV.d).length=P.length*2:=by rw[List.length_map,QX];rfl
 have hq:((rC Q).map AV.d).length=Q.length*2:=by rw[List.length_map,QX];rfl
 have hr:((rC (List.replicate Q.length d0)).map AV.d).length=Q.length*2:=by rw[List.length_map,QX,List.length_replicate];rfl
 have hs:splice ((rC (P++Q)).map AV.d) (P.length*2) ((rC (List.replicate Q.length d0)).map AV.d)=(rC (P++List.replicate Q.length d0)).map AV.d:=by
  unfold splice
  rw[ER,ER,List.map_append,List.map_append,<-hP,List.take_left,hr,<-hq,List.drop_append,List.drop_of_length_le (by omega)]
  rw[hP]
  simp
 show(if 2=[aI 0,aI 0].length/\Q.length≠0 then GW [.cells ((rC (P++Q)).map .d) 0 false] (.ref 0 0 (P.length*2)) (.agg (rep [aI 0,aI 0] Q.length)) (Q.length*2) else none)=_
 rw[if_pos ⟨rfl,hl⟩,XZ]
 unfold GW
 simp only[List.getElem?_cons_zero,AV.cells]
 rw[if_pos ⟨trivial,hr,by rw[ER,List.map_append,List.length_append,hP,hq];exact Nat.le_refl _,Zm9 Q.length⟩,hs]
 rfl
variable {E:Env} {fn:FuncId->Option (Env->cT->cT)}
section
variable (S:Sur E fn)
include S
theorem E7:E.lives 34 1=none/\E.lives 34 7=none/\E.lives 34 17=none/\E.lives 34 27=none:=⟨off S 34 1 (by decide) rfl,off S 34 7 (by decide) rfl,off S 34 17 (by decide) rfl,off S 34 27 (by decide) rfl⟩
theorem Zqx (dp n k0:Nat)(hn:n<1073741824)(kx:Nat->K)(D:Option (AV×List Blk))(F:List Dir)
  (hx:∀ T (k:Nat) (Q P:List Dir),ZT .bot T 0=.sref 0 0 0 n 2 none->ZT .bot T 3=aI k->P.length=k->k+Q.length=n->P=F->Q≠[]->kx 2 (mk .bot 61 T) [.cells ((rC (P++Q)).map .d) 0 false]=D):
  ∀(R P J:List Dir) (y:Dir) (f:Nat),P.length+(J.length+1)+R.length=n->k0<P.length+(J.length+1)->R.length<=f->P++E2 y R=F->
  NJ (MY E 34) (Z4 E fn dp) (Zj 20 NJ (MY E 34) (Z4 E fn dp) kx (ZX 1 [.tmp 2]) f) kx (ZX 1 [.tmp 2]) (mk .bot 61 [(0,.sref 0 0 0 n 2 none),(3,aI P.length),(4,.sref 0 0 (k0*2) (n-k0) 2 none),(5,aI (P.length+(J.length+1)-k0:Nat))]) [.cells ((rC (P++(J++y::R))).map .d) 0 false]=D:=by
 intro R
 induction R with
 | nil=>
  intro P J y f h1 h2 hf hF
  generalize Zj 20 NJ _ _ kx _ f=KK
  first | (conv=>lhs;rw[NJ]) | rw[NJ]
  simp only[List.length_nil,Nat.add_zero] at h1
  simp only[eG,go_sem,Z3 S,Z2 S,zN0,zN1,zN2,zN3,zN4,zI0,zI1,zI2,zI3,reduceCtorEq,E7 S,show ¬((P.length+(J.length+1)-k0:Nat):Int)<((n-k0:Nat):Int) by omega]
  exact hx _ P.length (J++[y]) P rfl rfl rfl (by simp;omega) (by rw[<-hF];simp[E2]) (by simp)
 | cons z R ih=>
  intro P J y f h1 h2 hf hF
  obtain⟨f,rfl⟩:∃ g,f=g+1:=⟨f-1,by simp at hf;omega⟩
  simp only[List.length_cons] at h1 hf
  obtain⟨m,hm⟩:∃ m,m=P.length+(J.length+1)-k0:=⟨_,rfl⟩
  have g1:(P++(J++y::z::R))[P.length+(J.length+1)]? =some z:=by
   rw[List.getElem?_append_right (by omega),List.getElem?_append_right (by omega)]
   rw[show P.length+(J.length+1)-P.length-J.length=1 by omega];rfl
  have g2:(P++(J++y::z::R))[P.length+J.length]? =some y:=by
   rw[List.getElem?_append_right (by omega),List.getElem?_append_right (by omega)]
   rw[show P.length+J.length-P.length-J.length=0 by omega];rfl
  have a1:k0*2+m*2=(P.length+(J.length+1))*2:=by omega
  have a2:k0*2+(m-1)*2=(P.length+J.length)*2:=by omega
  have w1:IntKind.i64.wrap ((m:Int)-1)=(m:Int)-1:=Q4 (by omega) (by omega)
  have t1:((m:Int)-1).toNat=m-1:=by omega
  have n0:¬((m:Int)-1<0):=by omega
  have b0:(0:Int)<=(m:Int)-1:=by omega
  have b1:(m:Int)<((n-k0:Nat):Int):=by omega
  have b2:(m:Int)-1<((n-k0:Nat):Int):=by omega
  have bm:(0:Int)<=(m:Int):=by omega
  have d1:=UV g1
  have d2:=UV g2
  generalize hK:Zj 20 NJ _ _ kx _ (f+1)=KK
  rw[NJ,<-hm]
  by_cases h:z=y
  ·subst h
   have:=ih P (J++[z]) z f (by simp;omega) (by simp;omega) (by omega) (by rw[<-hF];simp[E2])
   simp only[eG,go_sem,Z3 S,Z2 S,zN0,zN1,zN2,zN3,zN4,zI0,zI1,zI2,zI3,reduceCtorEq,E7 S,b1,b2,bm,b0,t1,w1,n0,a1,a2,d1,d2,Mv (List.getElem?_eq_some_iff.1 g1).1,Mv (List.getElem?_eq_some_iff.1 g2).1,wi m (by omega),G4,Rj,Int.toNat_natCast]
   rw[<-hK,Tv (on S _ _ [0,3,4,5] (by decide) rfl) rfl _ _ _ _ _ _ _ _ _ rfl]
   simp only[go_sem,Z3 S,Z2 S,zN0,zN1,zN2,zN3,zN4,zI0,zI1,zI2,zI3,reduceCtorEq,E7 S,YR,YG,YH,YK,YM,List.take_succ_cons,List.take_zero,Z9,Option.map_some,Tj]
   have e1:P.length+((J++[z]).length+1)-k0=m+1:=by rw[List.length_append,List.length_singleton];omega
   rw[e1,show J++[z]++z::R=J++z::z::R by rw[List.append_assoc];rfl] at this
   exact this
  ·have hset:(P++(J++y::z::R)).set P.length z=(P++[z])++((J++[y]).tail++z::R):=by
    rw[List.set_append_right _ _ (Nat.le_refl _),Nat.sub_self]
    cases J<;>simp
   obtain⟨q,hq⟩:=YX (show P.length<(P++(J++y::z::R)).length by simp;omega)
   have st:=fun(A:List Blk)=>Zhk (A:=A) (i:=0) (v:=0) (e':=z) hq
   rw[hset] at st
   simp only[eG,go_sem,Z3 S,Z2 S,zN0,zN1,zN2,zN3,zN4,zI0,zI1,zI2,zI3,reduceCtorEq,E7 S,b1,b2,bm,b0,t1,w1,n0,a1,a2,d1,d2,Mv (List.getElem?_eq_some_iff.1 g1).1,Mv (List.getElem?_eq_some_iff.1 g2).1,wi m (by omega),wi P.length (by omega),G4,Rj,Int.toNat_natCast,eq_false h,st,show(0:Int)<=P.length by omega,show(P.length:Int)<n by omega,Nat.zero_add]
   rw[<-hK,Tv (on S _ _ [0,3,4,5] (by decide) rfl) rfl _ _ _ _ _ _ _ _ _ rfl]
   simp only[go_sem,Z3 S,Z2 S,zN0,zN1,zN2,zN3,zN4,zI0,zI1,zI2,zI3,reduceCtorEq,E7 S,YR,YG,YH,YK,YM,List.take_succ_cons,List.take_zero,Z9,Option.map_some,Tj]
   have tl:((J++[y]).tail).length=J.length:=by simp
   have:=ih (P++[z]) ((J++[y]).tail) z f (by rw[tl,List.length_append,List.length_singleton];omega) (by rw[tl,List.length_append,List.length_singleton];omega) (by omega) (by rw[<-hF];simp[E2,h])
   have e1:(P++[z]).length+((J++[y]).tail.length+1)-k0=m+1:=by rw[tl,List.length_append,List.length_singleton];omega
   rw[e1,List.length_append,List.length_singleton] at this
   exact this
def S0 (F:List Dir)(n:Nat):AV×List Blk:=(.sref 0 0 0 F.length 2 none,[.cells ((rC (F++List.replicate (n-F.length) d0)).map .d) 0 false])
theorem Zqw (dp n:Nat)(hn:n<1073741824)(kx:Nat->K)(F:List Dir)(hx:∀ T,ZT .bot T 0=.sref 0 0 0 n 2 none->F.length=n->kx 0 (mk .bot 61 T) [.cells ((rC F).map .d) 0 false]=some (S0 F n)):
  ∀(R P:List Dir) (y:Dir) (f:Nat),P.length+1+R.length=n->R.length<=f->P++y::E2 y R=F->
  M6 (MY E 34) (Z4 E fn dp) (Zj 10 M6 (MY E 34) (Z4 E fn dp) kx (ZX 1 [.tmp 2]) f) kx (ZX 1 [.tmp 2]) (mk .bot 61 [(0,.sref 0 0 0 n 2 none),(3,aI (P.length+1:Nat))]) [.cells ((rC (P++y::R)).map .d) 0 false]=some (S0 F n):=by
 intro R
 induction R with
 | nil=>
  intro P y f h1 hf hF
  simp only[List.length_nil,Nat.add_zero] at h1
  generalize Zj 10 M6 _ _ kx _ f=KK
  first | (conv=>lhs;rw[M6]) | rw[M6]
  simp only[eG,go_sem,Z3 S,Z2 S,zN0,zN1,zN2,zN3,zN4,zI0,zI1,zI2,zI3,reduceCtorEq,E7 S,show ¬((P.length+1:Nat):Int)<n by omega]
  have hF':P++[y]=F:=hF
  rw[hF']
  exact hx _ rfl (by rw[<-hF',List.length_append];exact h1)
 | cons z R ih=>
  intro P y f h1 hf hF
  obtain⟨f,rfl⟩:∃ g,f=g+1:=⟨f-1,by simp at hf;omega⟩
  simp only[List.length_cons] at h1 hf
  have g1:(P++y::z::R)[P.length+1]? =some z:=by
   rw[List.getElem?_append_right (by omega),show P.length+1-P.length=1 by omega];rfl
  have g2:(P++y::z::R)[P.length]? =some y:=by
   rw[List.getElem?_append_right (by omega),Nat.sub_self];rfl
  have w1:IntKind.i64.wrap (((P.length+1:Nat):Int)-1)=(P.length:Int):=by rw[Q4 (by omega) (by omega)];omega
  have d1:=UV g1
  have d2:=UV g2
  generalize hK:Zj 10 M6 _ _ kx _ (f+1)=KK
  first | (conv=>lhs;rw[M6]) | rw[M6]
  have b1:((P.length+1:Nat):Int)<n:=by omega
  have b2:(0:Int)<=((P.length+1:Nat):Int):=by omega
  have b3:(P.length:Int)<n:=by omega
  have b4:(0:Int)<=(P.length:Int):=by omega
  by_cases h:z=y
  ·subst h
   have bl:=PF n .i64 ((P.length+1:Nat):Int) b2 (by omega)
   simp only[eG,go_sem,Z3 S,Z2 S,zN0,zN1,zN2,zN3,zN4,zI0,zI1,zI2,zI3,reduceCtorEq,E7 S,b1,b2,b3,b4,w1,d1,d2,Mv (List.getElem?_eq_some_iff.1 g1).1,Mv (List.getElem?_eq_some_iff.1 g2).1,G4,Rj,Int.toNat_natCast,Nat.zero_add,bl,eq_false (show ¬P.length+1=n by omega),false_and,if_false]
   rw[Y9,Tv (on S _ _ [0,3,4,5] (by decide) rfl) rfl _ _ _ _ _ _ _ _ _ rfl]
   simp only[go_sem,Z3 S,Z2 S,zN0,zN1,zN2,zN3,zN4,zI0,zI1,zI2,zI3,reduceCtorEq,E7 S,YR,YG,YH,YK,YM,List.take_succ_cons,List.take_zero,Z9,Option.map_some,Tj]
   have go:=fun(kx':Nat->K) hx'=>Zqx S dp n (P.length+1) hn kx' (some (S0 F n)) F hx' R (P++[z]) [] z 999999999999999999999999999999 (by simp;omega) (by simp) (by omega) (by rw[<-hF];simp[E2])
   simp only[List.length_append,List.length_singleton,List.length_nil,List.nil_append,List.append_assoc,List.singleton_append,Nat.zero_add,Nat.add_sub_cancel_left] at go
   refine go _ ?_
   intro T k Q P' t0 t3 hk hkQ hF' hQ
   subst hk hF'
   clear go
   have b5:(P'.length:Int)<=n:=by omega
   have b6:(0:Int)<=(P'.length:Int):=by omega
   have bl2:=PF n .i64 (P'.length:Int) b6 b5
   have bh2:=H3 n .i64 (P'.length:Int) b6 b5
   have hQl:Q.length≠0:=fun h=>hQ (List.length_eq_zero_iff.1 h)
   have cl:=Zr3 (P:=P') (m:=n-P'.length) hQ (by omega)
   simp only[go_sem,Z3 S,Z2 S,zN0,zN1,zN2,zN3,zN4,zI0,zI1,zI2,zI3,reduceCtorEq,E7 S,YR,YG,YH,YK,YM,List.take_succ_cons,List.take_zero,Z9,Option.map_some,t0,t3,bl2,bh2,eq_false (show ¬P'.length=n by omega),false_and,if_false,Zmn,cl,Zgr,Int.toNat_natCast,Nat.zero_add,Nat.zero_mul,Nat.sub_zero,ne_eq,not_true_eq_false,and_false]
   unfold S0
   rw[show n-P'.length=Q.length by omega]
  ·simp only [eG, go_sem, Z3 S, Z2 S, zN0, zN1, zN2, zN3, zN4, zI0, zI1, zI2, zI3, reduceCtorEq, E7 S, b1, b2, b3, b4, w1, d1, d2, Mv (List.getElem?_eq_some_iff.1 g1).1, Mv (List.getElem?_eq_some_iff.1 g2).1, G4, Rj, Int.toNat_natCast, Nat.zero_add, eq_false h, wi (P.length + 1) (by omega)]
   rw[<-hK,Tv (on S _ _ [0,3] (by decide) rfl) rfl _ _ _ _ _ _ _ _ _ rfl]
   simp only[go_sem,Z3 S,Z2 S,zN0,zN1,zN2,zN3,zN4,zI0,zI1,zI2,zI3,reduceCtorEq,E7 S,YR,YG,YH,YK,YM,List.take_succ_cons,List.take_zero,Z9,Option.map_some,Tj]
   have:=ih (P++[y]) z f (by simp;omega) (by omega) (by rw[<-hF];simp[E2,h])
   rw[List.length_append,List.length_singleton,List.append_assoc] at this
   exact this
theorem Zqv (dp:Nat)(l:List Dir)(hl:l.length<1073741824)(h0:l≠[]):Z4 E fn (dp+1) 34 [.sref 0 0 0 l.length 2 none] [.cells ((rC l).map .d) 0 false]=some (S0 (Bj l) l.length):=by
 rw[ZK,S.Z1p,ZM,Z3c,ZP _ _ _ _ _ _ _ _ rfl]
 match l,h0 with
 | [x],_=>
  simp only[go_sem,Z3 S,Z2 S,zN0,zN1,zN2,zN3,zN4,zI0,zI1,zI2,zI3,reduceCtorEq,E7 S,YR,YG,YH,YK,YM,List.take_succ_cons,List.take_zero,Z9,Option.map_some,List.length_singleton,show((1:Nat):Int)<2 by decide]
  rfl
 | x::y::R,_=>
  have hb:¬((R.length+1+1:Nat):Int)<2:=by omega
  simp only[go_sem,Z3 S,Z2 S,zN0,zN1,zN2,zN3,zN4,zI0,zI1,zI2,zI3,reduceCtorEq,E7 S,YR,YG,YH,YK,YM,List.take_succ_cons,List.take_zero,Z9,Option.map_some,hb]
  rw[Y9,Tv (on S _ _ [0,3] (by decide) rfl) rfl _ _ _ _ _ _ _ _ _ rfl]
  simp only[go_sem,Z3 S,Z2 S,zN0,zN1,zN2,zN3,zN4,zI0,zI1,zI2,zI3,reduceCtorEq,E7 S,YR,YG,YH,YK,YM,List.take_succ_cons,List.take_zero,Z9,Option.map_some,Tj]
  have go:=fun(kx:Nat->K) hx=>Zqw S dp (x::y::R).length hl kx (Bj (x::y::R)) hx (y::R) [] x 999999999999999999999999999999 (by simp;omega) (by simp at hl ⊢;omega) rfl
  refine go _ ?_
  intro T t0 hF
  simp only[go_sem,Z3 S,Z2 S,zN0,zN1,zN2,zN3,zN4,zI0,zI1,zI2,zI3,reduceCtorEq,E7 S,YR,YG,YH,YK,YM,List.take_succ_cons,List.take_zero,Z9,Option.map_some,t0]
  have hF':(Bj (x::y::R)).length=R.length+1+1:=hF
  unfold S0
  rw[hF',Nat.sub_self,List.replicate_zero,List.append_nil]
end
end Go.Aug.Mc
