import Derived.Test.YtmfdoekbjkgckaaGreatBr
namespace Go.Aug.Mc
open Go Go.Aug
open Nat renaming reduceLT -> zN0, reduceEqDiff -> zN1, reduceAdd -> zN2, reduceMul -> zN3, reduceLeDiff -> zN4
open Int renaming reduceEq -> zI0, reduceLT -> zI1, reduceLE -> zI2, reduceNeg -> zI3
set_option linter.unusedSimpArgs false
set_option linter.unusedVariables false
set_option maxHeartbeats 40000000
set_option maxRecDepth 200000
theorem Zj1 {A:List Blk}{bytes j v:Nat}{out l:List Int}{new:List AV}{n:Nat}(hA:A[j]? =some (.cells ((rC out).map .d) v false))(hn:new=(rC l).map .d)(hl:n=l.length)(h0:n≠0)(h1:(out.length+n)*bytes<=Z4)(h2:out.length+n<=Z4):
  ZS A 1 bytes (.sref j v 0 out.length 1 none) new n=some (.turn j (.cells ((rC (out++l)).map .d) (v+1) false) (.sref j (v+1) 0 (out.length+n) 1 none)):=by
 subst hn hl
 have e:(rC (out++l)).map AV.d=(rC out).map .d++(rC l).map .d:=by rw[DB,List.map_append]
 rw[R9,if_neg h0,if_neg (by rw[HR];simp;exact⟨by omega,by omega⟩),hA,e]
 have hl:((rC out).map AV.d).length=out.length*1:=by rw[List.length_map,QH];rfl
 have:¬0+(out.length+l.length)*1<=((rC out).map AV.d).length:=by rw[hl];omega
 simp only[ne_eq,not_true_eq_false,false_or]
 rw[if_neg (by omega),if_neg (by simp),if_neg this]
 exact if_pos ⟨trivial,hl.symm⟩
theorem JF (A:List Blk)(x:DV)(k:Option Nat):CH A false 1 (.d (.lst [x] 1 k))=some ([.d x],1):=rfl
theorem DW {A:List Blk}{bytes j v:Nat}{out:List Int}{n:Int}{len:Nat}(hl:len=out.length)(hA:A[j]? =some (.cells ((rC out).map .d) v false))(h1:(len+1)*bytes<=Z4)(h2:len+1<=Z4):
  ZS A 1 bytes (.sref j v 0 len 1 none) [aI n] 1=some (.turn j (.cells ((rC (out++[n])).map .d) (v+1) false) (.sref j (v+1) 0 (len+1) 1 none)):=by
 subst hl;exact RK hA h1 h2
theorem NW {A:List Blk}{bytes j v:Nat}{out l:List Int}{len:Nat}(hl:len=out.length)(hA:A[j]? =some (.cells ((rC out).map .d) v false))(h0:l.length≠0)(h1:(len+l.length)*bytes<=Z4)(h2:len+l.length<=Z4):
  ZS A 1 bytes (.sref j v 0 len 1 none) ((rC l).map .d) l.length=some (.turn j (.cells ((rC (out++l)).map .d) (v+1) false) (.sref j (v+1) 0 (len+l.length) 1 none)):=by
 subst hl;exact Zj1 hA rfl rfl h0 h1 h2
theorem Z7d {A:List Blk}{bytes:Nat}{out l:List Int}{len:Nat}(hl:len=out.length)(h0:l.length≠0)(h1:(len+l.length)*bytes<=Z4)(h2:len+l.length<=Z4):
  ZS A 1 bytes (.d (.lst (rC out) len (some len))) ((rC l).map .d) l.length=some (.fresh ((rC (out++l)).map .d) (len+l.length)):=by
 subst hl
 have e:(rC (out++l)).map AV.d=(rC out).map .d++(rC l).map .d:=by rw[DB,List.map_append]
 unfold ZS
 rw[if_neg h0,e]
 exact if_pos ⟨by omega,by rw[QH];rfl,h1,h2⟩
def JA (s:State):List Int:=[s.regs.r0,s.regs.r1,s.regs.r2,s.regs.r3,s.mem.length]++s.mem++[(s.stack.length:Int)]++s.stack++[s.pc]
theorem HM {α:Type}(l:List α):rep l 5=l++(l++(l++(l++l))):=by simp[rep]
variable {E:Env} {fn:FuncId->Option (Env->cT->cT)}
section
variable (S:Sur E fn)
include S
theorem M4:E.lives 38 1=none:=off S 38 1 (by decide) rfl
theorem Zd2 (dp:Nat)(r0 r1 r2 r3:Int)(mm sk:List Int)(pc:Int)(hm:mm.length<1073741824)(hs:sk.length<1073741824):
  Z5 E fn (dp+1) 68 [.d (.agg [vi r0,vi r1,vi r2,vi r3,rD mm,rD sk,vi pc])] []=some (.sref 0 0 0 (JA ⟨⟨r0,r1,r2,r3⟩,mm,sk,pc⟩).length 1 none,[.cells ((rC (JA ⟨⟨r0,r1,r2,r3⟩,mm,sk,pc⟩)).map .d) 0 false]):=by
 rw[Yx,S.Z52,Yw,Z8n,Yq _ _ _ _ _ _ _ _ rfl]
 generalize h1:[r0,r1,r2,r3,(mm.length:Int)]=O1
 generalize h2:O1++mm=O2
 generalize h3:O2++[(sk.length:Int)]=O3
 generalize h4:O3++sk=O4
 have l1:O1.length=5:=by rw[<-h1];rfl
 have l2:O2.length=5+mm.length:=by rw[<-h2,List.length_append,l1]
 have l3:O3.length=5+mm.length+1:=by rw[<-h3,List.length_append,l2];rfl
 have l4:O4.length=5+mm.length+1+sk.length:=by rw[<-h4,List.length_append,l3]
 have hi:JA ⟨⟨r0,r1,r2,r3⟩,mm,sk,pc⟩=O4++[pc]:=by rw[<-h4,<-h3,<-h2,<-h1];rfl
 have l5:(O4++[pc]).length=5+mm.length+1+sk.length+1:=by rw[List.length_append,l4];rfl
 have lim:Z4=1099511627776:=rfl
 rw[hi,l5]
 have a5:∀(A:List Blk) (j v:Nat),A[j]? =some (.cells ((rC O4).map .d) v false)->ZS A 1 8 (.sref j v 0 (5+mm.length+1+sk.length) 1 none) [aI pc] 1=some (.turn j (.cells ((rC (O4++[pc])).map .d) (v+1) false) (.sref j (v+1) 0 (5+mm.length+1+sk.length+1) 1 none)):=fun A j v hA=>DW l4.symm hA (by omega) (by omega)
 have as2:mm.length=0->∀(A:List Blk) (cs:List DV) (len:Nat) (k:Option Nat) (new:List AV),ZS A 1 8 (.d (.lst cs len k)) new mm.length=some .same:=fun h A cs len k new=>by rw[h];exact Zj0 A 1 8 len cs k new
 have b2:mm.length≠0->∀ A:List Blk,ZS A 1 8 (.d (.lst [vi r0,vi r1,vi r2,vi r3,vi mm.length] 5 (some 5))) ((rC mm).map .d) mm.length=some (.fresh ((rC O2).map .d) (5+mm.length)):=fun h A=>by
  rw[<-h2]
  have:=Z7d (A:=A) (bytes:=8) (out:=O1) (l:=mm) l1.symm h (by omega) (by omega)
  rw[<-h1] at this ⊢
  exact this
 have b3:mm.length=0->∀ A:List Blk,ZS A 1 8 (.d (.lst [vi r0,vi r1,vi r2,vi r3,vi mm.length] 5 (some 5))) [aI sk.length] 1=some (.fresh ((rC O3).map .d) (5+mm.length+1)):=fun h A=>by
  have e1:mm=[]:=List.length_eq_zero_iff.1 h
  have q:O3=O1++[(sk.length:Int)]:=by rw[<-h3,<-h2,e1,List.append_nil]
  rw[q]
  have:=Z7d (A:=A) (bytes:=8) (out:=O1) (l:=[(sk.length:Int)]) l1.symm (by simp) (by simp;omega) (by simp;omega)
  rw[show 5+mm.length+1=5+[(sk.length:Int)].length by rw[h];rfl]
  rw[<-h1] at this ⊢
  exact this
 have a3:∀(A:List Blk) (j v:Nat),A[j]? =some (.cells ((rC O2).map .d) v false)->ZS A 1 8 (.sref j v 0 (5+mm.length) 1 none) [aI sk.length] 1=some (.turn j (.cells ((rC O3).map .d) (v+1) false) (.sref j (v+1) 0 (5+mm.length+1) 1 none)):=fun A j v hA=>by
  rw[<-h3];exact DW l2.symm hA (by omega) (by omega)
 have s4:sk.length=0->∀(A:List Blk) (i v o len sz:Nat) (k:Option Nat) (new:List AV),ZS A 1 8 (.sref i v o len sz k) new sk.length=some .same:=fun h A i v o len sz k new=>by rw[h];exact RJ A 1 8 i v o len sz k new
 have a4:sk.length≠0->∀(A:List Blk) (j v:Nat),A[j]? =some (.cells ((rC O3).map .d) v false)->ZS A 1 8 (.sref j v 0 (5+mm.length+1) 1 none) ((rC sk).map .d) sk.length=some (.turn j (.cells ((rC O4).map .d) (v+1) false) (.sref j (v+1) 0 (5+mm.length+1+sk.length) 1 none)):=fun h A j v hA=>by
  rw[<-h4];exact NW l3.symm hA h (by omega) (by omega)
 have a5':sk.length=0->∀(A:List Blk) (j v:Nat),A[j]? =some (.cells ((rC O3).map .d) v false)->ZS A 1 8 (.sref j v 0 (5+mm.length+1) 1 none) [aI pc] 1=some (.turn j (.cells ((rC (O4++[pc])).map .d) (v+1) false) (.sref j (v+1) 0 (5+mm.length+1+sk.length+1) 1 none)):=fun h A j v hA=>by
  have e2:sk=[]:=List.length_eq_zero_iff.1 h
  have q:O4=O3:=by rw[<-h4,e2,List.append_nil]
  rw[q,h];exact DW l3.symm hA (by omega) (by omega)
 by_cases m0:mm.length=0<;>by_cases s0:sk.length=0
 ·simp only[eG,go_sem,Z2 S,Z1 S,zN0,zN1,zN2,zN3,zN4,zI0,zI1,zI2,zI3,reduceCtorEq,Int.cast_ofNat_Int,Int.reduceToNat,Int.toNat_zero,true_and,if_true,Nat.zero_add,Nat.add_zero,HM,Zq,ZB,ZC,ZD,ZE,Option.map_some,JF,as2 m0,b3 m0,s4 s0,a5' s0]
 ·simp only[eG,go_sem,Z2 S,Z1 S,zN0,zN1,zN2,zN3,zN4,zI0,zI1,zI2,zI3,reduceCtorEq,Int.cast_ofNat_Int,Int.reduceToNat,Int.toNat_zero,true_and,if_true,Nat.zero_add,Nat.add_zero,HM,Zq,ZB,ZC,ZD,ZE,Option.map_some,JF,as2 m0,b3 m0,a4 s0,a5]
 ·simp only[eG,go_sem,Z2 S,Z1 S,zN0,zN1,zN2,zN3,zN4,zI0,zI1,zI2,zI3,reduceCtorEq,Int.cast_ofNat_Int,Int.reduceToNat,Int.toNat_zero,true_and,if_true,Nat.zero_add,Nat.add_zero,HM,Zq,ZB,ZC,ZD,ZE,Option.map_some,JF,b2 m0,a3,s4 s0,a5' s0]
 ·simp only[eG,go_sem,Z2 S,Z1 S,zN0,zN1,zN2,zN3,zN4,zI0,zI1,zI2,zI3,reduceCtorEq,Int.cast_ofNat_Int,Int.reduceToNat,Int.toNat_zero,true_and,if_true,Nat.zero_add,Nat.add_zero,HM,Zq,ZB,ZC,ZD,ZE,Option.map_some,JF,b2 m0,a3,a4 s0,a5]
theorem Zdn (dp:Nat)(r0 r1 r2 r3:Int)(mm sk:List Int)(pc:Int)(hm:mm.length<1073741824)(hs:sk.length<1073741824)(A:List Blk)(nb:Nat):
  ZX true E (Z5 E fn (dp+1)) 68 A nb (some ([.agg [vi r0,vi r1,vi r2,vi r3,rD mm,rD sk,vi pc]],[]))=some (.made (.sref nb 0 0 (JA ⟨⟨r0,r1,r2,r3⟩,mm,sk,pc⟩).length 1 none) [.cells ((rC (JA ⟨⟨r0,r1,r2,r3⟩,mm,sk,pc⟩)).map .d) 0 false]):=by
 have h:=Zd2 S dp r0 r1 r2 r3 mm sk pc hm hs
 have hr:Jz E (Z5 E fn (dp+1)) 68 [.agg [vi r0,vi r1,vi r2,vi r3,rD mm,rD sk,vi pc]]=some (.sref 0 0 0 (JA ⟨⟨r0,r1,r2,r3⟩,mm,sk,pc⟩).length 1 none,[.cells ((rC (JA ⟨⟨r0,r1,r2,r3⟩,mm,sk,pc⟩)).map .d) 0 false]):=by
  unfold Jz
  rw[np S 68 (by decide)]
  exact h
 simp only[ZX,hr,G9,cond_true]
 simp[CE,GH,CJ,ZW]
end
def BG (e:Ent):List Int:=[e.pc,e.val,e.addr,e.frm,e.next,Md.CS e.done,Md.CS e.known,Md.CS e.fault]
def Y3 (c:Conf):List Int:=JA c.state++[(c.buf.length:Int)]++c.buf.flatMap BG++[(c.rsb.length:Int)]++c.rsb++[c.end_]
theorem Z10 {α:Type}(l:List α):rep l 8=l++(l++(l++(l++(l++(l++(l++l)))))):=by simp[rep]
theorem Z2f (A:List Blk)(a b c d e f g h:DV)(k:Option Nat):CH A false 1 (.d (.lst [a,b,c,d,e,f,g,h] 8 k))=some ([.d a,.d b,.d c,.d d,.d e,.d f,.d g,.d h],8):=rfl
theorem Z7g {A:List Blk}{j v len:Nat}{out:List Int}(a b c d e f g h:Int)(hl:len=out.length)(hA:A[j]? =some (.cells ((rC out).map .d) v false))(h1:(len+8)*8<=Z4)(h2:len+8<=Z4):
  ZS A 1 8 (.sref j v 0 len 1 none) [aI a,aI b,aI c,aI d,aI e,aI f,aI g,aI h] 8=some (.turn j (.cells ((rC (out++[a,b,c,d,e,f,g,h])).map .d) (v+1) false) (.sref j (v+1) 0 (len+8) 1 none)):=
 NW (l:=[a,b,c,d,e,f,g,h]) hl hA (by simp) h1 h2
section
variable (S:Sur E fn)
include S
theorem Zev (dp:Nat)(c:Conf)(hb:c.buf.length<1073741824)(kx:Nat->K)(D:DV)(R:List Int)
  (hx:∀ T,ZG .bot T 1=.ref 0 0 0->ZG .bot T 3=.sref 1 0 0 R.length 1 none->Zz (kx 0 (mk .bot 64 T) [.cells ((QU c).map .d) 0 false,.cells ((rC R).map .d) 0 false])=some D):
  ∀(m k f:Nat) (o:List Int),k+m=c.buf.length->m<=f->o.length+8*m<17179869184->o++(c.buf.drop k).flatMap BG=R->
  Zz (HD (Zj E 38) (Z5 E fn (dp+1)) (Z9 10 HD (Zj E 38) (Z5 E fn (dp+1)) kx (YD 0 [.tmp 2]) f) kx (YD 0 [.tmp 2]) (mk .bot 64 [(1,.ref 0 0 0),(3,.sref 1 0 0 o.length 1 none),(4,aI k)]) [.cells ((QU c).map .d) 0 false,.cells ((rC o).map .d) 0 false])=some D:=by
 intro m
 induction m with
 | zero=>
  intro k f o hk _ _ hr
  rw[List.drop_of_length_le (by omega)] at hr
  have hr:o=R:=by simpa using hr
  subst hr
  generalize Z9 10 HD _ _ kx _ f=KK
  first | (conv=>lhs;rw[HD]) | rw[HD]
  simp only[eG,go_sem,Z2 S,Z1 S,zN0,zN1,zN2,zN3,zN4,zI0,zI1,zI2,zI3,reduceCtorEq,M4 S,show ¬(k:Int)<c.buf.length by omega]
  exact hx _ rfl rfl
 | succ m ih=>
  intro k f o hk hf ho hr
  obtain⟨e,he⟩:=QB (show k<c.buf.length by omega)
  obtain⟨f,rfl⟩:∃ g,f=g+1:=⟨f-1,by omega⟩
  have hkg:(k:Int)<c.buf.length:=by omega
  have hr':(o++BG e)++(c.buf.drop (k+1)).flatMap BG=R:=by
   rw[<-hr,E9 he,List.flatMap_cons,List.append_assoc]
  have hle:(o++BG e).length=o.length+8:=by rw[List.length_append];rfl
  have:=ih (k+1) f (o++BG e) (by omega) (by omega) (by rw[hle];omega) hr'
  rw[hle] at this
  have k1:(o.length+8)*8<=Z4:=by unfold Z4;omega
  have k2:o.length+8<=Z4:=by unfold Z4;omega
  have ap:∀(A:List Blk) (j v:Nat) (t1 t2 t3:Int),A[j]? =some (.cells ((rC o).map .d) v false)->ZS A 1 8 (.sref j v 0 o.length 1 none) [aI e.pc,aI e.val,aI e.addr,aI e.frm,aI e.next,aI t1,aI t2,aI t3] 8=some (.turn j (.cells ((rC (o++[e.pc,e.val,e.addr,e.frm,e.next,t1,t2,t3])).map .d) (v+1) false) (.sref j (v+1) 0 (o.length+8) 1 none)):=fun A j v t1 t2 t3 hA=>Z7g _ _ _ _ _ _ _ _ rfl hA k1 k2
  generalize hK:Z9 10 HD _ _ kx _ (f+1)=KK
  first | (conv=>lhs;rw[HD]) | rw[HD]
  simp only[eG,go_sem,Z2 S,Z1 S,zN0,zN1,zN2,zN3,zN4,zI0,zI1,zI2,zI3,reduceCtorEq,M4 S,Z10,Z2f,ZB,ZC,ZD,ZE,Option.map_some,hkg,ZF he,wi k (by omega),Zi1 S,ap]
  rw[<-hK,Z6 (on S _ _ [1,3,4] (by decide) rfl) rfl _ _ _ _ _ _ _ _ _ rfl]
  simp only[eG,go_sem,Z2 S,Z1 S,zN0,zN1,zN2,zN3,zN4,zI0,zI1,zI2,zI3,reduceCtorEq,M4 S]
  exact this
theorem Zb2 (dp:Nat)(c:Conf)(hm:c.state.mem.length<1073741824)(hs:c.state.stack.length<1073741824)(hb:c.buf.length<1073741824)(hr:c.rsb.length<1073741824):Z7 E fn (dp+2) 38 [ZY c] (rD (Y3 c)):=by
 unfold Z7
 show Zz (Z5 E fn (dp+1+1) 38 [.d (ZY c)] [])=_
 rw[Yx,S.Z4m,Yw,Z87,Yq _ _ _ _ _ _ _ _ rfl]
 generalize h1:JA c.state=O1
 generalize h2:O1++[(c.buf.length:Int)]=O2
 generalize h3:O2++c.buf.flatMap BG=O3
 generalize h4:O3++[(c.rsb.length:Int)]=O4
 generalize h5:O4++c.rsb=O5
 have hi:Y3 c=O5++[c.end_]:=by rw[<-h5,<-h4,<-h3,<-h2,<-h1];rfl
 have l1:O1.length<2147483656:=by rw[<-h1];unfold JA;simp;omega
 have l2:O2.length=O1.length+1:=by rw[<-h2,List.length_append];rfl
 have hfl:∀ l:List Ent,(l.flatMap BG).length=8*l.length:=by
  intro l
  induction l with
  | nil=>rfl
  | cons e l ih=>rw[List.flatMap_cons,List.length_append,ih,List.length_cons];show 8+_=_;omega
 have l3:O3.length=O2.length+8*c.buf.length:=by rw[<-h3,List.length_append,hfl]
 have l4:O4.length=O3.length+1:=by rw[<-h4,List.length_append];rfl
 have l5:O5.length=O4.length+c.rsb.length:=by rw[<-h5,List.length_append]
 have lim:Z4=1099511627776:=rfl
 have a2:∀(A:List Blk) (j v:Nat),A[j]? =some (.cells ((rC O1).map .d) v false)->ZS A 1 8 (.sref j v 0 O1.length 1 none) [aI c.buf.length] 1=some (.turn j (.cells ((rC O2).map .d) (v+1) false) (.sref j (v+1) 0 (O1.length+1) 1 none)):=fun A j v hA=>by
  rw[<-h2];exact DW rfl hA (by omega) (by omega)
 have a4:∀(A:List Blk) (j v:Nat),A[j]? =some (.cells ((rC O3).map .d) v false)->ZS A 1 8 (.sref j v 0 O3.length 1 none) [aI c.rsb.length] 1=some (.turn j (.cells ((rC O4).map .d) (v+1) false) (.sref j (v+1) 0 O4.length 1 none)):=fun A j v hA=>by
  rw[l4,<-h4];exact DW rfl hA (by omega) (by omega)
 have s5:c.rsb.length=0->∀(A:List Blk) (i v o len sz:Nat) (k:Option Nat) (new:List AV),ZS A 1 8 (.sref i v o len sz k) new c.rsb.length=some .same:=fun h A i v o len sz k new=>by rw[h];exact RJ A 1 8 i v o len sz k new
 have a5:c.rsb.length≠0->∀(A:List Blk) (j v:Nat),A[j]? =some (.cells ((rC O4).map .d) v false)->ZS A 1 8 (.sref j v 0 O4.length 1 none) ((rC c.rsb).map .d) c.rsb.length=some (.turn j (.cells ((rC O5).map .d) (v+1) false) (.sref j (v+1) 0 O5.length 1 none)):=fun h A j v hA=>by
  rw[l5,<-h5];exact NW rfl hA h (by omega) (by omega)
 have a6:∀(A:List Blk) (j v:Nat),A[j]? =some (.cells ((rC O5).map .d) v false)->ZS A 1 8 (.sref j v 0 O5.length 1 none) [aI c.end_] 1=some (.turn j (.cells ((rC (O5++[c.end_])).map .d) (v+1) false) (.sref j (v+1) 0 (O5.length+1) 1 none)):=fun A j v hA=>DW rfl hA (by omega) (by omega)
 have hd:deep [.cells ((rC (O5++[c.end_])).map .d) 0 false] 8 (.sref 0 0 0 (O5.length+1) 1 none)=some (.lst (rC (O5++[c.end_])) (O5++[c.end_]).length none,[0]):=Ck _ (by simp) _ (by simp) 6 1 none rfl
 have hmk:JA ⟨⟨c.state.regs.r0,c.state.regs.r1,c.state.regs.r2,c.state.regs.r3⟩,c.state.mem,c.state.stack,c.state.pc⟩=O1:=h1
 rw[hi]
 simp only[eG,go_sem,Z2 S,Z1 S,zN0,zN1,zN2,zN3,zN4,zI0,zI1,zI2,zI3,reduceCtorEq,M4 S,Zq,ZB,ZC,ZD,ZE,Option.map_some,JF,Zdn S,hm,hs,h1,a2]
 rw[ZU,Z6 (on S _ _ [1,3,4] (by decide) rfl) rfl _ _ _ _ _ _ _ _ _ rfl]
 simp only[eG,go_sem,Z2 S,Z1 S,zN0,zN1,zN2,zN3,zN4,zI0,zI1,zI2,zI3,reduceCtorEq,M4 S]
 have go:=fun(kx:Nat->K) (D:DV) hx=>Zev S dp c hb kx D O3 hx c.buf.length 0 999999999999999999999999999999 O2 (by omega) (by omega) (by omega) (by rw[List.drop_zero];exact h3)
 rw[l2] at go
 refine go _ _ ?_
 intro T t1 t3
 by_cases r0:c.rsb.length=0
 ·have e5 : O5 = O4 := by rw [<- h5, List.length_eq_zero_iff.1 r0, List.append_nil]
  rw[e5] at a6 hd ⊢
  simp only[eG,go_sem,Z2 S,Z1 S,zN0,zN1,zN2,zN3,zN4,zI0,zI1,zI2,zI3,reduceCtorEq,M4 S,Zq,ZB,ZC,ZD,ZE,Option.map_some,JF,t1,t3,a4,s5 r0,a6,hd]
  rfl
 ·simp only [eG, go_sem, Z2 S, Z1 S, zN0, zN1, zN2, zN3, zN4, zI0, zI1, zI2, zI3, reduceCtorEq, M4 S, Zq, ZB, ZC, ZD, ZE, Option.map_some, JF, t1, t3, a4, a5 r0, a6, hd]
  rfl
theorem Zi3 (dp:Nat)(c_r0 c_r1 c_r2 c_r3:Int)(c_mm c_st:List Int)(c_pc:Int)(c_bf:List Ent)(c_rb:List Int)(c_en:Int)(hm:(⟨⟨⟨c_r0,c_r1,c_r2,c_r3⟩,c_mm,c_st,c_pc⟩,c_bf,c_rb,c_en⟩:Conf).state.mem.length<1073741824)(hs:(⟨⟨⟨c_r0,c_r1,c_r2,c_r3⟩,c_mm,c_st,c_pc⟩,c_bf,c_rb,c_en⟩:Conf).state.stack.length<1073741824)(hb:(⟨⟨⟨c_r0,c_r1,c_r2,c_r3⟩,c_mm,c_st,c_pc⟩,c_bf,c_rb,c_en⟩:Conf).buf.length<1073741824)(hr:(⟨⟨⟨c_r0,c_r1,c_r2,c_r3⟩,c_mm,c_st,c_pc⟩,c_bf,c_rb,c_en⟩:Conf).rsb.length<1073741824)(A:List Blk)(nb:Nat):ZX false E (Z5 E fn (dp+2)) 38 A nb (some ([.agg [vi c_r0,vi c_r1,vi c_r2,vi c_r3,rD c_mm,rD c_st,vi c_pc,rD c_bf,rD c_rb,vi c_en]],[]))=some (.made (.d (rD (Y3 (⟨⟨⟨c_r0,c_r1,c_r2,c_r3⟩,c_mm,c_st,c_pc⟩,c_bf,c_rb,c_en⟩:Conf)))) []):=
 Z7.deep (Zb2 S dp (⟨⟨⟨c_r0,c_r1,c_r2,c_r3⟩,c_mm,c_st,c_pc⟩,c_bf,c_rb,c_en⟩:Conf) hm hs hb hr) (np S 38 (by decide)) A nb
theorem Zav (dp:Nat)(a b:Conf)(h1:a.state.mem.length<1073741824)(h2:a.state.stack.length<1073741824)(h3:a.buf.length<1073741824)(h4:a.rsb.length<1073741824)(g1:b.state.mem.length<1073741824)(g2:b.state.stack.length<1073741824)(g3:b.buf.length<1073741824)(g4:b.rsb.length<1073741824)(h5:(Y3 a).length<1073741824):Z7 E fn (dp+3) 14 [ZY a,ZY b] (vb (decide (Y3 a=Y3 b))):=by
 unfold Z7
 show Zz (Z5 E fn (dp+2+1) 14 [.d (ZY a),.d (ZY b)] [])=_
 rw[Yx,S.Z4g,Yw,Z81,Yq _ _ _ _ _ _ _ _ rfl]
 simp only[eG,go_sem,Z2 S,Z1 S,zN0,zN1,zN2,zN3,zN4,zI0,zI1,zI2,zI3,reduceCtorEq,Zi3 S,h1,h2,h3,h4,g1,g2,g3,g4,Zi7 S,h5]
end
structure Byt where
 n:Int
instance:Cl Byt:=⟨1,fun b=>[.v (.int .u8 b.n)],fun _=>rfl⟩
instance:Cl1 Byt:=⟨fun _=>rfl,fun _=>rfl⟩
def GB (n:Int)(m:Nat):Int:=IntKind.u8.wrap ((IntKind.u64.wrap n).fdiv (2^(min (8*(m:Int)).toNat 64)))
def B7 (n:Int):Nat->List Byt
 | 0=>[]
 | m+1=>⟨GB n m⟩::B7 n m
def Qz (n:Int):List Byt:=if -1<=n/\n<=253 then[⟨IntKind.u8.wrap (IntKind.i64.wrap (n+1))⟩] else⟨255⟩::B7 n 8
def YP (l:List Int):List Byt:=l.flatMap Qz
theorem PF (n:Int):1<=(Qz n).length/\(Qz n).length<=9:=by
 unfold Qz;split
 ·exact⟨Nat.le_refl _,by simp⟩
 ·exact⟨by simp,by simp[B7]⟩
theorem Z7f {A:List Blk}{bytes j v:Nat}{out:List Byt}{n:Int}{len:Nat}(hl:len=out.length)(hA:A[j]? =some (.cells ((rC out).map .d) v false))(h1:(len+1)*bytes<=Z4)(h2:len+1<=Z4):
  ZS A 1 bytes (.sref j v 0 len 1 none) [.d (.v (.int .u8 n))] 1=some (.turn j (.cells ((rC (out++[⟨n⟩])).map .d) (v+1) false) (.sref j (v+1) 0 (len+1) 1 none)):=by
 subst hl;exact MJ (x:=(⟨n⟩:Byt)) hA rfl (by decide) rfl h1 h2
theorem Z3j (c:Conf):Y3 c≠[]:=by unfold Y3;simp
theorem VN:1<=Z4:=by unfold Z4;decide
variable {E:Env} {fn:FuncId->Option (Env->cT->cT)}
section
variable (S:Sur E fn)
include S
end
theorem Z3i:∀ l:List Byt,EZ .u8 ((rC l).map .d)=some (l.map Byt.n)
 | []=>rfl
 | b::l=>by
  have e:(rC (b::l)).map AV.d=.d (.v (.int .u8 b.n))::(rC l).map .d:=rfl
  rw[e]
  unfold EZ
  rw[if_pos rfl,Z3i l];rfl
theorem Uv (A:List Blk)(l:List Byt):K7 A false (.d (rD l))=some (.d (.v (.string (JP (l.map Byt.n))))):=by
 have h:SB A (.d (rD l))=some ((rC l).map .d):=by
  show(if(rC l).length=l.length then some ((rC l).map AV.d) else none)=_
  rw[if_pos (by rw[QH];exact Nat.mul_one _)]
 unfold K7
 rw[h]
 show(match EZ .u8 ((rC l).map AV.d) with | some ns=>_ | none=>none)=_
 rw[Z3i];rfl
theorem Sk (x:Opd)(lo hi mx:Option Opd)(n s:Nat)(E:Env)(call:cT)(tm:List AV)(A:List Blk)(nb:Nat):PQ x lo hi mx n s E call tm A nb=one? (R4 A tm (look tm x) lo hi mx n s):=id rfl
theorem M1 {l:List Int}(h:l≠[]):YP l≠[]:=by
 obtain⟨n,l,rfl⟩:=List.exists_cons_of_ne_nil h
 intro e
 have h1:=(PF n).1
 have h3:=congrArg List.length (show Qz n++YP l=[] from e)
 rw[List.length_append,List.length_nil] at h3
 omega
theorem Z3x {l:List Byt}(h:l≠[]):DV.flat 8 (rD l)=false:=by
 obtain⟨n,l,rfl⟩:=List.exists_cons_of_ne_nil h
 rfl
variable {E:Env} {fn:FuncId->Option (Env->cT->cT)}
section
variable (S:Sur E fn)
include S
theorem QM:E.lives 46 1=none/\E.lives 46 15=none:=⟨off S 46 1 (by decide) rfl,off S 46 15 (by decide) rfl⟩
theorem Zd7:E.lives 80 7=none:=off S 80 7 (by decide) rfl
theorem M2:E.lives 44 1=none:=off S 44 1 (by decide) rfl
theorem Zd1 (dp:Nat)(r0 r1 r2 r3:Int)(mm sk:List Int)(pc:Int)(hm:mm.length<1073741824)(hs:sk.length<1073741824):
  Z5 E fn (dp+1) 79 [.d (.agg [vi r0,vi r1,vi r2,vi r3,rD mm,rD sk,vi pc])] []=some (.sref 0 0 0 (JA ⟨⟨r0,r1,r2,r3⟩,mm,sk,pc⟩).length 1 none,[.cells ((rC (JA ⟨⟨r0,r1,r2,r3⟩,mm,sk,pc⟩)).map .d) 0 false]):=by
 rw[Yx,S.Z5f,Yw,Z90,Yq _ _ _ _ _ _ _ _ rfl]
 generalize h1:[r0,r1,r2,r3,(mm.length:Int)]=O1
 generalize h2:O1++mm=O2
 generalize h3:O2++[(sk.length:Int)]=O3
 generalize h4:O3++sk=O4
 have l1:O1.length=5:=by rw[<-h1];rfl
 have l2:O2.length=5+mm.length:=by rw[<-h2,List.length_append,l1]
 have l3:O3.length=5+mm.length+1:=by rw[<-h3,List.length_append,l2];rfl
 have l4:O4.length=5+mm.length+1+sk.length:=by rw[<-h4,List.length_append,l3]
 have hi:JA ⟨⟨r0,r1,r2,r3⟩,mm,sk,pc⟩=O4++[pc]:=by rw[<-h4,<-h3,<-h2,<-h1];rfl
 have l5:(O4++[pc]).length=5+mm.length+1+sk.length+1:=by rw[List.length_append,l4];rfl
 have lim:Z4=1099511627776:=rfl
 rw[hi,l5]
 have a5:∀(A:List Blk) (j v:Nat),A[j]? =some (.cells ((rC O4).map .d) v false)->ZS A 1 8 (.sref j v 0 (5+mm.length+1+sk.length) 1 none) [aI pc] 1=some (.turn j (.cells ((rC (O4++[pc])).map .d) (v+1) false) (.sref j (v+1) 0 (5+mm.length+1+sk.length+1) 1 none)):=fun A j v hA=>DW l4.symm hA (by omega) (by omega)
 have s1:∀ tm:List AV,R4 [.cells [.d (vi r0),.d (vi r1),.d (vi r2),.d (vi r3),.d (rD mm),.d (rD sk),.d (vi pc)] 0 false] tm (.ref 0 0 0) none (some (ci 4)) (some (ci 4)) 4 1=some (.sref 0 0 0 4 1 (some 4)):=fun _=>rfl
 have b1:ZS [.cells [.d (vi r0),.d (vi r1),.d (vi r2),.d (vi r3),.d (rD mm),.d (rD sk),.d (vi pc)] 0 false] 1 8 (.sref 0 0 0 4 1 (some 4)) [aI mm.length] 1=some (.fresh ((rC O1).map .d) 5):=by
  rw[<-h1];rfl
 have as2:mm.length=0->∀(A:List Blk) (i v o len sz:Nat) (k:Option Nat) (new:List AV),ZS A 1 8 (.sref i v o len sz k) new mm.length=some .same:=fun h A i v o len sz k new=>by rw[h];exact RJ A 1 8 i v o len sz k new
 have b2:mm.length≠0->∀(A:List Blk) (j v:Nat),A[j]? =some (.cells ((rC O1).map .d) v false)->ZS A 1 8 (.sref j v 0 5 1 none) ((rC mm).map .d) mm.length=some (.turn j (.cells ((rC O2).map .d) (v+1) false) (.sref j (v+1) 0 (5+mm.length) 1 none)):=fun h A j v hA=>by
  rw[<-h2];exact NW l1.symm hA h (by omega) (by omega)
 have b3:mm.length=0->∀(A:List Blk) (j v:Nat),A[j]? =some (.cells ((rC O1).map .d) v false)->ZS A 1 8 (.sref j v 0 5 1 none) [aI sk.length] 1=some (.turn j (.cells ((rC O3).map .d) (v+1) false) (.sref j (v+1) 0 (5+mm.length+1) 1 none)):=fun h A j v hA=>by
  have e1:mm=[]:=List.length_eq_zero_iff.1 h
  have q:O3=O1++[(sk.length:Int)]:=by rw[<-h3,<-h2,e1,List.append_nil]
  rw[q,h];exact DW l1.symm hA (by omega) (by omega)
 have a3:∀(A:List Blk) (j v:Nat),A[j]? =some (.cells ((rC O2).map .d) v false)->ZS A 1 8 (.sref j v 0 (5+mm.length) 1 none) [aI sk.length] 1=some (.turn j (.cells ((rC O3).map .d) (v+1) false) (.sref j (v+1) 0 (5+mm.length+1) 1 none)):=fun A j v hA=>by
  rw[<-h3];exact DW l2.symm hA (by omega) (by omega)
 have s4:sk.length=0->∀(A:List Blk) (i v o len sz:Nat) (k:Option Nat) (new:List AV),ZS A 1 8 (.sref i v o len sz k) new sk.length=some .same:=fun h A i v o len sz k new=>by rw[h];exact RJ A 1 8 i v o len sz k new
 have a4:sk.length≠0->∀(A:List Blk) (j v:Nat),A[j]? =some (.cells ((rC O3).map .d) v false)->ZS A 1 8 (.sref j v 0 (5+mm.length+1) 1 none) ((rC sk).map .d) sk.length=some (.turn j (.cells ((rC O4).map .d) (v+1) false) (.sref j (v+1) 0 (5+mm.length+1+sk.length) 1 none)):=fun h A j v hA=>by
  rw[<-h4];exact NW l3.symm hA h (by omega) (by omega)
 have a5':sk.length=0->∀(A:List Blk) (j v:Nat),A[j]? =some (.cells ((rC O3).map .d) v false)->ZS A 1 8 (.sref j v 0 (5+mm.length+1) 1 none) [aI pc] 1=some (.turn j (.cells ((rC (O4++[pc])).map .d) (v+1) false) (.sref j (v+1) 0 (5+mm.length+1+sk.length+1) 1 none)):=fun h A j v hA=>by
  have e2:sk=[]:=List.length_eq_zero_iff.1 h
  have q:O4=O3:=by rw[<-h4,e2,List.append_nil]
  rw[q,h];exact DW l3.symm hA (by omega) (by omega)
 by_cases m0:mm.length=0<;>by_cases s0:sk.length=0
 ·simp only[eG,go_sem,Z2 S,Z1 S,zN0,zN1,zN2,zN3,zN4,zI0,zI1,zI2,zI3,reduceCtorEq,Int.cast_ofNat_Int,Int.reduceToNat,Int.toNat_zero,true_and,if_true,Nat.zero_add,Nat.add_zero,HM,Zq,ZB,ZC,ZD,ZE,Option.map_some,JF,Sk,s1,b1,as2 m0,b3 m0,s4 s0,a5' s0]
 ·simp only[eG,go_sem,Z2 S,Z1 S,zN0,zN1,zN2,zN3,zN4,zI0,zI1,zI2,zI3,reduceCtorEq,Int.cast_ofNat_Int,Int.reduceToNat,Int.toNat_zero,true_and,if_true,Nat.zero_add,Nat.add_zero,HM,Zq,ZB,ZC,ZD,ZE,Option.map_some,JF,Sk,s1,b1,as2 m0,b3 m0,a4 s0,a5]
 ·simp only[eG,go_sem,Z2 S,Z1 S,zN0,zN1,zN2,zN3,zN4,zI0,zI1,zI2,zI3,reduceCtorEq,Int.cast_ofNat_Int,Int.reduceToNat,Int.toNat_zero,true_and,if_true,Nat.zero_add,Nat.add_zero,HM,Zq,ZB,ZC,ZD,ZE,Option.map_some,JF,Sk,s1,b1,b2 m0,a3,s4 s0,a5' s0]
 ·simp only[eG,go_sem,Z2 S,Z1 S,zN0,zN1,zN2,zN3,zN4,zI0,zI1,zI2,zI3,reduceCtorEq,Int.cast_ofNat_Int,Int.reduceToNat,Int.toNat_zero,true_and,if_true,Nat.zero_add,Nat.add_zero,HM,Zq,ZB,ZC,ZD,ZE,Option.map_some,JF,Sk,s1,b1,b2 m0,a3,a4 s0,a5]
theorem Z6b (dp:Nat)(l:List Int)(k:Nat)(n:Int)(kx:Nat->K)(kr:K)(P:Option (AV×List Blk)->Prop)(R:List Byt)
  (hx:∀ T,ZG .bot T 3=.sref 0 0 0 R.length 1 none->ZG .bot T 7=.d (rD l)->ZG .bot T 8=aI l.length->ZG .bot T 9=aI k->P (kx 2 (mk .bot 42 T) [.cells ((rC R).map .d) 0 false])):
  ∀(m f:Nat) (j:Int) (o:List Byt),j=8*(m:Int)-8->m<=8->m<=f->o.length+m<99999999999->o++B7 n m=R->
  P (Hw (Zj E 46) (Z5 E fn dp) (Z9 20 Hw (Zj E 46) (Z5 E fn dp) kx kr f) kx kr (mk .bot 42 [(3,.sref 0 0 0 o.length 1 none),(5,aI n),(6,aI j),(7,.d (rD l)),(8,aI l.length),(9,aI k)]) [.cells ((rC o).map .d) 0 false]):=by
 intro m
 induction m with
 | zero=>
  intro f j o hj _ _ _ hr
  obtain rfl:j= -8:=by omega
  have hr:o=R:=by simpa [B7] using hr
  subst hr
  generalize Z9 20 Hw _ _ kx _ f=KK
  first | (conv=>lhs;rw[Hw]) | rw[Hw]
  simp only[eG,go_sem,Z2 S,Z1 S,zN0,zN1,zN2,zN3,zN4,zI0,zI1,zI2,zI3,reduceCtorEq,QM S,ge_iff_le]
  exact hx _ rfl rfl rfl rfl
 | succ m ih=>
  intro f j o hj hm8 hf hol hr
  obtain rfl:j=8*(m:Int):=by omega
  obtain⟨f,rfl⟩:∃ g,f=g+1:=⟨f-1,by omega⟩
  have hr':(o++[⟨GB n m⟩])++B7 n m=R:=by rw[<-hr,List.append_assoc];rfl
  have hle:(o++[(⟨GB n m⟩:Byt)]).length=o.length+1:=by rw[List.length_append];rfl
  have next:=ih f (8*(m:Int)-8) (o++[⟨GB n m⟩]) rfl (by omega) (by omega) (by rw[hle];omega) hr'
  rw[hle] at next
  have k1:(o.length+1)*1<=Z4:=by unfold Z4;omega
  have k2:o.length+1<=Z4:=by unfold Z4;omega
  have w2:IntKind.i64.wrap (8*(m:Int)-8)=8*(m:Int)-8:=YM (by omega) (by omega)
  have h0:0<=8*(m:Int):=by omega
  have hs:YF .shr (.d (.v (.int .u64 (IntKind.u64.wrap n)))) (.d (.v (.int .i64 (8*(m:Int)))))=some (.d (.v (.int .u64 ((IntKind.u64.wrap n).fdiv (2^(min (8*(m:Int)).toNat 64)))))):=X9 _ _ _ _ (by omega)
  have ap:∀(A:List Blk) (j v:Nat),A[j]? =some (.cells ((rC o).map .d) v false)->ZS A 1 1 (.sref j v 0 o.length 1 none) [.d (.v (.int .u8 (IntKind.u8.wrap ((IntKind.u64.wrap n).fdiv (2^(min (8*(m:Int)).toNat 64))))))] 1=some (.turn j (.cells ((rC (o++[⟨GB n m⟩])).map .d) (v+1) false) (.sref j (v+1) 0 (o.length+1) 1 none)):=fun A j v hA=>Z7f rfl hA k1 k2
  generalize hK:Z9 20 Hw _ _ kx _ (f+1)=KK
  first | (conv=>lhs;rw[Hw]) | rw[Hw]
  simp only[eG,go_sem,Z2 S,Z1 S,zN0,zN1,zN2,zN3,zN4,zI0,zI1,zI2,zI3,reduceCtorEq,QM S,Zq,ZB,ZC,ZD,ZE,Option.map_some,JF,ge_iff_le,h0,w2,hs,ap]
  rw[<-hK,Z6 (on S _ _ [3,5,6,7,8,9] (by decide) rfl) rfl _ _ _ _ _ _ _ _ _ rfl]
  simp only[eG,go_sem,Z2 S,Z1 S,zN0,zN1,zN2,zN3,zN4,zI0,zI1,zI2,zI3,reduceCtorEq,QM S]
  exact next
theorem Zhf (dp:Nat)(l:List Int)(hl:l.length<1073741824)(kx:Nat->K)(D:Option DV)(R:List Byt)
  (hx:∀ T,ZG .bot T 3=.sref 0 0 0 R.length 1 none->Zz (kx 0 (mk .bot 42 T) [.cells ((rC R).map .d) 0 false])=D):
  ∀(m k f:Nat) (o:List Byt),k+m=l.length->m<=f->o.length+9*m<99999999999->o++YP (l.drop k)=R->
  Zz (EE (Zj E 46) (Z5 E fn dp) (Z9 8 EE (Zj E 46) (Z5 E fn dp) kx (YD 0 [.tmp 2]) f) kx (YD 0 [.tmp 2]) (mk .bot 42 [(3,.sref 0 0 0 o.length 1 none),(7,.d (rD l)),(8,aI l.length),(9,aI k)]) [.cells ((rC o).map .d) 0 false])=D:=by
 intro m
 induction m with
 | zero=>
  intro k f o hk _ _ hr
  rw[List.drop_of_length_le (by omega)] at hr
  have hr:o=R:=by simpa [YP] using hr
  subst hr
  generalize Z9 8 EE _ _ kx _ f=KK
  first | (conv=>lhs;rw[EE]) | rw[EE]
  simp only[eG,go_sem,Z2 S,Z1 S,zN0,zN1,zN2,zN3,zN4,zI0,zI1,zI2,zI3,reduceCtorEq,QM S,show ¬(k:Int)<l.length by omega]
  exact hx _ rfl
 | succ m ih=>
  intro k f o hk hf ho hr
  obtain⟨n,he⟩:=QB (show k<l.length by omega)
  obtain⟨f,rfl⟩:∃ g,f=g+1:=⟨f-1,by omega⟩
  have hkg:(k:Int)<l.length:=by omega
  have hr':(o++Qz n)++YP (l.drop (k+1))=R:=by
   rw[<-hr,E9 he];unfold YP;rw[List.flatMap_cons,List.append_assoc]
  have hle:(o++Qz n).length=o.length+(Qz n).length:=List.length_append
  have hp:=PF n
  have next:=ih (k+1) f (o++Qz n) (by omega) (by omega) (by omega) hr'
  have k1:(o.length+1)*1<=Z4:=by unfold Z4;omega
  have k2:o.length+1<=Z4:=by unfold Z4;omega
  have ap:∀(A:List Blk) (j v:Nat) (b:Int),A[j]? =some (.cells ((rC o).map .d) v false)->ZS A 1 1 (.sref j v 0 o.length 1 none) [.d (.v (.int .u8 b))] 1=some (.turn j (.cells ((rC (o++[⟨b⟩])).map .d) (v+1) false) (.sref j (v+1) 0 (o.length+1) 1 none)):=fun A j v b hA=>Z7f rfl hA k1 k2
  have inner:=fun(kx':Nat->K) (kr':K) D' R' hx'=>Z6b S dp l k n kx' kr' D' R' hx' 8 999999999999999999999999999999 56 (o++[⟨255⟩]) (by omega) (by omega) (by omega) (by rw[List.length_append];simp;omega)
  have hle2:(o++[(⟨255⟩:Byt)]).length=o.length+1:=by rw[List.length_append];rfl
  simp only[hle2] at inner
  generalize hK:Z9 8 EE _ _ kx _ (f+1)=KK
  first | (conv=>lhs;rw[EE]) | rw[EE]
  have wide:Qz n=⟨255⟩::B7 n 8->IntKind.i64.wrap n=IntKind.i64.wrap n:=fun _=>rfl
  by_cases h1: -1<=n
  ·by_cases h2 : n <= 253
   ·have hn : Qz n = [⟨IntKind.u8.wrap (IntKind.i64.wrap (n + 1))⟩] := by unfold Qz; rw [if_pos ⟨h1, h2⟩]
    rw[hn,List.length_append,List.length_singleton] at next
    simp only[eG,go_sem,Z2 S,Z1 S,zN0,zN1,zN2,zN3,zN4,zI0,zI1,zI2,zI3,reduceCtorEq,QM S,Zq,ZB,ZC,ZD,ZE,Option.map_some,JF,hkg,ZF he,wi k (by omega),ge_iff_le,h1,h2,ap]
    rw[<-hK,Z6 (on S _ _ [3,7,8,9] (by decide) rfl) rfl _ _ _ _ _ _ _ _ _ rfl]
    simp only[eG,go_sem,Z2 S,Z1 S,zN0,zN1,zN2,zN3,zN4,zI0,zI1,zI2,zI3,reduceCtorEq,QM S]
    exact next
   ·have hn : Qz n = ⟨255⟩ :: B7 n 8 := by unfold Qz; rw [if_neg (by omega)]
    rw[hn] at next
    simp only[eG,go_sem,Z2 S,Z1 S,zN0,zN1,zN2,zN3,zN4,zI0,zI1,zI2,zI3,reduceCtorEq,QM S,Zq,ZB,ZC,ZD,ZE,Option.map_some,JF,hkg,ZF he,wi k (by omega),ge_iff_le,h1,h2,ap]
    rw[ZU,Z6 (on S _ _ [3,5,6,7,8,9] (by decide) rfl) rfl _ _ _ _ _ _ _ _ _ rfl]
    simp only[eG,go_sem,Z2 S,Z1 S,zN0,zN1,zN2,zN3,zN4,zI0,zI1,zI2,zI3,reduceCtorEq,QM S]
    refine inner _ _ (fun r=>Zz r=D) (o++⟨255⟩::B7 n 8) ?_ (by rw[List.append_assoc];rfl)
    intro T t3 t7 t8 t9
    simp only[eG,go_sem,Z2 S,Z1 S,zN0,zN1,zN2,zN3,zN4,zI0,zI1,zI2,zI3,reduceCtorEq,QM S,t3,t7,t8,t9,wi k (by omega)]
    rw[<-hK,Z6 (on S _ _ [3,7,8,9] (by decide) rfl) rfl _ _ _ _ _ _ _ _ _ rfl]
    simp only[eG,go_sem,Z2 S,Z1 S,zN0,zN1,zN2,zN3,zN4,zI0,zI1,zI2,zI3,reduceCtorEq,QM S,t3,t7,t8,t9]
    exact next
  ·have hn : Qz n = ⟨255⟩ :: B7 n 8 := by unfold Qz; rw [if_neg (by omega)]
   rw[hn] at next
   simp only[eG,go_sem,Z2 S,Z1 S,zN0,zN1,zN2,zN3,zN4,zI0,zI1,zI2,zI3,reduceCtorEq,QM S,Zq,ZB,ZC,ZD,ZE,Option.map_some,JF,hkg,ZF he,wi k (by omega),ge_iff_le,h1,ap]
   rw[ZU,Z6 (on S _ _ [3,5,6,7,8,9] (by decide) rfl) rfl _ _ _ _ _ _ _ _ _ rfl]
   simp only[eG,go_sem,Z2 S,Z1 S,zN0,zN1,zN2,zN3,zN4,zI0,zI1,zI2,zI3,reduceCtorEq,QM S]
   refine inner _ _ (fun r=>Zz r=D) (o++⟨255⟩::B7 n 8) ?_ (by rw[List.append_assoc];rfl)
   intro T t3 t7 t8 t9
   simp only[eG,go_sem,Z2 S,Z1 S,zN0,zN1,zN2,zN3,zN4,zI0,zI1,zI2,zI3,reduceCtorEq,QM S,t3,t7,t8,t9,wi k (by omega)]
   rw[<-hK,Z6 (on S _ _ [3,7,8,9] (by decide) rfl) rfl _ _ _ _ _ _ _ _ _ rfl]
   simp only[eG,go_sem,Z2 S,Z1 S,zN0,zN1,zN2,zN3,zN4,zI0,zI1,zI2,zI3,reduceCtorEq,QM S,t3,t7,t8,t9]
   exact next
theorem Z1e (dp:Nat)(l:List Int)(hl:l.length<1073741824)(h0:l≠[]):Z7 E fn (dp+1) 46 [rD l] (rD (YP l)):=by
 unfold Z7
 show Zz (Z5 E fn (dp+1) 46 [.d (rD l)] [])=_
 rw[Yx,S.Z5e,Yw,Z8z,Yq _ _ _ _ _ _ _ _ rfl]
 simp only[eG,go_sem,Z2 S,Z1 S,zN0,zN1,zN2,zN3,zN4,zI0,zI1,zI2,zI3,reduceCtorEq,QM S]
 rw[ZU,Z6 (on S _ _ [3,7,8,9] (by decide) rfl) rfl _ _ _ _ _ _ _ _ _ rfl]
 simp only[eG,go_sem,Z2 S,Z1 S,zN0,zN1,zN2,zN3,zN4,zI0,zI1,zI2,zI3,reduceCtorEq,QM S]
 obtain⟨n,l',rfl⟩:∃ n l',l=n::l':=by
  cases l with
  | nil=>exact absurd rfl h0
  | cons n l'=>exact⟨n,l',rfl⟩
 have he:(n::l')[0]? =some n:=rfl
 have hll:(n::l').length=l'.length+1:=rfl
 have hkg:(0:Int)<((l'.length+1:Nat):Int):=by omega
 have w01:IntKind.i64.wrap (0+1)=1:=rfl
 have w0:=EK (l:=n::l') (i:=0) (by decide) he .i64 1 rfl
 have hne:YP (n::l')≠[]:=by
  intro h
  have:=(PF n).1
  have h2:Qz n++YP l'=[]:=h
  have h3:=congrArg List.length h2
  rw[List.length_append,List.length_nil] at h3
  omega
 have hdA:deep [.cells ((rC (YP (n::l'))).map .d) 0 false] 8 (.sref 0 0 0 (YP (n::l')).length 1 none)=some (.lst (rC (YP (n::l'))) (YP (n::l')).length none,[0]):=Ck (YP (n::l')) hne _ rfl 6 1 none rfl
 have go:=fun(kx:Nat->K) (D:Option DV) hx=>Zhf S dp (n::l') hl kx D (YP (n::l')) hx l'.length 1 999999999999999999999999999998 (Qz n) (by omega) (by omega) (by have:=PF n;omega) rfl
 simp only[Int.cast_ofNat_Int] at go
 have inner:=fun(kx':Nat->K) (kr':K) D' R' hx'=>Z6b S dp (n::l') 0 n kx' kr' D' R' hx' 8 999999999999999999999999999999 56 [⟨255⟩] (by omega) (by omega) (by omega) (by simp)
 simp only[Int.cast_ofNat_Int,List.length_singleton] at inner
 generalize hK:Z9 8 EE _ _ _ _ _=KK
 first | (conv=>lhs;rw[EE]) | rw[EE]
 by_cases h1: -1<=n
 ·by_cases h2 : n <= 253
  ·have hn : Qz n = [⟨IntKind.u8.wrap (IntKind.i64.wrap (n + 1))⟩] := by unfold Qz; rw [if_pos ⟨h1, h2⟩]
   rw[hn] at go
   simp only[eG,go_sem,Z2 S,Z1 S,zN0,zN1,zN2,zN3,zN4,zI0,zI1,zI2,zI3,reduceCtorEq,QM S,Zq,ZB,ZC,ZD,ZE,Option.map_some,JF,hkg,w01,w0,ge_iff_le,h1,h2,VN,Nat.zero_add,Nat.one_mul,Nat.zero_mul,and_self,true_and]
   rw[<-hK,show(999999999999999999999999999999:Nat)=999999999999999999999999999998+1 from rfl,Z6 (on S _ _ [3,7,8,9] (by decide) rfl) rfl _ _ _ _ _ _ _ _ _ rfl]
   simp only[eG,go_sem,Z2 S,Z1 S,zN0,zN1,zN2,zN3,zN4,zI0,zI1,zI2,zI3,reduceCtorEq,QM S]
   refine go _ _ ?_
   intro T t3
   simp only[eG,go_sem,Z2 S,Z1 S,zN0,zN1,zN2,zN3,zN4,zI0,zI1,zI2,zI3,reduceCtorEq,QM S,t3,hdA]
   rfl
  ·have hn : Qz n = ⟨255⟩ :: B7 n 8 := by unfold Qz; rw [if_neg (by omega)]
   rw[hn] at go
   simp only[eG,go_sem,Z2 S,Z1 S,zN0,zN1,zN2,zN3,zN4,zI0,zI1,zI2,zI3,reduceCtorEq,QM S,Zq,ZB,ZC,ZD,ZE,Option.map_some,JF,hkg,w01,w0,ge_iff_le,h1,h2,VN,Nat.zero_add,Nat.one_mul,Nat.zero_mul,and_self,true_and]
   rw[ZU,Z6 (on S _ _ [3,5,6,7,8,9] (by decide) rfl) rfl _ _ _ _ _ _ _ _ _ rfl]
   simp only[eG,go_sem,Z2 S,Z1 S,zN0,zN1,zN2,zN3,zN4,zI0,zI1,zI2,zI3,reduceCtorEq,QM S]
   refine inner _ _ (fun r=>Zz r=some (rD (YP (n::l')))) (⟨255⟩::B7 n 8) ?_ rfl
   intro T t3 t7 t8 t9
   simp only[eG,go_sem,Z2 S,Z1 S,zN0,zN1,zN2,zN3,zN4,zI0,zI1,zI2,zI3,reduceCtorEq,QM S,t3,t7,t8,t9,w01]
   rw[<-hK,show(999999999999999999999999999999:Nat)=999999999999999999999999999998+1 from rfl,Z6 (on S _ _ [3,7,8,9] (by decide) rfl) rfl _ _ _ _ _ _ _ _ _ rfl]
   simp only[eG,go_sem,Z2 S,Z1 S,zN0,zN1,zN2,zN3,zN4,zI0,zI1,zI2,zI3,reduceCtorEq,QM S,t3,t7,t8,t9]
   refine go _ _ ?_
   intro T t3
   simp only[eG,go_sem,Z2 S,Z1 S,zN0,zN1,zN2,zN3,zN4,zI0,zI1,zI2,zI3,reduceCtorEq,QM S,t3,hdA]
   rfl
 ·have hn : Qz n = ⟨255⟩ :: B7 n 8 := by unfold Qz; rw [if_neg (by omega)]
  rw[hn] at go
  simp only[eG,go_sem,Z2 S,Z1 S,zN0,zN1,zN2,zN3,zN4,zI0,zI1,zI2,zI3,reduceCtorEq,QM S,Zq,ZB,ZC,ZD,ZE,Option.map_some,JF,hkg,w01,w0,ge_iff_le,h1,VN,Nat.zero_add,Nat.one_mul,Nat.zero_mul,and_self,true_and]
  rw[ZU,Z6 (on S _ _ [3,5,6,7,8,9] (by decide) rfl) rfl _ _ _ _ _ _ _ _ _ rfl]
  simp only[eG,go_sem,Z2 S,Z1 S,zN0,zN1,zN2,zN3,zN4,zI0,zI1,zI2,zI3,reduceCtorEq,QM S]
  refine inner _ _ (fun r=>Zz r=some (rD (YP (n::l')))) (⟨255⟩::B7 n 8) ?_ rfl
  intro T t3 t7 t8 t9
  simp only[eG,go_sem,Z2 S,Z1 S,zN0,zN1,zN2,zN3,zN4,zI0,zI1,zI2,zI3,reduceCtorEq,QM S,t3,t7,t8,t9,w01]
  rw[<-hK,show(999999999999999999999999999999:Nat)=999999999999999999999999999998+1 from rfl,Z6 (on S _ _ [3,7,8,9] (by decide) rfl) rfl _ _ _ _ _ _ _ _ _ rfl]
  simp only[eG,go_sem,Z2 S,Z1 S,zN0,zN1,zN2,zN3,zN4,zI0,zI1,zI2,zI3,reduceCtorEq,QM S,t3,t7,t8,t9]
  refine go _ _ ?_
  intro T t3
  simp only[eG,go_sem,Z2 S,Z1 S,zN0,zN1,zN2,zN3,zN4,zI0,zI1,zI2,zI3,reduceCtorEq,QM S,t3,hdA]
  rfl
theorem Zi9 (dp:Nat)(l:List Int)(hl:l.length<1073741824)(h0:l≠[])(A:List Blk)(nb:Nat):ZX false E (Z5 E fn (dp+1)) 46 A nb (some ([rD l],[]))=some (.made (.d (rD (YP l))) []):=
 Z7.deep (Z1e S dp l hl h0) (np S 46 (by decide)) A nb
theorem XV (dp:Nat)(l:List Int)(hl:l.length<1073741824)(h0:l≠[])(hf:DV.flat 8 (rD (YP l))=false)(A:List Blk)(nb ui:Nat)(us:List Nat):ZX false E (Z5 E fn (dp+1)) 46 A nb (some ([rD l],ui::us))=some (.turned (.d (rD (YP l))) (Yv A (ui::us))):=
 Z7.used (Z1e S dp l hl h0) (np S 46 (by decide)) hf A nb ui us
theorem Zdm (dp:Nat)(r0 r1 r2 r3:Int)(mm sk:List Int)(pc:Int)(hm:mm.length<1073741824)(hs:sk.length<1073741824)(A:List Blk)(nb:Nat):
  ZX true E (Z5 E fn (dp+1)) 79 A nb (some ([.agg [vi r0,vi r1,vi r2,vi r3,rD mm,rD sk,vi pc]],[]))=some (.made (.sref nb 0 0 (JA ⟨⟨r0,r1,r2,r3⟩,mm,sk,pc⟩).length 1 none) [.cells ((rC (JA ⟨⟨r0,r1,r2,r3⟩,mm,sk,pc⟩)).map .d) 0 false]):=by
 have h:=Zd1 S dp r0 r1 r2 r3 mm sk pc hm hs
 have hr:Jz E (Z5 E fn (dp+1)) 79 [.agg [vi r0,vi r1,vi r2,vi r3,rD mm,rD sk,vi pc]]=some (.sref 0 0 0 (JA ⟨⟨r0,r1,r2,r3⟩,mm,sk,pc⟩).length 1 none,[.cells ((rC (JA ⟨⟨r0,r1,r2,r3⟩,mm,sk,pc⟩)).map .d) 0 false]):=by
  unfold Jz
  rw[np S 79 (by decide)]
  exact h
 simp only[ZX,hr,G9,cond_true]
 simp[CE,GH,CJ,ZW]
theorem Zbq (dp:Nat)(b:Bool):Z7 E fn (dp+1) 80 [vb b] (vi (Md.CS b)):=by
 unfold Z7
 show Zz (Z5 E fn (dp+1) 80 [.d (vb b)] [])=_
 rw[Yx,S.Z5c,Yw,Z8x,Yq _ _ _ _ _ _ _ _ rfl]
 cases b<;>simp only[eG,go_sem,Z2 S,Z1 S,zN0,zN1,zN2,zN3,zN4,zI0,zI1,zI2,zI3,reduceCtorEq,Zd7 S]<;>rfl
theorem Zi8 (dp:Nat)(b:Bool)(A:List Blk)(nb:Nat)(us:List Nat):ZX false E (Z5 E fn (dp+1)) 80 A nb (some ([vb b],us))=some (.made (.d (vi (Md.CS b))) []):=
 Z7.flat (Zbq S dp b ) (np S 80 (by decide)) (rfl) A nb us
theorem Zew (dp:Nat)(c:Conf)(hb:c.buf.length<1073741824)(kx:Nat->K)(D:DV)(R:List Int)
  (hx:∀ T,ZG .bot T 1=.ref 0 0 0->ZG .bot T 3=.sref 1 0 0 R.length 1 none->Zz (kx 0 (mk .bot 60 T) [.cells ((QU c).map .d) 0 false,.cells ((rC R).map .d) 0 false])=some D):
  ∀(m k f:Nat) (o:List Int),k+m=c.buf.length->m<=f->o.length+8*m<17179869184->o++(c.buf.drop k).flatMap BG=R->
  Zz (Hj (Zj E 44) (Z5 E fn (dp+1)) (Z9 8 Hj (Zj E 44) (Z5 E fn (dp+1)) kx (YD 0 [.tmp 2]) f) kx (YD 0 [.tmp 2]) (mk .bot 60 [(1,.ref 0 0 0),(3,.sref 1 0 0 o.length 1 none),(15,.d (rD c.buf)),(16,aI c.buf.length),(17,aI k)]) [.cells ((QU c).map .d) 0 false,.cells ((rC o).map .d) 0 false])=some D:=by
 intro m
 induction m with
 | zero=>
  intro k f o hk _ _ hr
  rw[List.drop_of_length_le (by omega)] at hr
  have hr:o=R:=by simpa using hr
  subst hr
  generalize Z9 8 Hj _ _ kx _ f=KK
  first | (conv=>lhs;rw[Hj]) | rw[Hj]
  simp only[eG,go_sem,Z2 S,Z1 S,zN0,zN1,zN2,zN3,zN4,zI0,zI1,zI2,zI3,reduceCtorEq,M2 S,show ¬(k:Int)<c.buf.length by omega]
  exact hx _ rfl rfl
 | succ m ih=>
  intro k f o hk hf ho hr
  obtain⟨e,he⟩:=QB (show k<c.buf.length by omega)
  obtain⟨f,rfl⟩:∃ g,f=g+1:=⟨f-1,by omega⟩
  have hkg:(k:Int)<c.buf.length:=by omega
  have hr':(o++BG e)++(c.buf.drop (k+1)).flatMap BG=R:=by
   rw[<-hr,E9 he,List.flatMap_cons,List.append_assoc]
  have hle:(o++BG e).length=o.length+8:=by rw[List.length_append];rfl
  have:=ih (k+1) f (o++BG e) (by omega) (by omega) (by rw[hle];omega) hr'
  rw[hle] at this
  have k1:(o.length+8)*8<=Z4:=by unfold Z4;omega
  have k2:o.length+8<=Z4:=by unfold Z4;omega
  have ap:∀(A:List Blk) (j v:Nat) (t1 t2 t3:Int),A[j]? =some (.cells ((rC o).map .d) v false)->ZS A 1 8 (.sref j v 0 o.length 1 none) [aI e.pc,aI e.val,aI e.addr,aI e.frm,aI e.next,aI t1,aI t2,aI t3] 8=some (.turn j (.cells ((rC (o++[e.pc,e.val,e.addr,e.frm,e.next,t1,t2,t3])).map .d) (v+1) false) (.sref j (v+1) 0 (o.length+8) 1 none)):=fun A j v t1 t2 t3 hA=>Z7g _ _ _ _ _ _ _ _ rfl hA k1 k2
  generalize hK:Z9 8 Hj _ _ kx _ (f+1)=KK
  first | (conv=>lhs;rw[Hj]) | rw[Hj]
  simp only[eG,go_sem,Z2 S,Z1 S,zN0,zN1,zN2,zN3,zN4,zI0,zI1,zI2,zI3,reduceCtorEq,M2 S,Z10,Z2f,ZB,ZC,ZD,ZE,Option.map_some,hkg,ZF he,wi k (by omega),Zi8 S,ap]
  rw[<-hK,Z6 (on S _ _ [1,3,15,16,17] (by decide) rfl) rfl _ _ _ _ _ _ _ _ _ rfl]
  simp only[eG,go_sem,Z2 S,Z1 S,zN0,zN1,zN2,zN3,zN4,zI0,zI1,zI2,zI3,reduceCtorEq,M2 S]
  exact this
theorem Z1d (dp:Nat)(c:Conf)(hm:c.state.mem.length<1073741824)(hs:c.state.stack.length<1073741824)(hb:c.buf.length<1073741824)(hr:c.rsb.length<1073741824)(h9:(Y3 c).length<1073741824):Z7 E fn (dp+3) 44 [ZY c] (rD (YP (Y3 c))):=by
 unfold Z7
 show Zz (Z5 E fn (dp+2+1) 44 [.d (ZY c)] [])=_
 rw[Yx,S.Z5d,Yw,Z8y,Yq _ _ _ _ _ _ _ _ rfl]
 generalize h1:JA c.state=O1
 generalize h2:O1++[(c.buf.length:Int)]=O2
 generalize h3:O2++c.buf.flatMap BG=O3
 generalize h4:O3++[(c.rsb.length:Int)]=O4
 generalize h5:O4++c.rsb=O5
 have hi:Y3 c=O5++[c.end_]:=by rw[<-h5,<-h4,<-h3,<-h2,<-h1];rfl
 have l1:O1.length<2147483656:=by rw[<-h1];unfold JA;simp;omega
 have l2:O2.length=O1.length+1:=by rw[<-h2,List.length_append];rfl
 have hfl:∀ l:List Ent,(l.flatMap BG).length=8*l.length:=by
  intro l
  induction l with
  | nil=>rfl
  | cons e l ih=>rw[List.flatMap_cons,List.length_append,ih,List.length_cons];show 8+_=_;omega
 have l3:O3.length=O2.length+8*c.buf.length:=by rw[<-h3,List.length_append,hfl]
 have l4:O4.length=O3.length+1:=by rw[<-h4,List.length_append];rfl
 have l5:O5.length=O4.length+c.rsb.length:=by rw[<-h5,List.length_append]
 have lim:Z4=1099511627776:=rfl
 have a2:∀(A:List Blk) (j v:Nat),A[j]? =some (.cells ((rC O1).map .d) v false)->ZS A 1 8 (.sref j v 0 O1.length 1 none) [aI c.buf.length] 1=some (.turn j (.cells ((rC O2).map .d) (v+1) false) (.sref j (v+1) 0 (O1.length+1) 1 none)):=fun A j v hA=>by
  rw[<-h2];exact DW rfl hA (by omega) (by omega)
 have a4:∀(A:List Blk) (j v:Nat),A[j]? =some (.cells ((rC O3).map .d) v false)->ZS A 1 8 (.sref j v 0 O3.length 1 none) [aI c.rsb.length] 1=some (.turn j (.cells ((rC O4).map .d) (v+1) false) (.sref j (v+1) 0 O4.length 1 none)):=fun A j v hA=>by
  rw[l4,<-h4];exact DW rfl hA (by omega) (by omega)
 have s5:c.rsb.length=0->∀(A:List Blk) (i v o len sz:Nat) (k:Option Nat) (new:List AV),ZS A 1 8 (.sref i v o len sz k) new c.rsb.length=some .same:=fun h A i v o len sz k new=>by rw[h];exact RJ A 1 8 i v o len sz k new
 have a5:c.rsb.length≠0->∀(A:List Blk) (j v:Nat),A[j]? =some (.cells ((rC O4).map .d) v false)->ZS A 1 8 (.sref j v 0 O4.length 1 none) ((rC c.rsb).map .d) c.rsb.length=some (.turn j (.cells ((rC O5).map .d) (v+1) false) (.sref j (v+1) 0 O5.length 1 none)):=fun h A j v hA=>by
  rw[l5,<-h5];exact NW rfl hA h (by omega) (by omega)
 have a6:∀(A:List Blk) (j v:Nat),A[j]? =some (.cells ((rC O5).map .d) v false)->ZS A 1 8 (.sref j v 0 O5.length 1 none) [aI c.end_] 1=some (.turn j (.cells ((rC (O5++[c.end_])).map .d) (v+1) false) (.sref j (v+1) 0 (O5.length+1) 1 none)):=fun A j v hA=>DW rfl hA (by omega) (by omega)
 have hd:O5++[c.end_]≠[]->∀(A:List Blk) (v:Nat),A[1]? =some (.cells ((rC (O5++[c.end_])).map .d) v false)->deep A 8 (.sref 1 v 0 (O5.length+1) 1 none)=some (rD (O5++[c.end_]),[1]):=fun h A v hA=>by
  rw[show O5.length+1=(O5++[c.end_]).length by rw[List.length_append];rfl]
  exact Z62 (α:=Int) h hA 6 none
 have hmk:JA ⟨⟨c.state.regs.r0,c.state.regs.r1,c.state.regs.r2,c.state.regs.r3⟩,c.state.mem,c.state.stack,c.state.pc⟩=O1:=h1
 have hne:O5++[c.end_]≠[]:=by simp
 rw[hi] at h9 ⊢
 simp only[eG,go_sem,Z2 S,Z1 S,zN0,zN1,zN2,zN3,zN4,zI0,zI1,zI2,zI3,reduceCtorEq,M2 S,Zq,ZB,ZC,ZD,ZE,Option.map_some,JF,Zdm S,hm,hs,h1,a2]
 rw[ZU,Z6 (on S _ _ [1,3,15,16,17] (by decide) rfl) rfl _ _ _ _ _ _ _ _ _ rfl]
 simp only[eG,go_sem,Z2 S,Z1 S,zN0,zN1,zN2,zN3,zN4,zI0,zI1,zI2,zI3,reduceCtorEq,M2 S]
 have go:=fun(kx:Nat->K) (D:DV) hx=>Zew S (dp+1) c hb kx D O3 hx c.buf.length 0 999999999999999999999999999999 O2 (by omega) (by omega) (by omega) (by rw[List.drop_zero];exact h3)
 rw[l2] at go
 refine go _ _ ?_
 intro T t1 t3
 by_cases r0:c.rsb.length=0
 ·have e5 : O5 = O4 := by rw [<- h5, List.length_eq_zero_iff.1 r0, List.append_nil]
  rw[e5] at a6 hd hne h9 ⊢
  simp only[eG,go_sem,Z2 S,Z1 S,zN0,zN1,zN2,zN3,zN4,zI0,zI1,zI2,zI3,reduceCtorEq,M2 S,Zq,ZB,ZC,ZD,ZE,Option.map_some,JF,t1,t3,a4,s5 r0,a6,hd hne,XV S (dp+1) _ h9 hne (Z3x (M1 hne))]
  try rfl
 ·simp only [eG, go_sem, Z2 S, Z1 S, zN0, zN1, zN2, zN3, zN4, zI0, zI1, zI2, zI3, reduceCtorEq, M2 S, Zq, ZB, ZC, ZD, ZE, Option.map_some, JF, t1, t3, a4, a5 r0, a6, hd hne, XV S (dp + 1) _ h9 hne (Z3x (M1 hne))]
  try rfl
end
end Go.Aug.Mc
