import Derived.Test.YthnhboimcidhgaaGreatDoorMk
import Derived.Test.YthnhboimcidhgaaGreatDoorMc6
import Derived.Test.YthnhboimcidhgaaGreatDoorBo2
import Derived.Test.YthnhboimcidhgaaGreatDoorMa
namespace Go.Aug.Mc
open Go Go.Aug
open Nat renaming reduceLT -> zN0, reduceEqDiff -> zN1, reduceAdd -> zN2, reduceMul -> zN3, reduceLeDiff -> zN4
open Int renaming reduceEq -> zI0, reduceLT -> zI1, reduceLE -> zI2, reduceNeg -> zI3
set_option linter.unusedSimpArgs false
set_option linter.unusedVariables false
set_option maxHeartbeats 40000000
set_option maxRecDepth 200000
theorem app_rowI {A:List Blk}{bytes j v:Nat}{out l:List Int}{new:List AV}{n:Nat}(hA:A[j]? =some (.cells ((rC out).map .d) v false))(hn:new=(rC l).map .d)(hl:n=l.length)(h0:n≠0)(h1:(out.length+n)*bytes<=limA)(h2:out.length+n<=limA):
  evApp A 1 bytes (.sref j v 0 out.length 1 none) new n=some (.turn j (.cells ((rC (out++l)).map .d) (v+1) false) (.sref j (v+1) 0 (out.length+n) 1 none)):=by
 subst hn hl
 have e:(rC (out++l)).map AV.d=(rC out).map .d++(rC l).map .d:=by rw[rowC_app,List.map_append]
 rw[evApp_sref,if_neg h0,if_neg (by rw[one_row];simp;exact⟨by omega,by omega⟩),hA,e]
 have hl:((rC out).map AV.d).length=out.length*1:=by rw[List.length_map,rowC_len];rfl
 have:¬0+(out.length+l.length)*1<=((rC out).map AV.d).length:=by rw[hl];omega
 simp only[ne_eq,not_true_eq_false,false_or]
 rw[if_neg (by omega),if_neg (by simp),if_neg this]
 exact if_pos ⟨trivial,hl.symm⟩
theorem nc1' (A:List Blk)(x:DV)(k:Option Nat):newCells A false 1 (.d (.lst [x] 1 k))=some ([.d x],1):=rfl
theorem app_x {A:List Blk}{bytes j v:Nat}{out:List Int}{n:Int}{len:Nat}(hl:len=out.length)(hA:A[j]? =some (.cells ((rC out).map .d) v false))(h1:(len+1)*bytes<=limA)(h2:len+1<=limA):
  evApp A 1 bytes (.sref j v 0 len 1 none) [aI n] 1=some (.turn j (.cells ((rC (out++[n])).map .d) (v+1) false) (.sref j (v+1) 0 (len+1) 1 none)):=by
 subst hl;exact app_endI hA h1 h2
theorem app_y {A:List Blk}{bytes j v:Nat}{out l:List Int}{len:Nat}(hl:len=out.length)(hA:A[j]? =some (.cells ((rC out).map .d) v false))(h0:l.length≠0)(h1:(len+l.length)*bytes<=limA)(h2:len+l.length<=limA):
  evApp A 1 bytes (.sref j v 0 len 1 none) ((rC l).map .d) l.length=some (.turn j (.cells ((rC (out++l)).map .d) (v+1) false) (.sref j (v+1) 0 (len+l.length) 1 none)):=by
 subst hl;exact app_rowI hA rfl rfl h0 h1 h2
theorem app_k {A:List Blk}{bytes:Nat}{out l:List Int}{len:Nat}(hl:len=out.length)(h0:l.length≠0)(h1:(len+l.length)*bytes<=limA)(h2:len+l.length<=limA):
  evApp A 1 bytes (.d (.lst (rC out) len (some len))) ((rC l).map .d) l.length=some (.fresh ((rC (out++l)).map .d) (len+l.length)):=by
 subst hl
 have e:(rC (out++l)).map AV.d=(rC out).map .d++(rC l).map .d:=by rw[rowC_app,List.map_append]
 unfold evApp
 rw[if_neg h0,e]
 exact if_pos ⟨by omega,by rw[rowC_len];rfl,h1,h2⟩
def ints7 (s:State):List Int:=[s.regs.r0,s.regs.r1,s.regs.r2,s.regs.r3,s.mem.length]++s.mem++[(s.stack.length:Int)]++s.stack++[s.pc]
theorem rep5 {α:Type}(l:List α):rep l 5=l++(l++(l++(l++l))):=by simp[rep]
variable {E:Env} {fn:FuncId->Option (Env->cT->cT)}
section
variable (S:Sur E fn)
include S
theorem o48_38:E.lives 48 1=none:=off S 48 1 (by decide) rfl
theorem own_Ints (dp:Nat)(r0 r1 r2 r3:Int)(mm sk:List Int)(pc:Int)(hm:mm.length<1073741824)(hs:sk.length<1073741824):
  evC E fn (dp+1) 92 [.d (.agg [vi r0,vi r1,vi r2,vi r3,rD mm,rD sk,vi pc])] []=some (.sref 0 0 0 (ints7 ⟨⟨r0,r1,r2,r3⟩,mm,sk,pc⟩).length 1 none,[.cells ((rC (ints7 ⟨⟨r0,r1,r2,r3⟩,mm,sk,pc⟩)).map .d) 0 false]):=by
 rw[evC_succ,S.f_r7_Ints,apF_some,F_r7_Ints,mkF_run _ _ _ _ _ _ _ _ rfl]
 generalize h1:[r0,r1,r2,r3,(mm.length:Int)]=O1
 generalize h2:O1++mm=O2
 generalize h3:O2++[(sk.length:Int)]=O3
 generalize h4:O3++sk=O4
 have l1:O1.length=5:=by rw[<-h1];rfl
 have l2:O2.length=5+mm.length:=by rw[<-h2,List.length_append,l1]
 have l3:O3.length=5+mm.length+1:=by rw[<-h3,List.length_append,l2];rfl
 have l4:O4.length=5+mm.length+1+sk.length:=by rw[<-h4,List.length_append,l3]
 have hi:ints7 ⟨⟨r0,r1,r2,r3⟩,mm,sk,pc⟩=O4++[pc]:=by rw[<-h4,<-h3,<-h2,<-h1];rfl
 have l5:(O4++[pc]).length=5+mm.length+1+sk.length+1:=by rw[List.length_append,l4];rfl
 have lim:limA=1099511627776:=rfl
 rw[hi,l5]
 have a5:∀(A:List Blk) (j v:Nat),A[j]? =some (.cells ((rC O4).map .d) v false)->evApp A 1 8 (.sref j v 0 (5+mm.length+1+sk.length) 1 none) [aI pc] 1=some (.turn j (.cells ((rC (O4++[pc])).map .d) (v+1) false) (.sref j (v+1) 0 (5+mm.length+1+sk.length+1) 1 none)):=fun A j v hA=>app_x l4.symm hA (by omega) (by omega)
 have as2:mm.length=0->∀(A:List Blk) (cs:List DV) (len:Nat) (k:Option Nat) (new:List AV),evApp A 1 8 (.d (.lst cs len k)) new mm.length=some .same:=fun h A cs len k new=>by rw[h];exact app_sameD A 1 8 len cs k new
 have b2:mm.length≠0->∀ A:List Blk,evApp A 1 8 (.d (.lst [vi r0,vi r1,vi r2,vi r3,vi mm.length] 5 (some 5))) ((rC mm).map .d) mm.length=some (.fresh ((rC O2).map .d) (5+mm.length)):=fun h A=>by
  rw[<-h2]
  have:=app_k (A:=A) (bytes:=8) (out:=O1) (l:=mm) l1.symm h (by omega) (by omega)
  rw[<-h1] at this ⊢
  exact this
 have b3:mm.length=0->∀ A:List Blk,evApp A 1 8 (.d (.lst [vi r0,vi r1,vi r2,vi r3,vi mm.length] 5 (some 5))) [aI sk.length] 1=some (.fresh ((rC O3).map .d) (5+mm.length+1)):=fun h A=>by
  have e1:mm=[]:=List.length_eq_zero_iff.1 h
  have q:O3=O1++[(sk.length:Int)]:=by rw[<-h3,<-h2,e1,List.append_nil]
  rw[q]
  have:=app_k (A:=A) (bytes:=8) (out:=O1) (l:=[(sk.length:Int)]) l1.symm (by simp) (by simp;omega) (by simp;omega)
  rw[show 5+mm.length+1=5+[(sk.length:Int)].length by rw[h];rfl]
  rw[<-h1] at this ⊢
  exact this
 have a3:∀(A:List Blk) (j v:Nat),A[j]? =some (.cells ((rC O2).map .d) v false)->evApp A 1 8 (.sref j v 0 (5+mm.length) 1 none) [aI sk.length] 1=some (.turn j (.cells ((rC O3).map .d) (v+1) false) (.sref j (v+1) 0 (5+mm.length+1) 1 none)):=fun A j v hA=>by
  rw[<-h3];exact app_x l2.symm hA (by omega) (by omega)
 have s4:sk.length=0->∀(A:List Blk) (i v o len sz:Nat) (k:Option Nat) (new:List AV),evApp A 1 8 (.sref i v o len sz k) new sk.length=some .same:=fun h A i v o len sz k new=>by rw[h];exact app_same A 1 8 i v o len sz k new
 have a4:sk.length≠0->∀(A:List Blk) (j v:Nat),A[j]? =some (.cells ((rC O3).map .d) v false)->evApp A 1 8 (.sref j v 0 (5+mm.length+1) 1 none) ((rC sk).map .d) sk.length=some (.turn j (.cells ((rC O4).map .d) (v+1) false) (.sref j (v+1) 0 (5+mm.length+1+sk.length) 1 none)):=fun h A j v hA=>by
  rw[<-h4];exact app_y l3.symm hA h (by omega) (by omega)
 have a5':sk.length=0->∀(A:List Blk) (j v:Nat),A[j]? =some (.cells ((rC O3).map .d) v false)->evApp A 1 8 (.sref j v 0 (5+mm.length+1) 1 none) [aI pc] 1=some (.turn j (.cells ((rC (O4++[pc])).map .d) (v+1) false) (.sref j (v+1) 0 (5+mm.length+1+sk.length+1) 1 none)):=fun h A j v hA=>by
  have e2:sk=[]:=List.length_eq_zero_iff.1 h
  have q:O4=O3:=by rw[<-h4,e2,List.append_nil]
  rw[q,h];exact app_x l3.symm hA (by omega) (by omega)
 by_cases m0:mm.length=0<;>by_cases s0:sk.length=0
 ·simp only[eG,go_sem,thq S,nbr S,zN0,zN1,zN2,zN3,zN4,zI0,zI1,zI2,zI3,reduceCtorEq,Int.cast_ofNat_Int,Int.reduceToNat,Int.toNat_zero,true_and,if_true,Nat.zero_add,Nat.add_zero,rep5,rep1',sw_t,sw_s,dl_nil,dl_cons,Option.map_some,nc1',as2 m0,b3 m0,s4 s0,a5' s0]
 ·simp only[eG,go_sem,thq S,nbr S,zN0,zN1,zN2,zN3,zN4,zI0,zI1,zI2,zI3,reduceCtorEq,Int.cast_ofNat_Int,Int.reduceToNat,Int.toNat_zero,true_and,if_true,Nat.zero_add,Nat.add_zero,rep5,rep1',sw_t,sw_s,dl_nil,dl_cons,Option.map_some,nc1',as2 m0,b3 m0,a4 s0,a5]
 ·simp only[eG,go_sem,thq S,nbr S,zN0,zN1,zN2,zN3,zN4,zI0,zI1,zI2,zI3,reduceCtorEq,Int.cast_ofNat_Int,Int.reduceToNat,Int.toNat_zero,true_and,if_true,Nat.zero_add,Nat.add_zero,rep5,rep1',sw_t,sw_s,dl_nil,dl_cons,Option.map_some,nc1',b2 m0,a3,s4 s0,a5' s0]
 ·simp only[eG,go_sem,thq S,nbr S,zN0,zN1,zN2,zN3,zN4,zI0,zI1,zI2,zI3,reduceCtorEq,Int.cast_ofNat_Int,Int.reduceToNat,Int.toNat_zero,true_and,if_true,Nat.zero_add,Nat.add_zero,rep5,rep1',sw_t,sw_s,dl_nil,dl_cons,Option.map_some,nc1',b2 m0,a3,a4 s0,a5]
theorem o_Ints (dp:Nat)(r0 r1 r2 r3:Int)(mm sk:List Int)(pc:Int)(hm:mm.length<1073741824)(hs:sk.length<1073741824)(A:List Blk)(nb:Nat):
  evOwnK true E (evC E fn (dp+1)) 92 A nb (some ([.agg [vi r0,vi r1,vi r2,vi r3,rD mm,rD sk,vi pc]],[]))=some (.made (.sref nb 0 0 (ints7 ⟨⟨r0,r1,r2,r3⟩,mm,sk,pc⟩).length 1 none) [.cells ((rC (ints7 ⟨⟨r0,r1,r2,r3⟩,mm,sk,pc⟩)).map .d) 0 false]):=by
 have h:=own_Ints S dp r0 r1 r2 r3 mm sk pc hm hs
 have hr:evRaw E (evC E fn (dp+1)) 92 [.agg [vi r0,vi r1,vi r2,vi r3,rD mm,rD sk,vi pc]]=some (.sref 0 0 0 (ints7 ⟨⟨r0,r1,r2,r3⟩,mm,sk,pc⟩).length 1 none,[.cells ((rC (ints7 ⟨⟨r0,r1,r2,r3⟩,mm,sk,pc⟩)).map .d) 0 false]):=by
  unfold evRaw
  rw[np S 92 (by decide)]
  exact h
 simp only[evOwnK,hr,evAnsB,cond_true]
 simp[thaw,thawed,isEmptyL,memN]
end
def entI (e:Ent):List Int:=[e.pc,e.val,e.addr,e.frm,e.next,Md.truth e.done,Md.truth e.known,Md.truth e.fault]
def ints9 (c:Conf):List Int:=ints7 c.state++[(c.buf.length:Int)]++c.buf.flatMap entI++[(c.rsb.length:Int)]++c.rsb++[c.end_]
theorem rep8 {α:Type}(l:List α):rep l 8=l++(l++(l++(l++(l++(l++(l++l)))))):=by simp[rep]
theorem nc8 (A:List Blk)(a b c d e f g h:DV)(k:Option Nat):newCells A false 1 (.d (.lst [a,b,c,d,e,f,g,h] 8 k))=some ([.d a,.d b,.d c,.d d,.d e,.d f,.d g,.d h],8):=rfl
theorem app_8 {A:List Blk}{j v len:Nat}{out:List Int}(a b c d e f g h:Int)(hl:len=out.length)(hA:A[j]? =some (.cells ((rC out).map .d) v false))(h1:(len+8)*8<=limA)(h2:len+8<=limA):
  evApp A 1 8 (.sref j v 0 len 1 none) [aI a,aI b,aI c,aI d,aI e,aI f,aI g,aI h] 8=some (.turn j (.cells ((rC (out++[a,b,c,d,e,f,g,h])).map .d) (v+1) false) (.sref j (v+1) 0 (len+8) 1 none)):=
 app_y (l:=[a,b,c,d,e,f,g,h]) hl hA (by simp) h1 h2
section
variable (S:Sur E fn)
include S
theorem loop_Ints (dp:Nat)(c:Conf)(hb:c.buf.length<1073741824)(kx:Nat->K)(D:DV)(R:List Int)
  (hx:∀ T,getS .bot T 1=.ref 0 0 0->getS .bot T 3=.sref 1 0 0 R.length 1 none->ansOf (kx 0 (mk .bot 64 T) [.cells ((confC c).map .d) 0 false,.cells ((rC R).map .d) 0 false])=some D):
  ∀(m k f:Nat) (o:List Int),k+m=c.buf.length->m<=f->o.length+8*m<17179869184->o++(c.buf.drop k).flatMap entI=R->
  ansOf (B10_r9_Ints (inn E 48) (evC E fn (dp+1)) (loopK 10 B10_r9_Ints (inn E 48) (evC E fn (dp+1)) kx (kEnd 0 [.tmp 2]) f) kx (kEnd 0 [.tmp 2]) (mk .bot 64 [(1,.ref 0 0 0),(3,.sref 1 0 0 o.length 1 none),(4,aI k)]) [.cells ((confC c).map .d) 0 false,.cells ((rC o).map .d) 0 false])=some D:=by
 intro m
 induction m with
 | zero=>
  intro k f o hk _ _ hr
  rw[List.drop_of_length_le (by omega)] at hr
  have hr:o=R:=by simpa using hr
  subst hr
  generalize loopK 10 B10_r9_Ints _ _ kx _ f=KK
  first | (conv=>lhs;rw[B10_r9_Ints]) | rw[B10_r9_Ints]
  simp only[eG,go_sem,thq S,nbr S,zN0,zN1,zN2,zN3,zN4,zI0,zI1,zI2,zI3,reduceCtorEq,o48_38 S,show ¬(k:Int)<c.buf.length by omega]
  exact hx _ rfl rfl
 | succ m ih=>
  intro k f o hk hf ho hr
  obtain⟨e,he⟩:=get_of (show k<c.buf.length by omega)
  obtain⟨f,rfl⟩:∃ g,f=g+1:=⟨f-1,by omega⟩
  have hkg:(k:Int)<c.buf.length:=by omega
  have hr':(o++entI e)++(c.buf.drop (k+1)).flatMap entI=R:=by
   rw[<-hr,drop_get he,List.flatMap_cons,List.append_assoc]
  have hle:(o++entI e).length=o.length+8:=by rw[List.length_append];rfl
  have:=ih (k+1) f (o++entI e) (by omega) (by omega) (by rw[hle];omega) hr'
  rw[hle] at this
  have k1:(o.length+8)*8<=limA:=by unfold limA;omega
  have k2:o.length+8<=limA:=by unfold limA;omega
  have ap:∀(A:List Blk) (j v:Nat) (t1 t2 t3:Int),A[j]? =some (.cells ((rC o).map .d) v false)->evApp A 1 8 (.sref j v 0 o.length 1 none) [aI e.pc,aI e.val,aI e.addr,aI e.frm,aI e.next,aI t1,aI t2,aI t3] 8=some (.turn j (.cells ((rC (o++[e.pc,e.val,e.addr,e.frm,e.next,t1,t2,t3])).map .d) (v+1) false) (.sref j (v+1) 0 (o.length+8) 1 none)):=fun A j v t1 t2 t3 hA=>app_8 _ _ _ _ _ _ _ _ rfl hA k1 k2
  generalize hK:loopK 10 B10_r9_Ints _ _ kx _ (f+1)=KK
  first | (conv=>lhs;rw[B10_r9_Ints]) | rw[B10_r9_Ints]
  simp only[eG,go_sem,thq S,nbr S,zN0,zN1,zN2,zN3,zN4,zI0,zI1,zI2,zI3,reduceCtorEq,o48_38 S,rep8,nc8,sw_t,sw_s,dl_nil,dl_cons,Option.map_some,hkg,w_ix he,wi k (by omega),c_r9_truth S,ap]
  rw[<-hK,loop_in (on S _ _ [1,3,4] (by decide) rfl) rfl _ _ _ _ _ _ _ _ _ rfl]
  simp only[eG,go_sem,thq S,nbr S,zN0,zN1,zN2,zN3,zN4,zI0,zI1,zI2,zI3,reduceCtorEq,o48_38 S]
  exact this
theorem raw_r9_Ints (dp:Nat)(c:Conf)(hm:c.state.mem.length<1073741824)(hs:c.state.stack.length<1073741824)(hb:c.buf.length<1073741824)(hr:c.rsb.length<1073741824):Says E fn (dp+2) 48 [confD c] (rD (ints9 c)):=by
 unfold Says
 show ansOf (evC E fn (dp+1+1) 48 [.d (confD c)] [])=_
 rw[evC_succ,S.f_r9_Ints,apF_some,F_r9_Ints,mkF_run _ _ _ _ _ _ _ _ rfl]
 generalize h1:ints7 c.state=O1
 generalize h2:O1++[(c.buf.length:Int)]=O2
 generalize h3:O2++c.buf.flatMap entI=O3
 generalize h4:O3++[(c.rsb.length:Int)]=O4
 generalize h5:O4++c.rsb=O5
 have hi:ints9 c=O5++[c.end_]:=by rw[<-h5,<-h4,<-h3,<-h2,<-h1];rfl
 have l1:O1.length<2147483656:=by rw[<-h1];unfold ints7;simp;omega
 have l2:O2.length=O1.length+1:=by rw[<-h2,List.length_append];rfl
 have hfl:∀ l:List Ent,(l.flatMap entI).length=8*l.length:=by
  intro l
  induction l with
  | nil=>rfl
  | cons e l ih=>rw[List.flatMap_cons,List.length_append,ih,List.length_cons];show 8+_=_;omega
 have l3:O3.length=O2.length+8*c.buf.length:=by rw[<-h3,List.length_append,hfl]
 have l4:O4.length=O3.length+1:=by rw[<-h4,List.length_append];rfl
 have l5:O5.length=O4.length+c.rsb.length:=by rw[<-h5,List.length_append]
 have lim:limA=1099511627776:=rfl
 have a2:∀(A:List Blk) (j v:Nat),A[j]? =some (.cells ((rC O1).map .d) v false)->evApp A 1 8 (.sref j v 0 O1.length 1 none) [aI c.buf.length] 1=some (.turn j (.cells ((rC O2).map .d) (v+1) false) (.sref j (v+1) 0 (O1.length+1) 1 none)):=fun A j v hA=>by
  rw[<-h2];exact app_x rfl hA (by omega) (by omega)
 have a4:∀(A:List Blk) (j v:Nat),A[j]? =some (.cells ((rC O3).map .d) v false)->evApp A 1 8 (.sref j v 0 O3.length 1 none) [aI c.rsb.length] 1=some (.turn j (.cells ((rC O4).map .d) (v+1) false) (.sref j (v+1) 0 O4.length 1 none)):=fun A j v hA=>by
  rw[l4,<-h4];exact app_x rfl hA (by omega) (by omega)
 have s5:c.rsb.length=0->∀(A:List Blk) (i v o len sz:Nat) (k:Option Nat) (new:List AV),evApp A 1 8 (.sref i v o len sz k) new c.rsb.length=some .same:=fun h A i v o len sz k new=>by rw[h];exact app_same A 1 8 i v o len sz k new
 have a5:c.rsb.length≠0->∀(A:List Blk) (j v:Nat),A[j]? =some (.cells ((rC O4).map .d) v false)->evApp A 1 8 (.sref j v 0 O4.length 1 none) ((rC c.rsb).map .d) c.rsb.length=some (.turn j (.cells ((rC O5).map .d) (v+1) false) (.sref j (v+1) 0 O5.length 1 none)):=fun h A j v hA=>by
  rw[l5,<-h5];exact app_y rfl hA h (by omega) (by omega)
 have a6:∀(A:List Blk) (j v:Nat),A[j]? =some (.cells ((rC O5).map .d) v false)->evApp A 1 8 (.sref j v 0 O5.length 1 none) [aI c.end_] 1=some (.turn j (.cells ((rC (O5++[c.end_])).map .d) (v+1) false) (.sref j (v+1) 0 (O5.length+1) 1 none)):=fun A j v hA=>app_x rfl hA (by omega) (by omega)
 have hd:deep [.cells ((rC (O5++[c.end_])).map .d) 0 false] 8 (.sref 0 0 0 (O5.length+1) 1 none)=some (.lst (rC (O5++[c.end_])) (O5++[c.end_]).length none,[0]):=deep_alone _ (by simp) _ (by simp) 6 1 none rfl
 have hmk:ints7 ⟨⟨c.state.regs.r0,c.state.regs.r1,c.state.regs.r2,c.state.regs.r3⟩,c.state.mem,c.state.stack,c.state.pc⟩=O1:=h1
 rw[hi]
 simp only[eG,go_sem,thq S,nbr S,zN0,zN1,zN2,zN3,zN4,zI0,zI1,zI2,zI3,reduceCtorEq,o48_38 S,rep1',sw_t,sw_s,dl_nil,dl_cons,Option.map_some,nc1',o_Ints S,hm,hs,h1,a2]
 rw[big_eq,loop_in (on S _ _ [1,3,4] (by decide) rfl) rfl _ _ _ _ _ _ _ _ _ rfl]
 simp only[eG,go_sem,thq S,nbr S,zN0,zN1,zN2,zN3,zN4,zI0,zI1,zI2,zI3,reduceCtorEq,o48_38 S]
 have go:=fun(kx:Nat->K) (D:DV) hx=>loop_Ints S dp c hb kx D O3 hx c.buf.length 0 999999999999999999999999999999 O2 (by omega) (by omega) (by omega) (by rw[List.drop_zero];exact h3)
 rw[l2] at go
 refine go _ _ ?_
 intro T t1 t3
 by_cases r0:c.rsb.length=0
 ·have e5 : O5 = O4 := by rw [<- h5, List.length_eq_zero_iff.1 r0, List.append_nil]
  rw[e5] at a6 hd ⊢
  simp only[eG,go_sem,thq S,nbr S,zN0,zN1,zN2,zN3,zN4,zI0,zI1,zI2,zI3,reduceCtorEq,o48_38 S,rep1',sw_t,sw_s,dl_nil,dl_cons,Option.map_some,nc1',t1,t3,a4,s5 r0,a6,hd]
  rfl
 ·simp only [eG, go_sem, thq S, nbr S, zN0, zN1, zN2, zN3, zN4, zI0, zI1, zI2, zI3, reduceCtorEq, o48_38 S, rep1', sw_t, sw_s, dl_nil, dl_cons, Option.map_some, nc1', t1, t3, a4, a5 r0, a6, hd]
  rfl
theorem c_r9_Ints (dp:Nat)(c_r0 c_r1 c_r2 c_r3:Int)(c_mm c_st:List Int)(c_pc:Int)(c_bf:List Ent)(c_rb:List Int)(c_en:Int)(hm:(⟨⟨⟨c_r0,c_r1,c_r2,c_r3⟩,c_mm,c_st,c_pc⟩,c_bf,c_rb,c_en⟩:Conf).state.mem.length<1073741824)(hs:(⟨⟨⟨c_r0,c_r1,c_r2,c_r3⟩,c_mm,c_st,c_pc⟩,c_bf,c_rb,c_en⟩:Conf).state.stack.length<1073741824)(hb:(⟨⟨⟨c_r0,c_r1,c_r2,c_r3⟩,c_mm,c_st,c_pc⟩,c_bf,c_rb,c_en⟩:Conf).buf.length<1073741824)(hr:(⟨⟨⟨c_r0,c_r1,c_r2,c_r3⟩,c_mm,c_st,c_pc⟩,c_bf,c_rb,c_en⟩:Conf).rsb.length<1073741824)(A:List Blk)(nb:Nat):evOwnK false E (evC E fn (dp+2)) 48 A nb (some ([.agg [vi c_r0,vi c_r1,vi c_r2,vi c_r3,rD c_mm,rD c_st,vi c_pc,rD c_bf,rD c_rb,vi c_en]],[]))=some (.made (.d (rD (ints9 (⟨⟨⟨c_r0,c_r1,c_r2,c_r3⟩,c_mm,c_st,c_pc⟩,c_bf,c_rb,c_en⟩:Conf)))) []):=
 Says.deep (raw_r9_Ints S dp (⟨⟨⟨c_r0,c_r1,c_r2,c_r3⟩,c_mm,c_st,c_pc⟩,c_bf,c_rb,c_en⟩:Conf) hm hs hb hr) (np S 48 (by decide)) A nb
theorem raw_r9_Same (dp:Nat)(a b:Conf)(h1:a.state.mem.length<1073741824)(h2:a.state.stack.length<1073741824)(h3:a.buf.length<1073741824)(h4:a.rsb.length<1073741824)(g1:b.state.mem.length<1073741824)(g2:b.state.stack.length<1073741824)(g3:b.buf.length<1073741824)(g4:b.rsb.length<1073741824)(h5:(ints9 a).length<1073741824):Says E fn (dp+3) 18 [confD a,confD b] (vb (decide (ints9 a=ints9 b))):=by
 unfold Says
 show ansOf (evC E fn (dp+2+1) 18 [.d (confD a),.d (confD b)] [])=_
 rw[evC_succ,S.f_r9_Same,apF_some,F_r9_Same,mkF_run _ _ _ _ _ _ _ _ rfl]
 simp only[eG,go_sem,thq S,nbr S,zN0,zN1,zN2,zN3,zN4,zI0,zI1,zI2,zI3,reduceCtorEq,c_r9_Ints S,h1,h2,h3,h4,g1,g2,g3,g4,c_r1_SameInts S,h5]
theorem c_r9_Same (dp:Nat)(a_r0 a_r1 a_r2 a_r3:Int)(a_mm a_st:List Int)(a_pc:Int)(a_bf:List Ent)(a_rb:List Int)(a_en b_r0 b_r1 b_r2 b_r3:Int)(b_mm b_st:List Int)(b_pc:Int)(b_bf:List Ent)(b_rb:List Int)(b_en:Int)(h1:(⟨⟨⟨a_r0,a_r1,a_r2,a_r3⟩,a_mm,a_st,a_pc⟩,a_bf,a_rb,a_en⟩:Conf).state.mem.length<1073741824)(h2:(⟨⟨⟨a_r0,a_r1,a_r2,a_r3⟩,a_mm,a_st,a_pc⟩,a_bf,a_rb,a_en⟩:Conf).state.stack.length<1073741824)(h3:(⟨⟨⟨a_r0,a_r1,a_r2,a_r3⟩,a_mm,a_st,a_pc⟩,a_bf,a_rb,a_en⟩:Conf).buf.length<1073741824)(h4:(⟨⟨⟨a_r0,a_r1,a_r2,a_r3⟩,a_mm,a_st,a_pc⟩,a_bf,a_rb,a_en⟩:Conf).rsb.length<1073741824)(g1:(⟨⟨⟨b_r0,b_r1,b_r2,b_r3⟩,b_mm,b_st,b_pc⟩,b_bf,b_rb,b_en⟩:Conf).state.mem.length<1073741824)(g2:(⟨⟨⟨b_r0,b_r1,b_r2,b_r3⟩,b_mm,b_st,b_pc⟩,b_bf,b_rb,b_en⟩:Conf).state.stack.length<1073741824)(g3:(⟨⟨⟨b_r0,b_r1,b_r2,b_r3⟩,b_mm,b_st,b_pc⟩,b_bf,b_rb,b_en⟩:Conf).buf.length<1073741824)(g4:(⟨⟨⟨b_r0,b_r1,b_r2,b_r3⟩,b_mm,b_st,b_pc⟩,b_bf,b_rb,b_en⟩:Conf).rsb.length<1073741824)(h5:(ints9 (⟨⟨⟨a_r0,a_r1,a_r2,a_r3⟩,a_mm,a_st,a_pc⟩,a_bf,a_rb,a_en⟩:Conf)).length<1073741824)(A:List Blk)(nb:Nat)(us:List Nat):evOwnK false E (evC E fn (dp+3)) 18 A nb (some ([.agg [vi a_r0,vi a_r1,vi a_r2,vi a_r3,rD a_mm,rD a_st,vi a_pc,rD a_bf,rD a_rb,vi a_en],.agg [vi b_r0,vi b_r1,vi b_r2,vi b_r3,rD b_mm,rD b_st,vi b_pc,rD b_bf,rD b_rb,vi b_en]],us))=some (.made (.d (vb (decide (ints9 (⟨⟨⟨a_r0,a_r1,a_r2,a_r3⟩,a_mm,a_st,a_pc⟩,a_bf,a_rb,a_en⟩:Conf)=ints9 (⟨⟨⟨b_r0,b_r1,b_r2,b_r3⟩,b_mm,b_st,b_pc⟩,b_bf,b_rb,b_en⟩:Conf))))) []):=
 Says.flat (raw_r9_Same S dp (⟨⟨⟨a_r0,a_r1,a_r2,a_r3⟩,a_mm,a_st,a_pc⟩,a_bf,a_rb,a_en⟩:Conf) (⟨⟨⟨b_r0,b_r1,b_r2,b_r3⟩,b_mm,b_st,b_pc⟩,b_bf,b_rb,b_en⟩:Conf) h1 h2 h3 h4 g1 g2 g3 g4 h5) (np S 18 (by decide)) (rfl) A nb us
end
theorem fm_len:∀ l:List Ent,(l.flatMap entI).length<=8*l.length
 | []=>Nat.le_refl _
 | e::l=>by
  have:=fm_len l
  rw[List.flatMap_cons,List.length_append,List.length_cons]
  have h:(entI e).length=8:=rfl
  omega
theorem ints9_len (c:Conf):(ints9 c).length<=c.state.mem.length+c.state.stack.length+8*c.buf.length+c.rsb.length+100:=by
 have:=fm_len c.buf
 unfold ints9 ints7
 simp only[List.length_append,List.length_cons,List.length_nil]
 omega
theorem mk_il8 (l:List Int):(Md.make l).ins.length<=8:=by
 show((List.range (Md.nM l)).map _).length<=8
 obtain⟨r,h1,h2⟩:=Md.iand3 (Md.shi (Md.kM l 0) 12)
 rw[List.length_map,List.length_range]
 unfold Md.nM
 rw[h2,Int.toNat_natCast];omega
theorem bad_not {N:Int}{p:Prog}(h:p.ins.length<=8)(c:Conf):Md.canSay N p c ⟨1,500⟩=false:=by
 show Md.canFetch p c 500=false
 have hg:Md.guesses p c<=9:=by
  unfold Md.guesses
  split
  ·omega
  ·split
   ·omega
   ·split<;>omega
 simp only[Md.canFetch,Bool.and_eq_false_imp,decide_eq_true_eq,decide_eq_false_iff_not]
 intro _
 omega
theorem runM_way {N:Int}{p:Prog}{d:Dir}(hd:∀ c,Md.canSay N p c d=false)(l:List Dir):∀(o:List Dir) (c:Conf) (k:Nat),Md.canAll N p o c->∃ q,runM N p (o++d::l) c k=(Md.runAll N p o c,q,k+o.length)
 | [],c,k,_=>⟨[],by rw[List.nil_append,runM_cons,hd];rfl⟩
 | e::o,c,k,h=>by
  obtain⟨q,hq⟩:=runM_way hd l o _ (k+1) h.2
  refine⟨(Md.say N p c e).2++q,?_⟩
  rw[List.cons_append,runM_cons,h.1,cond_true,hq]
  show(_,_,_)=(_,_,_)
  rw[List.length_cons,show k+1+o.length=k+(o.length+1) by omega];rfl
variable {E:Env} {fn:FuncId->Option (Env->cT->cT)}
section
variable (S:Sur E fn)
include S
theorem o16_71:E.lives 16 1=none/\E.lives 16 19=none:=⟨off S 16 1 (by decide) rfl,off S 16 19 (by decide) rfl⟩
theorem says_Run (dp:Nat)(p:Prog)(hp:Md.Fine p)(hml:p.mems.length<1000)(hN:cellsI p.mems<=1000)(c:Conf)(hI:Md.Inv (cellsI p.mems) p c)(l:List Dir)(hl:l.length<1000000):
  Says E fn (dp+12) 16 [progD p,confD c,rD l] (.tup [confD (runM (cellsI p.mems) p l c 0).1,rD (runM (cellsI p.mems) p l c 0).2.1,vi (runM (cellsI p.mems) p l c 0).2.2]):=by
 obtain⟨q1,q2,q3,q4,q5,_⟩:=inv_hyps hp hI hN ⟨0,0⟩
 have g1:c.state.mem.length<1073741824:=by omega
 have g2:c.state.stack.length<1073741824:=by omega
 have g3:c.buf.length<1073741824:=by omega
 have g4:c.rsb.length<1073741824:=by omega
 show ansOf (evC E fn (dp+11+1) 16 [.d (progD p),.d (confD c),.d (rD l)] [])=_
 rw[evC_succ,S.f_scri_Run,apF_some,F_scri_Run,mkF_run _ _ _ _ _ _ _ _ rfl]
 simp only[eG,go_sem,thq S,nbr S,Nat.reduceLT,Nat.reduceEqDiff,Nat.reduceAdd,Nat.reduceMul,Nat.reduceLeDiff,Int.reduceEq,Int.reduceLT,Int.reduceLE,Int.reduceNeg,reduceCtorEq,o16_71 S,c_conf_Still S,g1,g2,g3,g4]
 rw[big_eq,loop_in (on S _ _ [2,3,4,6,9,17,18,19] (by decide) rfl) rfl _ _ _ _ _ _ _ _ _ rfl]
 simp only[eG,go_sem,thq S,nbr S,Nat.reduceLT,Nat.reduceEqDiff,Nat.reduceAdd,Nat.reduceMul,Nat.reduceLeDiff,Int.reduceEq,Int.reduceLT,Int.reduceLE,Int.reduceNeg,reduceCtorEq,o16_71 S]
 have key:=fun(kx:Nat->K) hx=>loop_Run S dp p hp hml hN l hl kx hx l.length 0 999999999999999999999999999999 c [] hI (by omega) (by omega) (by simp)
 rw[ownA_nil,ownB_nil,List.append_nil,List.drop_zero,List.nil_append] at key
 refine key _ ?_
 intro T c' o' t2 t4 t6 t9
 by_cases h0:o'.length=0
 ·have e : o' = [] := List.length_eq_zero_iff.1 h0
  subst e
  rw[ownA_nil] at t9
  rw[ownB_nil,List.append_nil]
  simp only[eG,go_sem,thq S,nbr S,Nat.reduceLT,Nat.reduceEqDiff,Nat.reduceAdd,Nat.reduceMul,Nat.reduceLeDiff,Int.reduceEq,Int.reduceLT,Int.reduceLE,Int.reduceNeg,reduceCtorEq,o16_71 S,t2,t4,t6,t9]
  try rfl
 ·rw [ownA_ne h0] at t9
  rw[ownB_ne h0]
  have hne:o'≠[]:=fun e=>h0 (by rw[e];rfl)
  have hd:deep [.cells ((rC o').map .d) 0 false] 7 (.sref 0 0 0 o'.length 2 none)=some (.lst (rC o') o'.length none,[0]):=deep_alone o' hne _ rfl 5 2 none rfl
  simp only[eG,go_sem,thq S,nbr S,Nat.reduceLT,Nat.reduceEqDiff,Nat.reduceAdd,Nat.reduceMul,Nat.reduceLeDiff,Int.reduceEq,Int.reduceLT,Int.reduceLE,Int.reduceNeg,reduceCtorEq,o16_71 S,t2,t4,t6,t9,hd]
  try rfl
end
theorem app_bad {A:List Blk}{bytes j v:Nat}{out:List Dir}(hA:A[j]? =some (.cells ((rC out).map .d) v false))(h1:(out.length+1)*bytes<=limA)(h2:out.length+1<=limA):
  evApp A 2 bytes (.sref j v 0 out.length 2 none) [.d (.v (.int .i64 1)),.d (.v (.int .i64 500))] 1=some (.turn j (.cells ((rC (out++[⟨1,500⟩])).map .d) (v+1) false) (.sref j (v+1) 0 (out.length+1) 2 none)):=
 app_endD hA h1 h2
theorem app_rest {A:List Blk}{bytes j v:Nat}{out l2:List Dir}(hA:A[j]? =some (.cells ((rC (out++[⟨1,500⟩])).map .d) v false))(h0:l2.length≠0)(h1:(out.length+1+l2.length)*bytes<=limA)(h2:out.length+1+l2.length<=limA):
  evApp A 2 bytes (.sref j v 0 (out.length+1) 2 none) ((rC l2).map .d) l2.length=some (.turn j (.cells ((rC (out++⟨1,500⟩::l2)).map .d) (v+1) false) (.sref j (v+1) 0 (out.length+1+l2.length) 2 none)):=by
 have e:(out++[(⟨1,500⟩:Dir)]).length=out.length+1:=by simp
 have h:=app_rows (s:=2) (bytes:=bytes) (l2:=l2) hA rfl (by decide) h0 (by rw[e];exact h1) (by rw[e];exact h2)
 rw[e,List.append_assoc] at h
 exact h
theorem app_head {A:List Blk}{bytes j v:Nat}{l2:List Dir}(hA:A[j]? =some (.cells [AV.d (DV.v (Value.int IntKind.i64 1)),AV.d (DV.v (Value.int IntKind.i64 500))] v false))(h0:l2.length≠0)(h1:(1+l2.length)*bytes<=limA)(h2:1+l2.length<=limA):
  evApp A 2 bytes (.sref j v 0 1 2 (some 1)) ((rC l2).map .d) l2.length=some (.fresh ((rC ((⟨1,500⟩:Dir)::l2)).map .d) (1+l2.length)):=
 app_copy (out:=[(⟨1,500⟩:Dir)]) hA rfl h0 h1 h2
theorem app_lead {A:List Blk}{bytes j v:Nat}{l2:List Dir}(hA:A[j]? =some (.cells [AV.d (DV.v (Value.int IntKind.i64 1)),AV.d (DV.v (Value.int IntKind.i64 500))] v false))(h0:l2.length≠0)(h1:(1+l2.length)*bytes<=limA)(h2:1+l2.length<=limA):
  evApp A 2 bytes (.sref j v 0 1 2 none) ((rC l2).map .d) l2.length=some (.turn j (.cells ((rC ((⟨1,500⟩:Dir)::l2)).map .d) (v+1) false) (.sref j (v+1) 0 (1+l2.length) 2 none)):=
 app_rows (out:=[(⟨1,500⟩:Dir)]) hA rfl (by decide) h0 h1 h2
theorem deep_len {A:List Blk}{j v m n:Nat}{L:List Dir}{ro:Bool}(hA:A[j]? =some (.cells ((rC L).map .d) v ro))(hn:n=L.length)(h0:n≠0):deep A (m+2) (.sref j v 0 n 2 none)=some (rD L,[j]):=by
 subst hn
 exact deep_own (α:=Dir) (fun e=>h0 (by rw[e];rfl)) hA m none
theorem deep_all {A:List Blk}{j v m:Nat}{out l2:List Dir}(hA:A[j]? =some (.cells ((rC (out++⟨1,500⟩::l2)).map .d) v false)):deep A (m+2) (.sref j v 0 (out.length+1+l2.length) 2 none)=some (rD (out++⟨1,500⟩::l2),[j]):=
 deep_len hA (by simp;omega) (by omega)
theorem deep_way {A:List Blk}{j v m:Nat}{out:List Dir}(hA:A[j]? =some (.cells ((rC (out++[⟨1,500⟩])).map .d) v false)):deep A (m+2) (.sref j v 0 (out.length+1) 2 none)=some (rD (out++[⟨1,500⟩]),[j]):=
 deep_len hA (by simp) (by omega)
theorem deep_rest {A:List Blk}{j v m:Nat}{l2:List Dir}(hA:A[j]? =some (.cells ((rC ((⟨1,500⟩:Dir)::l2)).map .d) v false)):deep A (m+2) (.sref j v 0 (1+l2.length) 2 none)=some (rD ((⟨1,500⟩:Dir)::l2),[j]):=
 deep_len hA (by simp;omega) (by omega)
theorem deep_lead {A:List Blk}{j v m:Nat}{k:Option Nat}(hA:A[j]? =some (.cells [AV.d (DV.v (Value.int IntKind.i64 1)),AV.d (DV.v (Value.int IntKind.i64 500))] v false)):deep A (m+2) (.sref j v 0 1 2 k)=some (.lst [vi 1,vi 500] 1 k,[j]):=
 deep_own (α:=Dir) (l:=[⟨1,500⟩]) (by simp) hA m k
variable {E:Env} {fn:FuncId->Option (Env->cT->cT)}
section
variable (S:Sur E fn)
include S
theorem o3_72:E.lives 3 7=none:=off S 3 7 (by decide) rfl
theorem c_runT (dp:Nat){p:Prog}(hp:Md.Fine p)(hml:p.mems.length<1000)(hN:cellsI p.mems<=1000){c:Conf}(hI:Md.Inv (cellsI p.mems) p c){l:List Dir}(hl:l.length<1000000){c':Conf}{q:List Obs}{k:Nat}(hr:runM (cellsI p.mems) p l c 0=(c',q,k))(hf:(DV.tup [confD c',rD q,vi k]).flat 8=true)(A:List Blk)(nb:Nat)(us:List Nat):
  evOwnK false E (evC E fn (dp+13)) 16 A nb (some ([progD p,confD c,rD l],us))=some (.made (.d (.tup [confD c',rD q,vi k])) []):=by
 have h:=says_Run S (dp+1) p hp hml hN c hI l hl
 rw[hr] at h
 exact Says.flat h (np S 16 (by decide)) hf A nb us
theorem c_runF (dp:Nat){p:Prog}(hp:Md.Fine p)(hml:p.mems.length<1000)(hN:cellsI p.mems<=1000){c:Conf}(hI:Md.Inv (cellsI p.mems) p c){l:List Dir}(hl:l.length<1000000){c':Conf}{q:List Obs}{k:Nat}(hr:runM (cellsI p.mems) p l c 0=(c',q,k))(hf:(DV.tup [confD c',rD q,vi k]).flat 8=false)(A:List Blk)(nb i:Nat)(us:List Nat):
  evOwnK false E (evC E fn (dp+13)) 16 A nb (some ([progD p,confD c,rD l],i::us))=some (.turned (.d (.tup [confD c',rD q,vi k])) (setRo A (i::us))):=by
 have h:=says_Run S (dp+1) p hp hml hN c hI l hl
 rw[hr] at h
 exact Says.used h (np S 16 (by decide)) hf A nb i us
theorem c_run0 (dp:Nat){p:Prog}(hp:Md.Fine p)(hml:p.mems.length<1000)(hN:cellsI p.mems<=1000){c:Conf}(hI:Md.Inv (cellsI p.mems) p c)(A:List Blk)(nb:Nat):
  evOwnK false E (evC E fn (dp+13)) 16 A nb (some ([progD p,confD c,rD ([]:List Dir)],[]))=some (.made (.d (.tup [confD c,rD ([]:List Obs),vi 0])) []):=
 Says.deep (says_Run S (dp+1) p hp hml hN c hI [] (by decide)) (np S 16 (by decide)) A nb
theorem raw_lawStops (ha:E.prim 12=some trueG)(dp:Nat)(m st w:List Int)(ds:List Dir):evC E fn (dp+14) 3 [.d (rD m),.d (rD st),.d (rD w),.d (rD ds)] []=some (abool true,[]):=by
 have hp:=mk_fine m
 have hN:=mk_cells m
 have hml:=mk_ml m
 have hil:=mk_il8 m
 obtain⟨s,s',hS,o1,o2⟩:=says_StatesG S (dp+8) (Md.make m) (mk_ms m) hml st 1
 have hI0:=o1.inv hp
 obtain⟨c,way,hW,hI⟩:=says_WalkG S (dp+5) (Md.make m) hp _ hN s hI0 w
 have hwl:=hI.len
 have hcn:=hI.can
 have hrn:=hI.run
 have hIc:=hI.inv
 have cS:=fun(A:List Blk) (nb:Nat)=>Says.deep hS (np S 14 (by decide)) A nb
 have cW:=fun(A:List Blk) (nb:Nat)=>Says.deep hW (np S 15 (by decide)) A nb
 obtain⟨y0,y1,y2,y3,y4,-⟩:=inv_hyps hp hIc hN ⟨0,0⟩
 obtain⟨z0,z1,z2,z3,z4,-⟩:=inv_hyps hp hI0 hN ⟨0,0⟩
 have h9c:(ints9 c).length<1073741824:=by have:=ints9_len c;omega
 have h9s:(ints9 (Md.begin_ s)).length<1073741824:=by have:=ints9_len (Md.begin_ s);omega
 have bad:=bad_not (N:=cellsI (Md.make m).mems) (p:=Md.make m) hil
 obtain⟨o3,hr1⟩:=runM_way bad ds way (Md.begin_ s) 0 hcn
 rw[hrn,Nat.zero_add] at hr1
 have hr2:runM (cellsI (Md.make m).mems) (Md.make m) (⟨1,500⟩::way) (Md.begin_ s) 0=(Md.begin_ s,[],0):=by rw[runM_cons,bad];rfl
 have g1:c.state.mem.length<1073741824:=by omega
 have g2:c.state.stack.length<1073741824:=by omega
 have g3:c.buf.length<1073741824:=by omega
 have g4:c.rsb.length<1073741824:=by omega
 have lim:limA=1099511627776:=rfl
 show evC E fn (dp+13+1) 3 [.d (rD m),.d (rD st),.d (rD w),.d (rD ds)] []=_
 rw[evC_succ,S.f_w18_ScriStops,apF_some,F_w18_ScriStops,mkF_run _ _ _ _ _ _ _ _ rfl]
 by_cases hbig:(60:Int)<ds.length
 ·simp only[eG,go_sem,thq S,nbr S,Nat.reduceLT,Nat.reduceEqDiff,Nat.reduceAdd,Nat.reduceMul,Nat.reduceLeDiff,Int.reduceEq,Int.reduceLT,Int.reduceLE,Int.reduceNeg,reduceCtorEq,o3_72 S,gt_iff_lt,hbig,c_told ha]
 have hd60:ds.length<=60:=by omega
 have c3:=fun(A:List Blk) (nb:Nat)=>c_run0 S dp hp hml hN hIc A nb
 have cB:=fun(A:List Blk) (nb:Nat)=>Says.deep (raw_r9_Begin S (dp+12) s) (np S 17 (by decide)) A nb
 simp only[progD,progC,stateD,stateC,confD,confC,w_rnil] at cS cW cB c3
 have n1:way.length*16<=limA:=by omega
 have n2:way.length<=limA:=by omega
 have n3:(way.length+1)*16<=limA:=by omega
 have n4:way.length+1<=limA:=by omega
 have n5:(way.length+1+ds.length)*16<=limA:=by omega
 have n6:way.length+1+ds.length<=limA:=by omega
 have n7:(1+way.length)*16<=limA:=by omega
 have n8:1+way.length<=limA:=by omega
 have n9:(1+ds.length)*16<=limA:=by omega
 have n10:1+ds.length<=limA:=by omega
 have h60:¬(60:Int)<((0:Nat):Int):=by decide
 have l16:(1:Nat)*16<=limA:=by decide
 have l1:(1:Nat)<=limA:=by decide
 have m1:s.mem.length<1073741824:=by have:(Md.begin_ s).state.mem.length=s.mem.length:=rfl;omega
 have m2:s.stack.length<1073741824:=by have:(Md.begin_ s).state.stack.length=s.stack.length:=rfl;omega
 have m3:([]:List Ent).length<1073741824:=by decide
 have m4:([]:List Int).length<1073741824:=by decide
 have sB:=fun(A:List Blk) (nb:Nat)=>c_r9_Same S (dp+10) s.regs.r0 s.regs.r1 s.regs.r2 s.regs.r3 s.mem s.stack s.pc [] [] 0 s.regs.r0 s.regs.r1 s.regs.r2 s.regs.r3 s.mem s.stack s.pc [] [] 0 m1 m2 m3 m4 m1 m2 m3 m4 h9s A nb []
 simp only[w_rnil,decide_true] at sB
 have e4:rD [(⟨1,500⟩:Dir)]=.lst [vi 1,vi 500] 1 none:=rfl
 have hw0:way.length=0->way=[]:=fun h=>List.length_eq_zero_iff.1 h
 have hcs:way.length=0->c=Md.begin_ s:=fun h0=>by
  have h:=hrn
  rw[hw0 h0] at h
  exact h.symm
 have hd0:ds.length=0->ds=[]:=fun h=>List.length_eq_zero_iff.1 h
 cases hf1:(DV.tup [confD c,rD o3,vi way.length]).flat 8<;>cases hf2:(DV.tup [confD (Md.begin_ s),rD ([]:List Obs),vi (0:Nat)]).flat 8
 all_goals
  have L1:(way++(⟨1,500⟩:Dir)::ds).length<1000000:=by simp;omega
  have L2:((⟨1,500⟩:Dir)::way).length<1000000:=by simp;omega
  first
  | have c1:=fun(A:List Blk) (nb:Nat) (us:List Nat)=>c_runT S dp hp hml hN hI0 L1 hr1 hf1 A nb us
  | have c1:=fun(A:List Blk) (nb i:Nat) (us:List Nat)=>c_runF S dp hp hml hN hI0 L1 hr1 hf1 A nb i us
  first
  | have c2:=fun(A:List Blk) (nb:Nat) (us:List Nat)=>c_runT S dp hp hml hN hI0 L2 hr2 hf2 A nb us
  | have c2:=fun(A:List Blk) (nb i:Nat) (us:List Nat)=>c_runF S dp hp hml hN hI0 L2 hr2 hf2 A nb i us
  simp only[progD,progC,stateD,stateC,confD,confC,Md.begin_,w_rnil,Int.cast_ofNat_Int] at c1 c2
  by_cases w0:way.length=0<;>by_cases d0:ds.length=0
 all_goals
  first
  | (obtain rfl:c=Md.begin_ s:=hcs w0;rw[hw0 w0,hd0 d0] at c1;rw[hw0 w0] at c2;simp only[List.nil_append,e4,Md.begin_,w_rnil] at c1 c2 cW c3)
  | (rw[hw0 w0] at c1 c2;simp only[List.nil_append,e4] at c1 c2)
  | rw[hd0 d0] at c1
  | skip
 all_goals simp only[eG,go_sem,thq S,nbr S,Nat.reduceLT,Nat.reduceEqDiff,Nat.reduceAdd,Nat.reduceMul,Nat.reduceLeDiff,Int.reduceEq,Int.reduceLT,Int.reduceLE,Int.reduceNeg,reduceCtorEq,o3_72 S,gt_iff_lt,hbig,sB,Int.cast_ofNat_Int,c_w6_Make S,cS,cW,cB,c3,rep0',rep1',app_zero (cs:=[]),one_row,Bool.not_true,Bool.not_false,ne_eq,not_true_eq_false,not_false_eq_true,d_madeM,d_turnA,x_drawn,x_nil,x_cons,x_keep,x_kept,x_blk,sameL_nil,sameL_cons,x_row8,x_int8,x_bool8,List.all_cons,List.all_nil,Nat.beq,app_bad,app_rest,app_head,app_lead,deep_all,deep_way,deep_rest,deep_lead,c_r9_Same S,g1,g2,g3,g4,m1,m2,m3,m4,h9c,h9s,c_told ha,bne_self_eq_false,n1,n2,n3,n4,n5,n6,n7,n8,n9,n10,l16,l1,h60,w0,d0,c1,c2]
end
end Go.Aug.Mc
