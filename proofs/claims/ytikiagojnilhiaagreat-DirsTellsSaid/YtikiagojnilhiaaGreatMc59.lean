import Derived.Test.YtikiagojnilhiaaGreatMc60
import Derived.Test.YtikiagojnilhiaaGreatMc11
import Derived.Test.YtikiagojnilhiaaGreatEvPc
import Derived.Test.YtikiagojnilhiaaGreatMc58
namespace Go.Aug.Mc
open Go Go.Aug
open Nat renaming reduceLT -> zN0, reduceEqDiff -> zN1, reduceAdd -> zN2, reduceMul -> zN3, reduceLeDiff -> zN4
open Int renaming reduceEq -> zI0, reduceLT -> zI1, reduceLE -> zI2, reduceNeg -> zI3
set_option linter.unusedSimpArgs false
set_option linter.unusedVariables false
set_option maxHeartbeats 40000000
set_option maxRecDepth 200000
theorem app_rowI {A:List Blk}{bytes j v:Nat}{out l:List Int}{new:List AV}{n:Nat}(hA:A[j]? =some (.cells ((rowC out).map .d) v false))(hn:new=(rowC l).map .d)(hl:n=l.length)(h0:n≠0)(h1:(out.length+n)*bytes<=limA)(h2:out.length+n<=limA):
  evApp A 1 bytes (.sref j v 0 out.length 1 none) new n=some (.turn j (.cells ((rowC (out++l)).map .d) (v+1) false) (.sref j (v+1) 0 (out.length+n) 1 none)):=by
 subst hn hl
 have e:(rowC (out++l)).map AV.d=(rowC out).map .d++(rowC l).map .d:=by rw[rowC_app,List.map_append]
 rw[evApp_sref,if_neg h0,if_neg (by rw[one_row];simp;exact⟨by omega,by omega⟩),hA,e]
 have hl:((rowC out).map AV.d).length=out.length*1:=by rw[List.length_map,rowC_len];rfl
 have:¬0+(out.length+l.length)*1<=((rowC out).map AV.d).length:=by rw[hl];omega
 simp only[ne_eq,not_true_eq_false,false_or]
 rw[if_neg (by omega),if_neg (by simp),if_neg this]
 exact if_pos ⟨trivial,hl.symm⟩
theorem nc1' (A:List Blk)(x:DV)(k:Option Nat):newCells A false 1 (.d (.lst [x] 1 k))=some ([.d x],1):=rfl
theorem app_x {A:List Blk}{bytes j v:Nat}{out:List Int}{n:Int}{len:Nat}(hl:len=out.length)(hA:A[j]? =some (.cells ((rowC out).map .d) v false))(h1:(len+1)*bytes<=limA)(h2:len+1<=limA):
  evApp A 1 bytes (.sref j v 0 len 1 none) [aint n] 1=some (.turn j (.cells ((rowC (out++[n])).map .d) (v+1) false) (.sref j (v+1) 0 (len+1) 1 none)):=by
 subst hl;exact app_endI hA h1 h2
theorem app_y {A:List Blk}{bytes j v:Nat}{out l:List Int}{len:Nat}(hl:len=out.length)(hA:A[j]? =some (.cells ((rowC out).map .d) v false))(h0:l.length≠0)(h1:(len+l.length)*bytes<=limA)(h2:len+l.length<=limA):
  evApp A 1 bytes (.sref j v 0 len 1 none) ((rowC l).map .d) l.length=some (.turn j (.cells ((rowC (out++l)).map .d) (v+1) false) (.sref j (v+1) 0 (len+l.length) 1 none)):=by
 subst hl;exact app_rowI hA rfl rfl h0 h1 h2
theorem app_k {A:List Blk}{bytes:Nat}{out l:List Int}{len:Nat}(hl:len=out.length)(h0:l.length≠0)(h1:(len+l.length)*bytes<=limA)(h2:len+l.length<=limA):
  evApp A 1 bytes (.d (.lst (rowC out) len (some len))) ((rowC l).map .d) l.length=some (.fresh ((rowC (out++l)).map .d) (len+l.length)):=by
 subst hl
 have e:(rowC (out++l)).map AV.d=(rowC out).map .d++(rowC l).map .d:=by rw[rowC_app,List.map_append]
 unfold evApp
 rw[if_neg h0,e]
 exact if_pos ⟨by omega,by rw[rowC_len];rfl,h1,h2⟩
def ints7 (s:State):List Int:=[s.regs.r0,s.regs.r1,s.regs.r2,s.regs.r3,s.mem.length]++s.mem++[(s.stack.length:Int)]++s.stack++[s.pc]
theorem rep5 {α:Type}(l:List α):rep l 5=l++(l++(l++(l++l))):=by simp[rep]
variable {E:Env} {fn:FuncId->Option (Env->CallT->CallT)}
section
variable (S:Sur E fn)
include S
theorem o30_38:E.lives 30 1=none:=off S 30 1 (by decide) rfl
theorem own_Ints (dp:Nat)(r0 r1 r2 r3:Int)(mm sk:List Int)(pc:Int)(hm:mm.length<1073741824)(hs:sk.length<1073741824):
  evC E fn (dp+1) 56 [.d (.agg [vi r0,vi r1,vi r2,vi r3,rowD mm,rowD sk,vi pc])] []=some (.sref 0 0 0 (ints7 ⟨⟨r0,r1,r2,r3⟩,mm,sk,pc⟩).length 1 none,[.cells ((rowC (ints7 ⟨⟨r0,r1,r2,r3⟩,mm,sk,pc⟩)).map .d) 0 false]):=by
 rw[evC_succ,S.f_r7_Ints,apF_some,F_r7_Ints,mkF_run _ _ _ _ _ _ _ _ rfl]
 generalize h1:[r0,r1,r2,r3,(mm.length:Int)]=O1
 generalize h2:O1++mm=O2
 generalize h3:O2++[(sk.length:Int)]=O3
 generalize h4:O3++sk=O4
 have l1:O1.length=5:=by rw[<-h1];rfl
 have l2:O2.length=5+mm.length:=by rw[<-h2,List.length_append,l1]
 have l3:O3.length=5+mm.length+1:=by rw[<-h3,List.length_append,l2];rfl
 have l4:O4.length=5+mm.length+1+sk.length:=by rw[<-h4,List.length_append,l3]
 have hi:ints7 ⟨⟨r0,r1,r2,r3⟩,mm,sk,pc⟩=O4++[pc]:=by rw[<-h4,<-h3,<-h2,<-h1];rfl
 have l5:(O4++[pc]).length=5+mm.length+1+sk.length+1:=by rw[List.length_append,l4];rfl
 have lim:limA=1099511627776:=rfl
 rw[hi,l5]
 have a5:∀(A:List Blk) (j v:Nat),A[j]? =some (.cells ((rowC O4).map .d) v false)->evApp A 1 8 (.sref j v 0 (5+mm.length+1+sk.length) 1 none) [aint pc] 1=some (.turn j (.cells ((rowC (O4++[pc])).map .d) (v+1) false) (.sref j (v+1) 0 (5+mm.length+1+sk.length+1) 1 none)):=fun A j v hA=>app_x l4.symm hA (by omega) (by omega)
 have as2:mm.length=0->∀(A:List Blk) (cs:List DV) (len:Nat) (k:Option Nat) (new:List AV),evApp A 1 8 (.d (.lst cs len k)) new mm.length=some .same:=fun h A cs len k new=>by rw[h];exact app_sameD A 1 8 len cs k new
 have b2:mm.length≠0->∀ A:List Blk,evApp A 1 8 (.d (.lst [vi r0,vi r1,vi r2,vi r3,vi mm.length] 5 (some 5))) ((rowC mm).map .d) mm.length=some (.fresh ((rowC O2).map .d) (5+mm.length)):=fun h A=>by
  rw[<-h2]
  have:=app_k (A:=A) (bytes:=8) (out:=O1) (l:=mm) l1.symm h (by omega) (by omega)
  rw[<-h1] at this ⊢
  exact this
 have b3:mm.length=0->∀ A:List Blk,evApp A 1 8 (.d (.lst [vi r0,vi r1,vi r2,vi r3,vi mm.length] 5 (some 5))) [aint sk.length] 1=some (.fresh ((rowC O3).map .d) (5+mm.length+1)):=fun h A=>by
  have e1:mm=[]:=List.length_eq_zero_iff.1 h
  have q:O3=O1++[(sk.length:Int)]:=by rw[<-h3,<-h2,e1,List.append_nil]
  rw[q]
  have:=app_k (A:=A) (bytes:=8) (out:=O1) (l:=[(sk.length:Int)]) l1.symm (by simp) (by simp;omega) (by simp;omega)
  rw[show 5+mm.length+1=5+[(sk.length:Int)].length by rw[h];rfl]
  rw[<-h1] at this ⊢
  exact this
 have a3:∀(A:List Blk) (j v:Nat),A[j]? =some (.cells ((rowC O2).map .d) v false)->evApp A 1 8 (.sref j v 0 (5+mm.length) 1 none) [aint sk.length] 1=some (.turn j (.cells ((rowC O3).map .d) (v+1) false) (.sref j (v+1) 0 (5+mm.length+1) 1 none)):=fun A j v hA=>by
  rw[<-h3];exact app_x l2.symm hA (by omega) (by omega)
 have s4:sk.length=0->∀(A:List Blk) (i v o len sz:Nat) (k:Option Nat) (new:List AV),evApp A 1 8 (.sref i v o len sz k) new sk.length=some .same:=fun h A i v o len sz k new=>by rw[h];exact app_same A 1 8 i v o len sz k new
 have a4:sk.length≠0->∀(A:List Blk) (j v:Nat),A[j]? =some (.cells ((rowC O3).map .d) v false)->evApp A 1 8 (.sref j v 0 (5+mm.length+1) 1 none) ((rowC sk).map .d) sk.length=some (.turn j (.cells ((rowC O4).map .d) (v+1) false) (.sref j (v+1) 0 (5+mm.length+1+sk.length) 1 none)):=fun h A j v hA=>by
  rw[<-h4];exact app_y l3.symm hA h (by omega) (by omega)
 have a5':sk.length=0->∀(A:List Blk) (j v:Nat),A[j]? =some (.cells ((rowC O3).map .d) v false)->evApp A 1 8 (.sref j v 0 (5+mm.length+1) 1 none) [aint pc] 1=some (.turn j (.cells ((rowC (O4++[pc])).map .d) (v+1) false) (.sref j (v+1) 0 (5+mm.length+1+sk.length+1) 1 none)):=fun h A j v hA=>by
  have e2:sk=[]:=List.length_eq_zero_iff.1 h
  have q:O4=O3:=by rw[<-h4,e2,List.append_nil]
  rw[q,h];exact app_x l3.symm hA (by omega) (by omega)
 by_cases m0:mm.length=0<;>by_cases s0:sk.length=0
 ·simp only[eG,go_sem,thq S,nbr S,zN0,zN1,zN2,zN3,zN4,zI0,zI1,zI2,zI3,reduceCtorEq,Int.cast_ofNat_Int,Int.reduceToNat,Int.toNat_zero,true_and,if_true,Nat.zero_add,Nat.add_zero,rep5,rep1',sw_t,sw_s,dl_nil,dl_cons,Option.map_some,nc1',as2 m0,b3 m0,s4 s0,a5' s0]
 ·simp only[eG,go_sem,thq S,nbr S,zN0,zN1,zN2,zN3,zN4,zI0,zI1,zI2,zI3,reduceCtorEq,Int.cast_ofNat_Int,Int.reduceToNat,Int.toNat_zero,true_and,if_true,Nat.zero_add,Nat.add_zero,rep5,rep1',sw_t,sw_s,dl_nil,dl_cons,Option.map_some,nc1',as2 m0,b3 m0,a4 s0,a5]
 ·simp only[eG,go_sem,thq S,nbr S,zN0,zN1,zN2,zN3,zN4,zI0,zI1,zI2,zI3,reduceCtorEq,Int.cast_ofNat_Int,Int.reduceToNat,Int.toNat_zero,true_and,if_true,Nat.zero_add,Nat.add_zero,rep5,rep1',sw_t,sw_s,dl_nil,dl_cons,Option.map_some,nc1',b2 m0,a3,s4 s0,a5' s0]
 ·simp only[eG,go_sem,thq S,nbr S,zN0,zN1,zN2,zN3,zN4,zI0,zI1,zI2,zI3,reduceCtorEq,Int.cast_ofNat_Int,Int.reduceToNat,Int.toNat_zero,true_and,if_true,Nat.zero_add,Nat.add_zero,rep5,rep1',sw_t,sw_s,dl_nil,dl_cons,Option.map_some,nc1',b2 m0,a3,a4 s0,a5]
theorem o_Ints (dp:Nat)(r0 r1 r2 r3:Int)(mm sk:List Int)(pc:Int)(hm:mm.length<1073741824)(hs:sk.length<1073741824)(A:List Blk)(nb:Nat):
  evOwnK true E (evC E fn (dp+1)) 56 A nb (some ([.agg [vi r0,vi r1,vi r2,vi r3,rowD mm,rowD sk,vi pc]],[]))=some (.made (.sref nb 0 0 (ints7 ⟨⟨r0,r1,r2,r3⟩,mm,sk,pc⟩).length 1 none) [.cells ((rowC (ints7 ⟨⟨r0,r1,r2,r3⟩,mm,sk,pc⟩)).map .d) 0 false]):=by
 have h:=own_Ints S dp r0 r1 r2 r3 mm sk pc hm hs
 have hr:evRaw E (evC E fn (dp+1)) 56 [.agg [vi r0,vi r1,vi r2,vi r3,rowD mm,rowD sk,vi pc]]=some (.sref 0 0 0 (ints7 ⟨⟨r0,r1,r2,r3⟩,mm,sk,pc⟩).length 1 none,[.cells ((rowC (ints7 ⟨⟨r0,r1,r2,r3⟩,mm,sk,pc⟩)).map .d) 0 false]):=by
  unfold evRaw
  rw[np S 56 (by decide)]
  exact h
 simp only[evOwnK,hr,evAnsB,cond_true]
 simp[thaw,thawed,isEmptyL,memN]
end
def entI (e:Ent):List Int:=[e.pc,e.val,e.addr,e.frm,e.next,Md.truth e.done,Md.truth e.known,Md.truth e.fault]
def ints9 (c:Conf):List Int:=ints7 c.state++[(c.buf.length:Int)]++c.buf.flatMap entI++[(c.rsb.length:Int)]++c.rsb++[c.end_]
theorem rep8 {α:Type}(l:List α):rep l 8=l++(l++(l++(l++(l++(l++(l++l)))))):=by simp[rep]
theorem nc8 (A:List Blk)(a b c d e f g h:DV)(k:Option Nat):newCells A false 1 (.d (.lst [a,b,c,d,e,f,g,h] 8 k))=some ([.d a,.d b,.d c,.d d,.d e,.d f,.d g,.d h],8):=rfl
theorem app_8 {A:List Blk}{j v len:Nat}{out:List Int}(a b c d e f g h:Int)(hl:len=out.length)(hA:A[j]? =some (.cells ((rowC out).map .d) v false))(h1:(len+8)*8<=limA)(h2:len+8<=limA):
  evApp A 1 8 (.sref j v 0 len 1 none) [aint a,aint b,aint c,aint d,aint e,aint f,aint g,aint h] 8=some (.turn j (.cells ((rowC (out++[a,b,c,d,e,f,g,h])).map .d) (v+1) false) (.sref j (v+1) 0 (len+8) 1 none)):=
 app_y (l:=[a,b,c,d,e,f,g,h]) hl hA (by simp) h1 h2
section
variable (S:Sur E fn)
include S
theorem loop_Ints (dp:Nat)(c:Conf)(hb:c.buf.length<1073741824)(kx:Nat->K)(D:DV)(R:List Int)
  (hx:∀ T,getS .bot T 1=.ref 0 0 0->getS .bot T 3=.sref 1 0 0 R.length 1 none->ansOf (kx 0 (mk .bot 64 T) [.cells ((confC c).map .d) 0 false,.cells ((rowC R).map .d) 0 false])=some D):
  ∀(m k f:Nat) (o:List Int),k+m=c.buf.length->m<=f->o.length+8*m<17179869184->o++(c.buf.drop k).flatMap entI=R->
  ansOf (B10_r9_Ints (inn E 30) (evC E fn (dp+1)) (loopK 10 B10_r9_Ints (inn E 30) (evC E fn (dp+1)) kx (kEnd 0 [.tmp 2]) f) kx (kEnd 0 [.tmp 2]) (mk .bot 64 [(1,.ref 0 0 0),(3,.sref 1 0 0 o.length 1 none),(4,aint k)]) [.cells ((confC c).map .d) 0 false,.cells ((rowC o).map .d) 0 false])=some D:=by
 intro m
 induction m with
 | zero=>
  intro k f o hk _ _ hr
  rw[List.drop_of_length_le (by omega)] at hr
  have hr:o=R:=by simpa using hr
  subst hr
  generalize loopK 10 B10_r9_Ints _ _ kx _ f=KK
  first | (conv=>lhs;rw[B10_r9_Ints]) | rw[B10_r9_Ints]
  simp only[eG,go_sem,thq S,nbr S,zN0,zN1,zN2,zN3,zN4,zI0,zI1,zI2,zI3,reduceCtorEq,o30_38 S,show ¬(k:Int)<c.buf.length by omega]
  exact hx _ rfl rfl
 | succ m ih=>
  intro k f o hk hf ho hr
  obtain⟨e,he⟩:=get_of (show k<c.buf.length by omega)
  obtain⟨f,rfl⟩:∃ g,f=g+1:=⟨f-1,by omega⟩
  have hkg:(k:Int)<c.buf.length:=by omega
  have hr':(o++entI e)++(c.buf.drop (k+1)).flatMap entI=R:=by
   rw[<-hr,drop_get he,List.flatMap_cons,List.append_assoc]
  have hle:(o++entI e).length=o.length+8:=by rw[List.length_append];rfl
  have:=ih (k+1) f (o++entI e) (by omega) (by omega) (by rw[hle];omega) hr'
  rw[hle] at this
  have k1:(o.length+8)*8<=limA:=by unfold limA;omega
  have k2:o.length+8<=limA:=by unfold limA;omega
  have ap:∀(A:List Blk) (j v:Nat) (t1 t2 t3:Int),A[j]? =some (.cells ((rowC o).map .d) v false)->evApp A 1 8 (.sref j v 0 o.length 1 none) [aint e.pc,aint e.val,aint e.addr,aint e.frm,aint e.next,aint t1,aint t2,aint t3] 8=some (.turn j (.cells ((rowC (o++[e.pc,e.val,e.addr,e.frm,e.next,t1,t2,t3])).map .d) (v+1) false) (.sref j (v+1) 0 (o.length+8) 1 none)):=fun A j v t1 t2 t3 hA=>app_8 _ _ _ _ _ _ _ _ rfl hA k1 k2
  generalize hK:loopK 10 B10_r9_Ints _ _ kx _ (f+1)=KK
  first | (conv=>lhs;rw[B10_r9_Ints]) | rw[B10_r9_Ints]
  simp only[eG,go_sem,thq S,nbr S,zN0,zN1,zN2,zN3,zN4,zI0,zI1,zI2,zI3,reduceCtorEq,o30_38 S,rep8,nc8,sw_t,sw_s,dl_nil,dl_cons,Option.map_some,hkg,w_ix he,wi k (by omega),c_r9_truth S,ap]
  rw[<-hK,loop_in (on S _ _ [1,3,4] (by decide) rfl) rfl _ _ _ _ _ _ _ _ _ rfl]
  simp only[eG,go_sem,thq S,nbr S,zN0,zN1,zN2,zN3,zN4,zI0,zI1,zI2,zI3,reduceCtorEq,o30_38 S]
  exact this
theorem raw_r9_Ints (dp:Nat)(c:Conf)(hm:c.state.mem.length<1073741824)(hs:c.state.stack.length<1073741824)(hb:c.buf.length<1073741824)(hr:c.rsb.length<1073741824):Says E fn (dp+2) 30 [confD c] (rowD (ints9 c)):=by
 unfold Says
 show ansOf (evC E fn (dp+1+1) 30 [.d (confD c)] [])=_
 rw[evC_succ,S.f_r9_Ints,apF_some,F_r9_Ints,mkF_run _ _ _ _ _ _ _ _ rfl]
 generalize h1:ints7 c.state=O1
 generalize h2:O1++[(c.buf.length:Int)]=O2
 generalize h3:O2++c.buf.flatMap entI=O3
 generalize h4:O3++[(c.rsb.length:Int)]=O4
 generalize h5:O4++c.rsb=O5
 have hi:ints9 c=O5++[c.end_]:=by rw[<-h5,<-h4,<-h3,<-h2,<-h1];rfl
 have l1:O1.length<2147483656:=by rw[<-h1];unfold ints7;simp;omega
 have l2:O2.length=O1.length+1:=by rw[<-h2,List.length_append];rfl
 have hfl:∀ l:List Ent,(l.flatMap entI).length=8*l.length:=by
  intro l
  induction l with
  | nil=>rfl
  | cons e l ih=>rw[List.flatMap_cons,List.length_append,ih,List.length_cons];show 8+_=_;omega
 have l3:O3.length=O2.length+8*c.buf.length:=by rw[<-h3,List.length_append,hfl]
 have l4:O4.length=O3.length+1:=by rw[<-h4,List.length_append];rfl
 have l5:O5.length=O4.length+c.rsb.length:=by rw[<-h5,List.length_append]
 have lim:limA=1099511627776:=rfl
 have a2:∀(A:List Blk) (j v:Nat),A[j]? =some (.cells ((rowC O1).map .d) v false)->evApp A 1 8 (.sref j v 0 O1.length 1 none) [aint c.buf.length] 1=some (.turn j (.cells ((rowC O2).map .d) (v+1) false) (.sref j (v+1) 0 (O1.length+1) 1 none)):=fun A j v hA=>by
  rw[<-h2];exact app_x rfl hA (by omega) (by omega)
 have a4:∀(A:List Blk) (j v:Nat),A[j]? =some (.cells ((rowC O3).map .d) v false)->evApp A 1 8 (.sref j v 0 O3.length 1 none) [aint c.rsb.length] 1=some (.turn j (.cells ((rowC O4).map .d) (v+1) false) (.sref j (v+1) 0 O4.length 1 none)):=fun A j v hA=>by
  rw[l4,<-h4];exact app_x rfl hA (by omega) (by omega)
 have s5:c.rsb.length=0->∀(A:List Blk) (i v o len sz:Nat) (k:Option Nat) (new:List AV),evApp A 1 8 (.sref i v o len sz k) new c.rsb.length=some .same:=fun h A i v o len sz k new=>by rw[h];exact app_same A 1 8 i v o len sz k new
 have a5:c.rsb.length≠0->∀(A:List Blk) (j v:Nat),A[j]? =some (.cells ((rowC O4).map .d) v false)->evApp A 1 8 (.sref j v 0 O4.length 1 none) ((rowC c.rsb).map .d) c.rsb.length=some (.turn j (.cells ((rowC O5).map .d) (v+1) false) (.sref j (v+1) 0 O5.length 1 none)):=fun h A j v hA=>by
  rw[l5,<-h5];exact app_y rfl hA h (by omega) (by omega)
 have a6:∀(A:List Blk) (j v:Nat),A[j]? =some (.cells ((rowC O5).map .d) v false)->evApp A 1 8 (.sref j v 0 O5.length 1 none) [aint c.end_] 1=some (.turn j (.cells ((rowC (O5++[c.end_])).map .d) (v+1) false) (.sref j (v+1) 0 (O5.length+1) 1 none)):=fun A j v hA=>app_x rfl hA (by omega) (by omega)
 have hd:deep [.cells ((rowC (O5++[c.end_])).map .d) 0 false] 8 (.sref 0 0 0 (O5.length+1) 1 none)=some (.lst (rowC (O5++[c.end_])) (O5++[c.end_]).length none,[0]):=deep_alone _ (by simp) _ (by simp) 6 1 none rfl
 have hmk:ints7 ⟨⟨c.state.regs.r0,c.state.regs.r1,c.state.regs.r2,c.state.regs.r3⟩,c.state.mem,c.state.stack,c.state.pc⟩=O1:=h1
 rw[hi]
 simp only[eG,go_sem,thq S,nbr S,zN0,zN1,zN2,zN3,zN4,zI0,zI1,zI2,zI3,reduceCtorEq,o30_38 S,rep1',sw_t,sw_s,dl_nil,dl_cons,Option.map_some,nc1',o_Ints S,hm,hs,h1,a2]
 rw[big_eq,loop_in (on S _ _ [1,3,4] (by decide) rfl) rfl _ _ _ _ _ _ _ _ _ rfl]
 simp only[eG,go_sem,thq S,nbr S,zN0,zN1,zN2,zN3,zN4,zI0,zI1,zI2,zI3,reduceCtorEq,o30_38 S]
 have go:=fun(kx:Nat->K) (D:DV) hx=>loop_Ints S dp c hb kx D O3 hx c.buf.length 0 999999999999999999999999999999 O2 (by omega) (by omega) (by omega) (by rw[List.drop_zero];exact h3)
 rw[l2] at go
 refine go _ _ ?_
 intro T t1 t3
 by_cases r0:c.rsb.length=0
 ·have e5 : O5 = O4 := by rw [<- h5, List.length_eq_zero_iff.1 r0, List.append_nil]
  rw[e5] at a6 hd ⊢
  simp only[eG,go_sem,thq S,nbr S,zN0,zN1,zN2,zN3,zN4,zI0,zI1,zI2,zI3,reduceCtorEq,o30_38 S,rep1',sw_t,sw_s,dl_nil,dl_cons,Option.map_some,nc1',t1,t3,a4,s5 r0,a6,hd]
  rfl
 ·simp only [eG, go_sem, thq S, nbr S, zN0, zN1, zN2, zN3, zN4, zI0, zI1, zI2, zI3, reduceCtorEq, o30_38 S, rep1', sw_t, sw_s, dl_nil, dl_cons, Option.map_some, nc1', t1, t3, a4, a5 r0, a6, hd]
  rfl
theorem c_r9_Ints (dp:Nat)(c_r0 c_r1 c_r2 c_r3:Int)(c_mm c_st:List Int)(c_pc:Int)(c_bf:List Ent)(c_rb:List Int)(c_en:Int)(hm:(⟨⟨⟨c_r0,c_r1,c_r2,c_r3⟩,c_mm,c_st,c_pc⟩,c_bf,c_rb,c_en⟩:Conf).state.mem.length<1073741824)(hs:(⟨⟨⟨c_r0,c_r1,c_r2,c_r3⟩,c_mm,c_st,c_pc⟩,c_bf,c_rb,c_en⟩:Conf).state.stack.length<1073741824)(hb:(⟨⟨⟨c_r0,c_r1,c_r2,c_r3⟩,c_mm,c_st,c_pc⟩,c_bf,c_rb,c_en⟩:Conf).buf.length<1073741824)(hr:(⟨⟨⟨c_r0,c_r1,c_r2,c_r3⟩,c_mm,c_st,c_pc⟩,c_bf,c_rb,c_en⟩:Conf).rsb.length<1073741824)(A:List Blk)(nb:Nat):evOwnK false E (evC E fn (dp+2)) 30 A nb (some ([.agg [vi c_r0,vi c_r1,vi c_r2,vi c_r3,rowD c_mm,rowD c_st,vi c_pc,rowD c_bf,rowD c_rb,vi c_en]],[]))=some (.made (.d (rowD (ints9 (⟨⟨⟨c_r0,c_r1,c_r2,c_r3⟩,c_mm,c_st,c_pc⟩,c_bf,c_rb,c_en⟩:Conf)))) []):=
 Says.deep (raw_r9_Ints S dp (⟨⟨⟨c_r0,c_r1,c_r2,c_r3⟩,c_mm,c_st,c_pc⟩,c_bf,c_rb,c_en⟩:Conf) hm hs hb hr) (np S 30 (by decide)) A nb
theorem raw_r9_Same (dp:Nat)(a b:Conf)(h1:a.state.mem.length<1073741824)(h2:a.state.stack.length<1073741824)(h3:a.buf.length<1073741824)(h4:a.rsb.length<1073741824)(g1:b.state.mem.length<1073741824)(g2:b.state.stack.length<1073741824)(g3:b.buf.length<1073741824)(g4:b.rsb.length<1073741824)(h5:(ints9 a).length<1073741824):Says E fn (dp+3) 15 [confD a,confD b] (vb (decide (ints9 a=ints9 b))):=by
 unfold Says
 show ansOf (evC E fn (dp+2+1) 15 [.d (confD a),.d (confD b)] [])=_
 rw[evC_succ,S.f_r9_Same,apF_some,F_r9_Same,mkF_run _ _ _ _ _ _ _ _ rfl]
 simp only[eG,go_sem,thq S,nbr S,zN0,zN1,zN2,zN3,zN4,zI0,zI1,zI2,zI3,reduceCtorEq,c_r9_Ints S,h1,h2,h3,h4,g1,g2,g3,g4,c_r1_SameInts S,h5]
theorem c_r9_Same (dp:Nat)(a_r0 a_r1 a_r2 a_r3:Int)(a_mm a_st:List Int)(a_pc:Int)(a_bf:List Ent)(a_rb:List Int)(a_en b_r0 b_r1 b_r2 b_r3:Int)(b_mm b_st:List Int)(b_pc:Int)(b_bf:List Ent)(b_rb:List Int)(b_en:Int)(h1:(⟨⟨⟨a_r0,a_r1,a_r2,a_r3⟩,a_mm,a_st,a_pc⟩,a_bf,a_rb,a_en⟩:Conf).state.mem.length<1073741824)(h2:(⟨⟨⟨a_r0,a_r1,a_r2,a_r3⟩,a_mm,a_st,a_pc⟩,a_bf,a_rb,a_en⟩:Conf).state.stack.length<1073741824)(h3:(⟨⟨⟨a_r0,a_r1,a_r2,a_r3⟩,a_mm,a_st,a_pc⟩,a_bf,a_rb,a_en⟩:Conf).buf.length<1073741824)(h4:(⟨⟨⟨a_r0,a_r1,a_r2,a_r3⟩,a_mm,a_st,a_pc⟩,a_bf,a_rb,a_en⟩:Conf).rsb.length<1073741824)(g1:(⟨⟨⟨b_r0,b_r1,b_r2,b_r3⟩,b_mm,b_st,b_pc⟩,b_bf,b_rb,b_en⟩:Conf).state.mem.length<1073741824)(g2:(⟨⟨⟨b_r0,b_r1,b_r2,b_r3⟩,b_mm,b_st,b_pc⟩,b_bf,b_rb,b_en⟩:Conf).state.stack.length<1073741824)(g3:(⟨⟨⟨b_r0,b_r1,b_r2,b_r3⟩,b_mm,b_st,b_pc⟩,b_bf,b_rb,b_en⟩:Conf).buf.length<1073741824)(g4:(⟨⟨⟨b_r0,b_r1,b_r2,b_r3⟩,b_mm,b_st,b_pc⟩,b_bf,b_rb,b_en⟩:Conf).rsb.length<1073741824)(h5:(ints9 (⟨⟨⟨a_r0,a_r1,a_r2,a_r3⟩,a_mm,a_st,a_pc⟩,a_bf,a_rb,a_en⟩:Conf)).length<1073741824)(A:List Blk)(nb:Nat)(us:List Nat):evOwnK false E (evC E fn (dp+3)) 15 A nb (some ([.agg [vi a_r0,vi a_r1,vi a_r2,vi a_r3,rowD a_mm,rowD a_st,vi a_pc,rowD a_bf,rowD a_rb,vi a_en],.agg [vi b_r0,vi b_r1,vi b_r2,vi b_r3,rowD b_mm,rowD b_st,vi b_pc,rowD b_bf,rowD b_rb,vi b_en]],us))=some (.made (.d (vb (decide (ints9 (⟨⟨⟨a_r0,a_r1,a_r2,a_r3⟩,a_mm,a_st,a_pc⟩,a_bf,a_rb,a_en⟩:Conf)=ints9 (⟨⟨⟨b_r0,b_r1,b_r2,b_r3⟩,b_mm,b_st,b_pc⟩,b_bf,b_rb,b_en⟩:Conf))))) []):=
 Says.flat (raw_r9_Same S dp (⟨⟨⟨a_r0,a_r1,a_r2,a_r3⟩,a_mm,a_st,a_pc⟩,a_bf,a_rb,a_en⟩:Conf) (⟨⟨⟨b_r0,b_r1,b_r2,b_r3⟩,b_mm,b_st,b_pc⟩,b_bf,b_rb,b_en⟩:Conf) h1 h2 h3 h4 g1 g2 g3 g4 h5) (np S 15 (by decide)) (rfl) A nb us
end
theorem fm_len:∀ l:List Ent,(l.flatMap entI).length<=8*l.length
 | []=>Nat.le_refl _
 | e::l=>by
  have:=fm_len l
  rw[List.flatMap_cons,List.length_append,List.length_cons]
  have h:(entI e).length=8:=rfl
  omega
theorem ints9_len (c:Conf):(ints9 c).length<=c.state.mem.length+c.state.stack.length+8*c.buf.length+c.rsb.length+100:=by
 have:=fm_len c.buf
 unfold ints9 ints7
 simp only[List.length_append,List.length_cons,List.length_nil]
 omega
end Go.Aug.Mc
namespace Go.Aug
open Go
set_option linter.unusedSimpArgs false
section
variable {α:Type} [Cl α] [Cl1 α]
theorem app_rows {A:List Blk}{s bytes j v:Nat}{out l2:List α}(hA:A[j]? =some (.cells ((rowC out).map .d) v false))(hs:s=Cl.n α)(hp:0<Cl.n α)(h0:l2.length≠0)(h1:(out.length+l2.length)*bytes<=limA)(h2:out.length+l2.length<=limA):
  evApp A s bytes (.sref j v 0 out.length s none) ((rowC l2).map .d) l2.length=some (.turn j (.cells ((rowC (out++l2)).map .d) (v+1) false) (.sref j (v+1) 0 (out.length+l2.length) s none)):=by
 subst hs
 have e:(rowC (out++l2)).map AV.d=(rowC out).map .d++(rowC l2).map .d:=by rw[rowC_app,List.map_append]
 obtain⟨m,hm⟩:∃ m,l2.length=m+1:=⟨l2.length-1,by omega⟩
 rw[evApp_sref,if_neg h0,if_neg (by rw[one_row];simp;exact⟨by omega,by omega⟩),hA,e]
 have hl:((rowC out).map AV.d).length=out.length*Cl.n α:=by rw[List.length_map,rowC_len]
 have hlt:¬0+(out.length+l2.length)*Cl.n α<=((rowC out).map AV.d).length:=by
  rw[hl,hm,Nat.add_mul,Nat.add_mul];omega
 simp only[ne_eq,not_true_eq_false,false_or]
 rw[if_neg (by omega),if_neg (by simp),if_neg hlt]
 exact if_pos ⟨trivial,hl.symm⟩
omit [Cl1 α] in
theorem ld_row {l:List α}{k:Nat}{e:α}(h:l[k]? =some e):((rowC l).map AV.d).drop (k*Cl.n α)=(Cl.cells e).map .d++(rowC (l.drop (k+1))).map .d:=by
 obtain⟨hk,rfl⟩:=List.getElem?_eq_some_iff.1 h
 have e0:l=l.take k++l[k]::l.drop (k+1):=by rw[<-List.drop_eq_getElem_cons hk,List.take_append_drop]
 have e1:rowC l=rowC (l.take k)++(Cl.cells l[k]++rowC (l.drop (k+1))):=by
  conv=>lhs;rw[e0]
  rw[rowC_app];rfl
 have hl:((rowC (l.take k)).map AV.d).length=k*Cl.n α:=by rw[List.length_map,rowC_len,List.length_take,Nat.min_eq_left (by omega)]
 rw[e1,List.map_append,List.map_append,<-hl,List.drop_left]
end
theorem app_2D {A:List Blk}{bytes j v:Nat}{out:List Dir}{a b c d:Int}(hA:A[j]? =some (.cells ((rowC out).map .d) v false))(h1:(out.length+2)*bytes<=limA)(h2:out.length+2<=limA):
  evApp A 2 bytes (.sref j v 0 out.length 2 none) [.d (vi a),.d (vi b),.d (vi c),.d (vi d)] 2=some (.turn j (.cells ((rowC (out++[⟨a,b⟩,⟨c,d⟩])).map .d) (v+1) false) (.sref j (v+1) 0 (out.length+2) 2 none)):=
 app_rows (l2:=[(⟨a,b⟩:Dir),⟨c,d⟩]) hA rfl (by decide) (by simp) h1 h2
theorem ld_dir {l:List Dir}{k:Nat}{e:Dir}(h:l[k]? =some e):((rowC l).map AV.d).drop (k*2)=.d (vi e.kind):: .d (vi e.n)::(rowC (l.drop (k+1))).map .d:=ld_row h
end Go.Aug
namespace Go.Aug
open Go
set_option linter.unusedSimpArgs false
section
variable {α:Type} [Cl α] [Cl1 α]
end
end Go.Aug
namespace Go.Aug.Mc
open Go Go.Aug
open Nat renaming reduceLT -> zN0, reduceEqDiff -> zN1, reduceAdd -> zN2, reduceMul -> zN3, reduceLeDiff -> zN4
open Int renaming reduceEq -> zI0, reduceLT -> zI1, reduceLE -> zI2, reduceNeg -> zI3
set_option linter.unusedSimpArgs false
set_option linter.unusedVariables false
set_option maxHeartbeats 40000000
set_option maxRecDepth 200000
theorem rep2A {α:Type}(l:List α):rep l 2=l++l:=by simp[rep]
variable {E:Env} {fn:FuncId->Option (Env->CallT->CallT)}
section
variable (S:Sur E fn)
include S
theorem o4_59:E.lives 4 1=none/\E.lives 4 15=none/\E.lives 4 33=none:=⟨off S 4 1 (by decide) rfl,off S 4 15 (by decide) rfl,off S 4 33 (by decide) rfl⟩
theorem dt_loop (dp:Nat)(p:Prog)(hp:Md.Fine p)(hml:p.mems.length<1000)(hN:cellsI p.mems<=1000)(c:Conf)(hI:Md.Inv (cellsI p.mems) p c)(okd ond:Int)(R:List Dir)(hR:R.length<1000000)(kx:Nat->K)(D:Option (AV×List Blk))
  (hx:∀ T A,kx 0 (mk .bot 139 T) A=D):
  ∀(m k f:Nat),k+m=R.length->m<=f->
  B20_w17_DirsTells (inn E 4) (evC E fn (dp+11)) (loopK 20 B20_w17_DirsTells (inn E 4) (evC E fn (dp+11)) kx (kEnd 0 [.tmp 10]) f) kx (kEnd 0 [.tmp 10]) (mk .bot 139 [(9,.ref 0 0 0),(11,.ref 1 0 0),(14,.ref 2 0 0),(66,.sref 3 0 0 R.length 2 none),(67,aint R.length),(68,aint k)]) [.cells [.d (vi okd),.d (vi ond)] 0 false,.cells ((progC p).map .d) 0 false,.cells ((confC c).map .d) 0 false,.cells ((rowC R).map .d) 0 false]=D:=by
 obtain⟨q1,q2,q3,q4,q5,_⟩:=inv_hyps hp hI hN ⟨0,0⟩
 have g0:p.mems.length<1073741824:=by omega
 have g2:c.buf.length<1073741824:=by omega
 have hm:=hI.mem
 intro m
 induction m with
 | zero=>
  intro k f hk _
  have hkl:¬(k:Int)<R.length:=by omega
  generalize loopK 20 B20_w17_DirsTells _ _ kx _ f=KK
  first | (conv=>lhs;rw[B20_w17_DirsTells]) | rw[B20_w17_DirsTells]
  simp only[eG,go_sem,thq S,nbr S,zN0,zN1,zN2,zN3,zN4,zI0,zI1,zI2,zI3,reduceCtorEq,o4_59 S,hkl]
  exact hx _ _
 | succ m ih=>
  intro k f hk hf
  obtain⟨f,rfl⟩:∃ g,f=g+1:=⟨f-1,by omega⟩
  have next:=ih (k+1) f (by omega) (by omega)
  have hkl:(k:Int)<R.length:=by omega
  have hk0:(0:Int)<=k:=by omega
  obtain⟨d,hd⟩:=get_of (show k<R.length by omega)
  have hld:=ld_dir hd
  have hdo:=fun(A:List Blk) (nb:Nat)=>do_any S dp hp hml hN hI d A nb
  obtain⟨y0,y00,y000,y0000,y00000,y1,y2,y3,y4,y5,y6⟩:=inv_hyps hp hI hN d
  have hsy:=fun(A:List Blk) (nb:Nat)=>Says.deep (raw_r9_Say S (dp+4) p c d q1 (by omega) (by omega) (by omega) (by omega) y1 (by rw[hm];exact y2) y3 y4 y5 y6) (np S 14 (by decide)) A nb
  obtain⟨s1,s2,s3,s4,s5⟩:=say_small hp hN hI d
  rw[hm] at hsy
  have hcd:=fun(A:List Blk) (nb:Nat)=>Says.flat (raw_dirs_Can S (dp+1) p c d q1 g0 g2) (np S 19 (by decide)) rfl A nb
  generalize Md.canSay (cellsI p.mems) p c d=B at hdo hsy hcd
  generalize sayC (cellsI p.mems) p c d=X at hdo hsy s1 s2 s3 s4 s5
  obtain⟨X,o⟩:=X
  simp only at s1 s2 s3 s4 s5
  have h9:(ints9 X).length<1073741824:=by have:=ints9_len X;omega
  simp only[progD,progC,confD,confC,cl_dir] at hdo hsy hcd
  have t1:X.state.mem.length<1073741824:=by omega
  have t2:X.state.stack.length<1073741824:=by omega
  have t3:X.buf.length<1073741824:=by omega
  have t4:X.rsb.length<1073741824:=by omega
  have t5:o.length<1073741824:=by omega
  have hless:=less_iff d ⟨okd,ond⟩
  have hlessf:= @less_f d ⟨okd,ond⟩
  simp only at hless hlessf
  have cL:=fun(A:List Blk) (nb:Nat)=>Says.flat (raw_dirs_Less S (dp+7) d ⟨okd,ond⟩) (np S 20 (by decide)) rfl A nb
  generalize lessM d ⟨okd,ond⟩=LL at hless hlessf cL
  simp only[cl_dir] at cL
  generalize hK:loopK 20 B20_w17_DirsTells _ _ kx _ (f+1)=KK
  first | (conv=>lhs;rw[B20_w17_DirsTells]) | rw[B20_w17_DirsTells]
  by_cases h1:d.kind<okd
  ·obtain rfl : LL = true := hless.2 (.inl h1)
   simp only[eG,go_sem,thq S,nbr S,zN0,zN1,zN2,zN3,zN4,zI0,zI1,zI2,zI3,reduceCtorEq,o4_59 S,hkl,hk0,Int.toNat_natCast,hld,Nat.zero_add,hdo,hsy,hcd,cL,t1,t2,t3,t4,t5,h9,c_r9_Same S,c_r7_SameObs S,wi k (by omega),Bool.not_true,Bool.not_false,beq_self_eq_true,bne_self_eq_false,h1]
   rw[<-hK,loop_in (on S _ _ [9,11,14,66,67,68] (by decide) rfl) rfl _ _ _ _ _ _ _ _ _ rfl]
   simp only[eG,go_sem,thq S,nbr S,zN0,zN1,zN2,zN3,zN4,zI0,zI1,zI2,zI3,reduceCtorEq,o4_59 S]
   exact next
  ·by_cases h2 : d.kind = okd
   ·by_cases h3 : d.n < ond
    ·obtain rfl : LL = true := hless.2 (.inr ⟨h2, h3⟩)
     simp only[eG,go_sem,thq S,nbr S,zN0,zN1,zN2,zN3,zN4,zI0,zI1,zI2,zI3,reduceCtorEq,o4_59 S,hkl,hk0,Int.toNat_natCast,hld,Nat.zero_add,hdo,hsy,hcd,cL,t1,t2,t3,t4,t5,h9,c_r9_Same S,c_r7_SameObs S,wi k (by omega),Bool.not_true,Bool.not_false,beq_self_eq_true,bne_self_eq_false,h1,eq_true h2,h3]
     rw[<-hK,loop_in (on S _ _ [9,11,14,66,67,68] (by decide) rfl) rfl _ _ _ _ _ _ _ _ _ rfl]
     simp only[eG,go_sem,thq S,nbr S,zN0,zN1,zN2,zN3,zN4,zI0,zI1,zI2,zI3,reduceCtorEq,o4_59 S]
     exact next
    ·obtain rfl : LL = false := hlessf (by omega)
     simp only[eG,go_sem,thq S,nbr S,zN0,zN1,zN2,zN3,zN4,zI0,zI1,zI2,zI3,reduceCtorEq,o4_59 S,hkl,hk0,Int.toNat_natCast,hld,Nat.zero_add,hdo,hsy,hcd,cL,t1,t2,t3,t4,t5,h9,c_r9_Same S,c_r7_SameObs S,wi k (by omega),Bool.not_true,Bool.not_false,beq_self_eq_true,bne_self_eq_false,h1,eq_true h2,h3]
     rw[<-hK,loop_in (on S _ _ [9,11,14,66,67,68] (by decide) rfl) rfl _ _ _ _ _ _ _ _ _ rfl]
     simp only[eG,go_sem,thq S,nbr S,zN0,zN1,zN2,zN3,zN4,zI0,zI1,zI2,zI3,reduceCtorEq,o4_59 S]
     exact next
   ·obtain rfl : LL = false := hlessf (by omega)
    simp only[eG,go_sem,thq S,nbr S,zN0,zN1,zN2,zN3,zN4,zI0,zI1,zI2,zI3,reduceCtorEq,o4_59 S,hkl,hk0,Int.toNat_natCast,hld,Nat.zero_add,hdo,hsy,hcd,cL,t1,t2,t3,t4,t5,h9,c_r9_Same S,c_r7_SameObs S,wi k (by omega),Bool.not_true,Bool.not_false,beq_self_eq_true,bne_self_eq_false,h1,eq_false h2]
    rw[<-hK,loop_in (on S _ _ [9,11,14,66,67,68] (by decide) rfl) rfl _ _ _ _ _ _ _ _ _ rfl]
    simp only[eG,go_sem,thq S,nbr S,zN0,zN1,zN2,zN3,zN4,zI0,zI1,zI2,zI3,reduceCtorEq,o4_59 S]
    exact next
theorem raw_lawTellsD (ha:E.prim 12=some trueG)(dp:Nat)(m l w:List Int)(raw other:Dir):evC E fn (dp+12) 4 [.d (rowD m),.d (rowD l),.d (rowD w),.d (.agg (Cl.cells raw)),.d (.agg (Cl.cells other))] []=some (abool true,[]):=by
 have hp:=mk_fine m
 have hN:=mk_cells m
 have hml:=mk_ml m
 have hil:=make_il m
 obtain⟨s,s',hS,o1,o2⟩:=says_States S (dp+6) (Md.make m) (mk_ms m) hml l
 obtain⟨c,o,hW,hI⟩:=says_Walk S (dp+3) (Md.make m) hp _ hN s (o1.inv hp) w
 have cS:=fun(A:List Blk) (nb:Nat)=>Says.deep hS (np S 8 (by decide)) A nb
 have cW:=fun(A:List Blk) (nb:Nat)=>Says.deep hW (np S 9 (by decide)) A nb
 simp only[progD,progC,stateD,stateC,confD,confC] at cS cW
 obtain⟨q1,q2,q3,q4,q5,_⟩:=inv_hyps hp hI hN ⟨0,0⟩
 have g0:(Md.make m).mems.length<1073741824:=by omega
 have g2:c.buf.length<1073741824:=by omega
 have hm:=hI.mem
 generalize hL:Md.all (cellsI (Md.make m).mems) (Md.make m) c=L
 have hLl:L.length<900000:=by
  have h1:=List.length_filter_le (fun n:Nat=>Md.can (cellsI (Md.make m).mems) (Md.make m) c (n:Int)) (List.range c.buf.length)
  have h2:=List.length_filter_le (fun n:Nat=>Md.canAddr (Md.make m) c (n:Int)) (List.range c.buf.length)
  have h3:=Md.guess_le (Md.make m) c
  have h4:(bif Md.canRetire (Md.make m) c then[(⟨4,0⟩:Dir)] else[]).length<=1:=by cases Md.canRetire (Md.make m) c<;>simp
  have hb:=hI.buf
  have hw:=hp.win
  rw[<-hL]
  unfold Md.all
  simp only[List.length_append,List.length_map,List.length_range] at h1 h2 ⊢
  omega
 have hLl2:L.length<1073741824:=by omega
 have lim:limA=1099511627776:=rfl
 have n1:L.length*16<=limA:=by omega
 have n2:L.length<=limA:=by omega
 have n3:(L.length+2)*16<=limA:=by omega
 have n4:L.length+2<=limA:=by omega
 show evC E fn (dp+11+1) 4 [.d (rowD m),.d (rowD l),.d (rowD w),.d (.agg (Cl.cells raw)),.d (.agg (Cl.cells other))] []=_
 rw[evC_succ,S.f_w17_DirsTells,apF_some,F_w17_DirsTells,mkF_run _ _ _ _ _ _ _ _ rfl]
 have go:=fun(kx:Nat->K) (D:Option (AV×List Blk)) hx=>dt_loop S dp (Md.make m) hp hml hN c hI other.kind other.n (L++[raw,⟨IntKind.i64.wrap (Md.iand raw.kind 7-1),IntKind.i64.wrap (Md.iand raw.n 7-1)⟩]) (by simp;omega) kx D hx (L++[raw,⟨IntKind.i64.wrap (Md.iand raw.kind 7-1),IntKind.i64.wrap (Md.iand raw.n 7-1)⟩]).length 0 999999999999999999999999999999 (by omega) (by simp;omega)
 simp only[Int.cast_ofNat_Int] at go
 have l16x2:(2:Nat)*16<=limA:=by decide
 have l2n:(2:Nat)<=limA:=by decide
 by_cases h0:L.length=0
 ·simp only [eG, go_sem, thq S, nbr S, zN0, zN1, zN2, zN3, zN4, zI0, zI1, zI2, zI3, reduceCtorEq, o4_59 S, c_w6_Make S, cS, cW, c_dirs_All S, c_r9_All S, c_r9_SameDirs S, q1, g0, g2, hm, hL, hLl2, b_iand, rep0', rep1', rep2A, Bool.not_true, Bool.not_false, h0, app_zero (cs := []), ne_eq, not_false_eq_true, l16x2, l2n, Nat.zero_add, Nat.succ_ne_zero, d_madeM, d_turnA]
  have hL0:L=[]:=List.length_eq_zero_iff.1 h0
  rw[hL0] at go
  rw[big_eq,loop_in (on S _ _ [9,11,14,66,67,68] (by decide) rfl) rfl _ _ _ _ _ _ _ _ _ rfl]
  simp only[eG,go_sem,thq S,nbr S,zN0,zN1,zN2,zN3,zN4,zI0,zI1,zI2,zI3,reduceCtorEq,o4_59 S]
  refine go _ _ ?_
  intro T A
  simp only[eG,go_sem,thq S,nbr S,zN0,zN1,zN2,zN3,zN4,zI0,zI1,zI2,zI3,reduceCtorEq,o4_59 S,c_told ha]
 ·simp only [eG, go_sem, thq S, nbr S, zN0, zN1, zN2, zN3, zN4, zI0, zI1, zI2, zI3, reduceCtorEq, o4_59 S, c_w6_Make S, cS, cW, c_dirs_All S, c_r9_All S, c_r9_SameDirs S, q1, g0, g2, hm, hL, hLl2, b_iand, rep0', rep1', rep2A, Bool.not_true, Bool.not_false, h0, app_zero (cs := []), n1, n2, one_row, ne_eq, not_false_eq_true, app_2D, n3, n4]
  rw[big_eq,loop_in (on S _ _ [9,11,14,66,67,68] (by decide) rfl) rfl _ _ _ _ _ _ _ _ _ rfl]
  simp only[eG,go_sem,thq S,nbr S,zN0,zN1,zN2,zN3,zN4,zI0,zI1,zI2,zI3,reduceCtorEq,o4_59 S]
  rw[List.length_append] at go
  refine go _ _ ?_
  intro T A
  simp only[eG,go_sem,thq S,nbr S,zN0,zN1,zN2,zN3,zN4,zI0,zI1,zI2,zI3,reduceCtorEq,o4_59 S,c_told ha]
end
end Go.Aug.Mc
