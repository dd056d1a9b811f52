import Derived.Test.YtikiagojnilhiaaGreatMc51
import Derived.Test.YtikiagojnilhiaaGreatMc55
import Derived.Test.YtikiagojnilhiaaGreatMk
import Derived.Test.YtikiagojnilhiaaGreatMc2
import Derived.Test.YtikiagojnilhiaaGreatBo2
namespace Go.Aug.Mc
open Go Go.Aug
open Nat renaming reduceLT -> zN0, reduceEqDiff -> zN1, reduceAdd -> zN2, reduceMul -> zN3, reduceLeDiff -> zN4
open Int renaming reduceEq -> zI0, reduceLT -> zI1, reduceLE -> zI2, reduceNeg -> zI3
set_option linter.unusedSimpArgs false
set_option linter.unusedVariables false
set_option maxHeartbeats 40000000
set_option maxRecDepth 200000
theorem fetch_small {p:Prog}{c:Conf}{g:Int}(hl:c.buf.length<1073741823)(hm:c.state.mem.length<1073741824)(hs:c.state.stack.length<1073741824)(hr:c.rsb.length<1073741823):
  (Md.fetch p c g).state.mem.length<1073741824/\(Md.fetch p c g).state.stack.length<1073741824/\(Md.fetch p c g).buf.length<1073741824/\(Md.fetch p c g).rsb.length<1073741824:=by
 refine⟨hm,hs,?_,?_⟩
 ·show (c.buf ++ [(Md.entry p c g).1]).length < _
  rw[List.length_append,List.length_singleton];omega
 ·show (Md.entry p c g).2.length < _
  unfold Md.entry
  simp only
  split
  ·show c.rsb.length<_;omega
  split
  ·show c.rsb.length<_;omega
  split
  ·show c.rsb.length<_;omega
  split
  ·show (Md.push c.rsb _).length < _
   unfold Md.push
   rw[List.length_drop,List.length_append,List.length_singleton];omega
  split
  ·split
   ·show c.rsb.length<_;omega
   ·show c.rsb.dropLast.length < _
    rw[List.length_dropLast];omega
  split
  ·show c.rsb.length<_;omega
  ·show c.rsb.length<_;omega
variable {E:Env} {fn:FuncId->Option (Env->CallT->CallT)}
section
variable (S:Sur E fn)
include S
theorem o13_56:E.lives 13 7=none/\E.lives 13 13=none/\E.lives 13 17=none/\E.lives 13 21=none:=⟨off S 13 7 (by decide) rfl,off S 13 13 (by decide) rfl,off S 13 17 (by decide) rfl,off S 13 21 (by decide) rfl⟩
theorem raw_dirs_Do (dp:Nat)(p:Prog)(c:Conf)(d:Dir)(hi:p.ins.length<1073741824)(hp:p.mems.length<1073741824)(hl:c.buf.length<1073741823)(hm:c.state.mem.length<1073741824)(hs:c.state.stack.length<1073741823)(hr:c.rsb.length<1073741823)(hg:(getO (Md.real p c.state.stack c.buf d.n)).length<1073741824)(hd:0<=(Md.at_ p (Md.entAt c.buf 0).pc).d/\(Md.at_ p (Md.entAt c.buf 0).pc).d<=3):Says E fn (dp+11) 13 [progD p,confD c,.agg (Cl.cells d)] (.tup [confD (sayC (cellsI p.mems) p c d).1,rowD (sayC (cellsI p.mems) p c d).2,vb (Md.canSay (cellsI p.mems) p c d)]):=by
 unfold Says
 show ansOf (evC E fn (dp+10+1) 13 [.d (progD p),.d (confD c),.d (.agg (Cl.cells d))] [])=_
 rw[evC_succ,S.f_dirs_Do,apF_some,F_dirs_Do,mkF_run _ _ _ _ _ _ _ _ rfl]
 have hl':c.buf.length<1073741824:=by omega
 have hs':c.state.stack.length<1073741824:=by omega
 have hr':c.rsb.length<1073741824:=by omega
 cases hcan:Md.canSay (cellsI p.mems) p c d with
 | false=>simp only[eG,go_sem,thq S,nbr S,zN0,zN1,zN2,zN3,zN4,zI0,zI1,zI2,zI3,reduceCtorEq,o13_56 S,c_dirs_Can S,hi,hp,hl',hcan,Bool.not_false,sayC,Md.conf0]
 | true=>
  have hsay:sayC (cellsI p.mems) p c d=Md.say (cellsI p.mems) p c d:=by unfold sayC;rw[hcan];rfl
  rw[hsay]
  have cF:=fun(A:List Blk) (nb:Nat)=>Says.deep (raw_fetc_Fetch S (dp+4) p c d.n hi hl hm hs' hr) (np S 38 (by decide)) A nb
  have cD:=fun(A:List Blk) (nb:Nat)=>Says.deep (raw_exec_Do S dp p c d.n hp hm hs' hl' hr' hg) (np S 35 (by decide)) A nb
  have cA:=fun(A:List Blk) (nb:Nat)=>Says.deep (raw_exec_Addr S (dp+2) p c d.n hp hm hs' hl' hr') (np S 36 (by decide)) A nb
  have cR:=fun(A:List Blk) (nb:Nat)=>Says.deep (raw_reti_Do S (dp+5) p c hl hm hs hr' hd) (np S 37 (by decide)) A nb
  have hdd:=hcan
  obtain⟨dk,dn⟩:=d
  simp only at cF cD cA cR hcan hg
  by_cases k1:dk=1
  ·subst k1
   have hc:Md.canFetch p c dn=true:=by simpa [Md.canSay] using hcan
   have hF:fetchC p c dn=Md.fetch p c dn:=by unfold fetchC;rw[hc];rfl
   obtain⟨f1,f2,f3,f4⟩:=fetch_small (p:=p) (c:=c) (g:=dn) hl hm hs' hr
   rw[hF,hc] at cF
   have e1:Md.say (cellsI p.mems) p c ⟨1,dn⟩=(Md.fetch p c dn,[]):=rfl
   rw[e1]
   generalize Md.fetch p c dn=X at *
   simp only[progD,progC,confD,confC,stateC,regsC,List.cons_append,List.nil_append] at cF
   simp only[eG,go_sem,thq S,nbr S,zN0,zN1,zN2,zN3,zN4,zI0,zI1,zI2,zI3,reduceCtorEq,o13_56 S,c_dirs_Can S,hi,hp,hl',hcan,Bool.not_true,cF,c_conf_Still S,f1,f2,f3,f4]
  by_cases k2:dk=2
  ·subst k2
   have hc:Md.can (cellsI p.mems) p c dn=true:=by simpa [Md.canSay] using hcan
   have hF:doC (cellsI p.mems) p c dn=Md.doM (cellsI p.mems) p c dn:=by unfold doC;rw[hc];rfl
   rw[hF,hc] at cD
   have e1:Md.say (cellsI p.mems) p c ⟨2,dn⟩=Md.doM (cellsI p.mems) p c dn:=rfl
   rw[e1]
   generalize Md.doM (cellsI p.mems) p c dn=X at *
   simp only[progD,progC,confD,confC,stateC,regsC,List.cons_append,List.nil_append] at cD
   simp only[eG,go_sem,thq S,nbr S,zN0,zN1,zN2,zN3,zN4,zI0,zI1,zI2,zI3,reduceCtorEq,o13_56 S,c_dirs_Can S,hi,hp,hl',hcan,Bool.not_true,cD]
  by_cases k3:dk=3
  ·subst k3
   have hc:Md.canAddr p c dn=true:=by simpa [Md.canSay] using hcan
   have hF:addrC (cellsI p.mems) p c dn=Md.addrM (cellsI p.mems) p c dn:=by unfold addrC;rw[hc];rfl
   rw[hF,hc] at cA
   have e1:Md.say (cellsI p.mems) p c ⟨3,dn⟩=Md.addrM (cellsI p.mems) p c dn:=rfl
   rw[e1]
   generalize Md.addrM (cellsI p.mems) p c dn=X at *
   simp only[progD,progC,confD,confC,stateC,regsC,List.cons_append,List.nil_append] at cA
   simp only[eG,go_sem,thq S,nbr S,zN0,zN1,zN2,zN3,zN4,zI0,zI1,zI2,zI3,reduceCtorEq,o13_56 S,c_dirs_Can S,hi,hp,hl',hcan,Bool.not_true,cA]
  have h4:dk=4/\dn=0/\Md.canRetire p c=true:=by
   simp[Md.canSay,k1,k2,k3] at hcan
   exact⟨hcan.1.1,hcan.1.2,hcan.2⟩
  obtain⟨k4,n0,hc⟩:=h4
  subst k4
  have hF:retC p c=Md.retire p c:=by unfold retC;rw[hc];rfl
  rw[hF,hc] at cR
  have e1:Md.say (cellsI p.mems) p c ⟨4,dn⟩=(Md.retire p c,[]):=rfl
  rw[e1]
  generalize Md.retire p c=X at *
  simp only[progD,progC,confD,confC,stateC,regsC,List.cons_append,List.nil_append] at cR
  simp only[eG,go_sem,thq S,nbr S,zN0,zN1,zN2,zN3,zN4,zI0,zI1,zI2,zI3,reduceCtorEq,o13_56 S,c_dirs_Can S,hi,hp,hl',hcan,Bool.not_true,cR]
end
theorem d_endD0 (k:K)(tm:List AV)(A:List Blk):endD [] k tm A=k tm A:=id rfl
theorem same_Obs (a b:Obs):(decide (a.kind=b.kind)&&decide (a.at_=b.at_))=decide (a=b):=by
 cases a;cases b
 rw[Bool.eq_iff_iff]
 simp only[Bool.and_eq_true,decide_eq_true_eq,Obs.mk.injEq]
theorem same_Dir (a b:Dir):(decide (a.kind=b.kind)&&decide (a.n=b.n))=decide (a=b):=by
 cases a;cases b
 rw[Bool.eq_iff_iff]
 simp only[Bool.and_eq_true,decide_eq_true_eq,Dir.mk.injEq]
variable {E:Env} {fn:FuncId->Option (Env->CallT->CallT)}
section
variable (S:Sur E fn)
include S
theorem o44_26:E.lives 44 1=none/\E.lives 44 7=none/\E.lives 44 17=none:=⟨off S 44 1 (by decide) rfl,off S 44 7 (by decide) rfl,off S 44 17 (by decide) rfl⟩
theorem o18_26:E.lives 18 1=none/\E.lives 18 7=none/\E.lives 18 17=none:=⟨off S 18 1 (by decide) rfl,off S 18 7 (by decide) rfl,off S 18 17 (by decide) rfl⟩
theorem o16_26:E.lives 16 1=none/\E.lives 16 7=none/\E.lives 16 17=none:=⟨off S 16 1 (by decide) rfl,off S 16 7 (by decide) rfl,off S 16 17 (by decide) rfl⟩
theorem loop_r1_SameInts (dp:Nat)(a b:List Int)(hl:a.length<1073741824)(hab:a.length=b.length)(kx:Nat->K)(hx:∀ T,ansOf (kx 0 (mk .bot 26 T) [])=some (vb true)):∀ m k f,k+m=a.length->m<=f->
  ansOf (B10_r1_SameInts (inn E 44) (evC E fn dp) (loopK 10 B10_r1_SameInts (inn E 44) (evC E fn dp) kx (kEnd 0 [.tmp 4]) f) kx (kEnd 0 [.tmp 4]) (mk .bot 26 [(0,.d (rowD a)),(1,.d (rowD b)),(5,aint k)]) [])=
  some (vb (decide (a.drop k=b.drop k))):=by
 intro m
 induction m with
 | zero=>
  intro k f hk _
  obtain rfl:k=a.length:=by omega
  generalize loopK 10 B10_r1_SameInts _ _ kx _ f=KK
  rw[B10_r1_SameInts,show a.drop a.length=[] from List.drop_length,show b.drop a.length=[] by rw[hab];exact List.drop_length]
  simp only[eG,go_sem,thq S,nbr S,zN0,zN1,zN2,zN3,zN4,zI0,zI1,zI2,zI3,reduceCtorEq,o44_26 S,Int.lt_irrefl]
  exact hx _
 | succ m ih=>
  intro k f hk hf
  obtain⟨e,he⟩:=get_of (show k<a.length by omega)
  obtain⟨e',he'⟩:=get_of (show k<b.length by omega)
  obtain⟨f,rfl⟩:∃ g,f=g+1:=⟨f-1,by omega⟩
  generalize hK:loopK 10 B10_r1_SameInts _ _ kx _ (f+1)=KK
  rw[B10_r1_SameInts,drop_get he,drop_get he']
  by_cases h:e=e'
  ·subst h
   simp only[eG,go_sem,thq S,nbr S,zN0,zN1,zN2,zN3,zN4,zI0,zI1,zI2,zI3,reduceCtorEq,o44_26 S,show(k:Int)<a.length by omega,w_ix he,w_ix he',wi k (by omega),d_endD0]
   rw[<-hK,loop_in (on S _ _ [0,1,5] (by decide) rfl) rfl _ _ _ _ _ _ _ _ _ rfl]
   simp only[eG,go_sem,thq S,nbr S,zN0,zN1,zN2,zN3,zN4,zI0,zI1,zI2,zI3,reduceCtorEq,o44_26 S]
   have:=ih (k+1) f (by omega) (by omega)
   simp only[List.cons.injEq,true_and]
   exact this
  ·simp only [eG, go_sem, thq S, nbr S, zN0, zN1, zN2, zN3, zN4, zI0, zI1, zI2, zI3, reduceCtorEq, o44_26 S, show (k : Int) < a.length by omega, w_ix he, w_ix he', wi k (by omega), d_endD0, eq_false h]
   simp[h]
theorem raw_r1_SameInts (dp:Nat)(a b:List Int)(hl:a.length<1073741824):Says E fn (dp+1) 44 [rowD a,rowD b] (vb (decide (a=b))):=by
 unfold Says
 show ansOf (evC E fn (dp+1) 44 [.d (rowD a),.d (rowD b)] [])=_
 rw[evC_succ,S.f_r1_SameInts,apF_some,F_r1_SameInts,mkF_run _ _ _ _ _ _ _ _ rfl]
 by_cases hab:a.length=b.length
 ·simp only [eG, go_sem, thq S, nbr S, zN0, zN1, zN2, zN3, zN4, zI0, zI1, zI2, zI3, reduceCtorEq, o44_26 S, hab, not_true_eq_false]
  rw[big_eq,loop_in (on S _ _ [0,1,5] (by decide) rfl) rfl _ _ _ _ _ _ _ _ _ rfl]
  simp only[eG,go_sem,thq S,nbr S,zN0,zN1,zN2,zN3,zN4,zI0,zI1,zI2,zI3,reduceCtorEq,o44_26 S]
  refine loop_r1_SameInts S dp a b hl hab _ ?_ a.length 0 _ (by omega) (by omega)
  intro T
  simp only[eG,go_sem,thq S,nbr S,zN0,zN1,zN2,zN3,zN4,zI0,zI1,zI2,zI3,reduceCtorEq,o44_26 S]
 ·have hne : ¬ a = b := fun e => hab (by rw [e])
  simp only[eG,go_sem,thq S,nbr S,zN0,zN1,zN2,zN3,zN4,zI0,zI1,zI2,zI3,reduceCtorEq,o44_26 S,show ¬((a.length:Int)=b.length) by omega,not_false_eq_true,eq_false hne]
theorem c_r1_SameInts (dp:Nat)(a b:List Int)(hl:a.length<1073741824)(A:List Blk)(nb:Nat)(us:List Nat):evOwnK false E (evC E fn (dp+1)) 44 A nb (some ([rowD a,rowD b],us))=some (.made (.d (vb (decide (a=b)))) []):=
 Says.flat (raw_r1_SameInts S dp a b hl) (np S 44 (by decide)) (rfl) A nb us
theorem loop_r7_SameObs (dp:Nat)(a b:List Obs)(hl:a.length<1073741824)(hab:a.length=b.length)(kx:Nat->K)(hx:∀ T,ansOf (kx 0 (mk .bot 26 T) [])=some (vb true)):∀ m k f,k+m=a.length->m<=f->
  ansOf (B10_r7_SameObs (inn E 18) (evC E fn dp) (loopK 10 B10_r7_SameObs (inn E 18) (evC E fn dp) kx (kEnd 0 [.tmp 4]) f) kx (kEnd 0 [.tmp 4]) (mk .bot 26 [(0,.d (rowD a)),(1,.d (rowD b)),(5,aint k)]) [])=
  some (vb (decide (a.drop k=b.drop k))):=by
 intro m
 induction m with
 | zero=>
  intro k f hk _
  obtain rfl:k=a.length:=by omega
  generalize loopK 10 B10_r7_SameObs _ _ kx _ f=KK
  rw[B10_r7_SameObs,show a.drop a.length=[] from List.drop_length,show b.drop a.length=[] by rw[hab];exact List.drop_length]
  simp only[eG,go_sem,thq S,nbr S,zN0,zN1,zN2,zN3,zN4,zI0,zI1,zI2,zI3,reduceCtorEq,o18_26 S,Int.lt_irrefl]
  exact hx _
 | succ m ih=>
  intro k f hk hf
  obtain⟨e,he⟩:=get_of (show k<a.length by omega)
  obtain⟨e',he'⟩:=get_of (show k<b.length by omega)
  obtain⟨f,rfl⟩:∃ g,f=g+1:=⟨f-1,by omega⟩
  generalize hK:loopK 10 B10_r7_SameObs _ _ kx _ (f+1)=KK
  rw[B10_r7_SameObs,drop_get he,drop_get he']
  by_cases h:e=e'
  ·subst h
   simp only[eG,go_sem,thq S,nbr S,zN0,zN1,zN2,zN3,zN4,zI0,zI1,zI2,zI3,reduceCtorEq,o18_26 S,show(k:Int)<a.length by omega,w_ix he,w_ix he',wi k (by omega),d_endD0,same_Obs]
   rw[<-hK,loop_in (on S _ _ [0,1,5] (by decide) rfl) rfl _ _ _ _ _ _ _ _ _ rfl]
   simp only[eG,go_sem,thq S,nbr S,zN0,zN1,zN2,zN3,zN4,zI0,zI1,zI2,zI3,reduceCtorEq,o18_26 S]
   have:=ih (k+1) f (by omega) (by omega)
   simp only[List.cons.injEq,true_and]
   exact this
  ·simp only [eG, go_sem, thq S, nbr S, zN0, zN1, zN2, zN3, zN4, zI0, zI1, zI2, zI3, reduceCtorEq, o18_26 S, show (k : Int) < a.length by omega, w_ix he, w_ix he', wi k (by omega), d_endD0, same_Obs, eq_false h]
   simp[h]
theorem raw_r7_SameObs (dp:Nat)(a b:List Obs)(hl:a.length<1073741824):Says E fn (dp+1) 18 [rowD a,rowD b] (vb (decide (a=b))):=by
 unfold Says
 show ansOf (evC E fn (dp+1) 18 [.d (rowD a),.d (rowD b)] [])=_
 rw[evC_succ,S.f_r7_SameObs,apF_some,F_r7_SameObs,mkF_run _ _ _ _ _ _ _ _ rfl]
 by_cases hab:a.length=b.length
 ·simp only [eG, go_sem, thq S, nbr S, zN0, zN1, zN2, zN3, zN4, zI0, zI1, zI2, zI3, reduceCtorEq, o18_26 S, hab, not_true_eq_false]
  rw[big_eq,loop_in (on S _ _ [0,1,5] (by decide) rfl) rfl _ _ _ _ _ _ _ _ _ rfl]
  simp only[eG,go_sem,thq S,nbr S,zN0,zN1,zN2,zN3,zN4,zI0,zI1,zI2,zI3,reduceCtorEq,o18_26 S]
  refine loop_r7_SameObs S dp a b hl hab _ ?_ a.length 0 _ (by omega) (by omega)
  intro T
  simp only[eG,go_sem,thq S,nbr S,zN0,zN1,zN2,zN3,zN4,zI0,zI1,zI2,zI3,reduceCtorEq,o18_26 S]
 ·have hne : ¬ a = b := fun e => hab (by rw [e])
  simp only[eG,go_sem,thq S,nbr S,zN0,zN1,zN2,zN3,zN4,zI0,zI1,zI2,zI3,reduceCtorEq,o18_26 S,show ¬((a.length:Int)=b.length) by omega,not_false_eq_true,eq_false hne]
theorem c_r7_SameObs (dp:Nat)(a b:List Obs)(hl:a.length<1073741824)(A:List Blk)(nb:Nat)(us:List Nat):evOwnK false E (evC E fn (dp+1)) 18 A nb (some ([rowD a,rowD b],us))=some (.made (.d (vb (decide (a=b)))) []):=
 Says.flat (raw_r7_SameObs S dp a b hl) (np S 18 (by decide)) (rfl) A nb us
theorem loop_r9_SameDirs (dp:Nat)(a b:List Dir)(hl:a.length<1073741824)(hab:a.length=b.length)(kx:Nat->K)(hx:∀ T,ansOf (kx 0 (mk .bot 26 T) [])=some (vb true)):∀ m k f,k+m=a.length->m<=f->
  ansOf (B10_r9_SameDirs (inn E 16) (evC E fn dp) (loopK 10 B10_r9_SameDirs (inn E 16) (evC E fn dp) kx (kEnd 0 [.tmp 4]) f) kx (kEnd 0 [.tmp 4]) (mk .bot 26 [(0,.d (rowD a)),(1,.d (rowD b)),(5,aint k)]) [])=
  some (vb (decide (a.drop k=b.drop k))):=by
 intro m
 induction m with
 | zero=>
  intro k f hk _
  obtain rfl:k=a.length:=by omega
  generalize loopK 10 B10_r9_SameDirs _ _ kx _ f=KK
  rw[B10_r9_SameDirs,show a.drop a.length=[] from List.drop_length,show b.drop a.length=[] by rw[hab];exact List.drop_length]
  simp only[eG,go_sem,thq S,nbr S,zN0,zN1,zN2,zN3,zN4,zI0,zI1,zI2,zI3,reduceCtorEq,o16_26 S,Int.lt_irrefl]
  exact hx _
 | succ m ih=>
  intro k f hk hf
  obtain⟨e,he⟩:=get_of (show k<a.length by omega)
  obtain⟨e',he'⟩:=get_of (show k<b.length by omega)
  obtain⟨f,rfl⟩:∃ g,f=g+1:=⟨f-1,by omega⟩
  generalize hK:loopK 10 B10_r9_SameDirs _ _ kx _ (f+1)=KK
  rw[B10_r9_SameDirs,drop_get he,drop_get he']
  by_cases h:e=e'
  ·subst h
   simp only[eG,go_sem,thq S,nbr S,zN0,zN1,zN2,zN3,zN4,zI0,zI1,zI2,zI3,reduceCtorEq,o16_26 S,show(k:Int)<a.length by omega,w_ix he,w_ix he',wi k (by omega),d_endD0,same_Dir]
   rw[<-hK,loop_in (on S _ _ [0,1,5] (by decide) rfl) rfl _ _ _ _ _ _ _ _ _ rfl]
   simp only[eG,go_sem,thq S,nbr S,zN0,zN1,zN2,zN3,zN4,zI0,zI1,zI2,zI3,reduceCtorEq,o16_26 S]
   have:=ih (k+1) f (by omega) (by omega)
   simp only[List.cons.injEq,true_and]
   exact this
  ·simp only [eG, go_sem, thq S, nbr S, zN0, zN1, zN2, zN3, zN4, zI0, zI1, zI2, zI3, reduceCtorEq, o16_26 S, show (k : Int) < a.length by omega, w_ix he, w_ix he', wi k (by omega), d_endD0, same_Dir, eq_false h]
   simp[h]
theorem raw_r9_SameDirs (dp:Nat)(a b:List Dir)(hl:a.length<1073741824):Says E fn (dp+1) 16 [rowD a,rowD b] (vb (decide (a=b))):=by
 unfold Says
 show ansOf (evC E fn (dp+1) 16 [.d (rowD a),.d (rowD b)] [])=_
 rw[evC_succ,S.f_r9_SameDirs,apF_some,F_r9_SameDirs,mkF_run _ _ _ _ _ _ _ _ rfl]
 by_cases hab:a.length=b.length
 ·simp only [eG, go_sem, thq S, nbr S, zN0, zN1, zN2, zN3, zN4, zI0, zI1, zI2, zI3, reduceCtorEq, o16_26 S, hab, not_true_eq_false]
  rw[big_eq,loop_in (on S _ _ [0,1,5] (by decide) rfl) rfl _ _ _ _ _ _ _ _ _ rfl]
  simp only[eG,go_sem,thq S,nbr S,zN0,zN1,zN2,zN3,zN4,zI0,zI1,zI2,zI3,reduceCtorEq,o16_26 S]
  refine loop_r9_SameDirs S dp a b hl hab _ ?_ a.length 0 _ (by omega) (by omega)
  intro T
  simp only[eG,go_sem,thq S,nbr S,zN0,zN1,zN2,zN3,zN4,zI0,zI1,zI2,zI3,reduceCtorEq,o16_26 S]
 ·have hne : ¬ a = b := fun e => hab (by rw [e])
  simp only[eG,go_sem,thq S,nbr S,zN0,zN1,zN2,zN3,zN4,zI0,zI1,zI2,zI3,reduceCtorEq,o16_26 S,show ¬((a.length:Int)=b.length) by omega,not_false_eq_true,eq_false hne]
theorem c_r9_SameDirs (dp:Nat)(a b:List Dir)(hl:a.length<1073741824)(A:List Blk)(nb:Nat)(us:List Nat):evOwnK false E (evC E fn (dp+1)) 16 A nb (some ([rowD a,rowD b],us))=some (.made (.d (vb (decide (a=b)))) []):=
 Says.flat (raw_r9_SameDirs S dp a b hl) (np S 16 (by decide)) (rfl) A nb us
end
end Go.Aug.Mc
namespace Go.Aug.Md
open Go Go.Aug
set_option linter.unusedSimpArgs false
set_option linter.unusedVariables false
def Kept (c:Conf)(k:Nat)(R:Conf×List Obs):Prop:=
 ∃(px:Int) (bx:List Ent) (o:List Obs),R=(⟨⟨c.state.regs,c.state.mem,c.state.stack,px⟩,bx,c.rsb,0⟩,o)/\k<bx.length/\bx.length<=c.buf.length/\o.length<=1/\bx.take k=c.buf.take k/\
  (bx.length=c.buf.length->k+1<c.buf.length->px=c.state.pc)/\(bx.length<c.buf.length->k+1<bx.length->∃ e,c.buf[bx.length]? =some e/\px=e.pc)
section
variable {N:Int} {p:Prog} {c:Conf} {k:Nat}
theorem take_set_lt {l:List Ent}{k:Nat}{e:Ent}:(l.set k e).take k=l.take k:=List.take_set_of_le (Nat.le_refl _)
theorem kept_put (hend:c.end_=0)(hk:k<c.buf.length)(e:Ent)(o:List Obs)(ho:o.length<=1):Kept c k (put c (k:Int) e,o):=by
 refine⟨c.state.pc,c.buf.set k e,o,?_,by simpa using hk,by simp,ho,take_set_lt,fun _ _=>rfl,fun h=>by simp at h⟩
 unfold put
 rw[Int.toNat_natCast,<-hend]
theorem kept_goes (hend:c.end_=0)(hk:k<c.buf.length)(e:Ent)(to:Int):Kept c k (goesM c (k:Int) e to):=by
 unfold goesM
 split
 ·exact kept_put hend hk _ _ (by simp)
 ·refine ⟨to, (c.buf.set k { e with done := true, next := to }).take (k + 1), [⟨3, to⟩], ?_, by rw [List.length_take, List.length_set]; omega, by rw [List.length_take, List.length_set]; omega, Nat.le_refl 1, ?_, fun h1 h2 => ?_, fun h1 h2 => ?_⟩
  ·rw[Int.toNat_natCast,<-hend]
  ·rw[List.take_take,Nat.min_eq_left (by omega)];exact take_set_lt
  ·rw[List.length_take,List.length_set] at h1;omega
  ·rw[List.length_take,List.length_set] at h2;omega
theorem kept_do (hk:k<c.buf.length)(hc:can N p c (k:Int)=true):Kept c k (doM N p c (k:Int)):=by
 have hend:c.end_=0:=by
  simp only[can,Bool.and_eq_true] at hc
  exact(open_at hc.1.1).1
 unfold doM
 generalize entAt c.buf (k:Int)=e
 generalize insM p c (k:Int)=x
 unfold doK
 split
 ·exact kept_put hend hk _ _ (by simp)
 split
 ·exact kept_put hend hk _ _ (by simp)
 split
 ·exact kept_put hend hk _ _ (by simp)
 split
 ·split
  ·exact kept_put hend hk _ _ (by simp)
  ·exact kept_put hend hk _ _ (by simp)
 split
 ·exact kept_goes hend hk _ _
 split
 ·exact kept_goes hend hk _ _
 split
 ·split
  ·exact kept_put hend hk _ _ (by simp)
  ·split
   ·exact kept_put hend hk _ _ (by simp)
   ·exact kept_goes hend hk _ _
 ·exact kept_put hend hk _ _ (by simp)
theorem kept_addr (hk:k<c.buf.length)(hc:canAddr p c (k:Int)=true):Kept c k (addrM N p c (k:Int)):=by
 have hend:c.end_=0:=by
  simp only[canAddr,Bool.and_eq_true] at hc
  exact(open_at hc.1.1.1.1).1
 unfold addrM
 generalize entAt c.buf (k:Int)=e
 generalize addrOf p c (k:Int)=ad
 unfold addrK
 split
 ·exact kept_put hend hk _ _ (by simp)
 ·rw [Int.toNat_natCast]
  generalize hL:c.buf.set k { e with addr:=ad,known:=true,fault:=false }=L
  have hLl:L.length=c.buf.length:=by rw[<-hL];exact List.length_set
  have hLt:L.take k=c.buf.take k:=by rw[<-hL];exact take_set_lt
  unfold drop1
  cases hz:(hazard p L (k:Int) ad).2 with
  | false=>
   refine⟨c.state.pc,L,[⟨2,ad⟩],?_,by omega,by omega,Nat.le_refl 1,hLt,fun _ _=>rfl,fun h=>by omega⟩
   simp only[cond_false]
   rw[<-hend]
  | true=>
   obtain⟨z1,z2⟩:=hazard_ge hz (by omega) (by omega)
   simp only[cond_true]
   generalize (hazard p L (k:Int) ad).1=z at *
   obtain⟨e2,he2⟩:∃ e,L[z.toNat]? =some e:=⟨_,List.getElem?_eq_getElem (by omega)⟩
   have he3:entAt L z=e2:=by unfold entAt;rw[he2];rfl
   have he4:c.buf[z.toNat]? =some e2:=by
    rw[<-hL,List.getElem?_set_ne (by omega)] at he2;exact he2
   have hlen:(L.take z.toNat).length=z.toNat:=by rw[List.length_take];omega
   refine⟨e2.pc,L.take z.toNat,[⟨2,ad⟩],?_,by omega,by omega,Nat.le_refl 1,?_,fun h1 h2=>by omega,fun h1 h2=>⟨e2,by rw[hlen];exact he4,rfl⟩⟩
   ·rw[he3,<-hend]
   ·rw[List.take_take,Nat.min_eq_left (by omega)];exact hLt
end
end Go.Aug.Md
namespace Go.Aug.Md
open Go Go.Aug
set_option linter.unusedSimpArgs false
set_option linter.unusedVariables false
section
variable {N:Int} {p:Prog} {c:Conf}
theorem say_obs (d:Dir)(hc:canSay N p c d=true):(say N p c d).2.length<=1:=by
 unfold canSay at hc
 unfold say
 split at hc
 ·rename_i h1;rw[if_pos h1];exact Nat.zero_le _
 rename_i h1;rw[if_neg h1]
 split at hc
 ·rename_i h2; rw [if_pos h2]
  have ho:openM p c d.n=true:=by
   simp only[can,Bool.and_eq_true] at hc;exact hc.1.1
  obtain⟨_,k,hk,hg⟩:=open_at ho
  have hlt:=(List.getElem?_eq_some_iff.1 hg).1
  rw[hk] at hc ⊢
  obtain⟨px,bx,ob,hR,_,_,f5,_⟩:=kept_do hlt hc
  rw[hR]
  exact f5
 rename_i h2;rw[if_neg h2]
 split at hc
 ·rename_i h3; rw [if_pos h3]
  have ho:openM p c d.n=true:=by
   simp only[canAddr,Bool.and_eq_true] at hc;exact hc.1.1.1.1
  obtain⟨_,k,hk,hg⟩:=open_at ho
  have hlt:=(List.getElem?_eq_some_iff.1 hg).1
  rw[hk] at hc ⊢
  obtain⟨px,bx,ob,hR,_,_,f5,_⟩:=kept_addr (N:=N) hlt hc
  rw[hR]
  exact f5
 ·rename_i h3;rw[if_neg h3];exact Nat.zero_le _
end
end Go.Aug.Md
namespace Go.Aug.Mc
open Go Go.Aug
set_option linter.unusedSimpArgs false
set_option linter.unusedVariables false
set_option maxHeartbeats 40000000
set_option maxRecDepth 200000
theorem say_small {p:Prog}(hp:Md.Fine p){N:Int}(hN:N<=1000){c:Conf}(hI:Md.Inv N p c)(d:Dir):
  (sayC N p c d).1.buf.length<1000000/\(sayC N p c d).1.state.mem.length<1000000/\(sayC N p c d).1.state.stack.length<1000000/\(sayC N p c d).1.rsb.length<1000000/\(sayC N p c d).2.length<=1:=by
 unfold sayC
 cases hc:Md.canSay N p c d with
 | false=>exact⟨(by show(0:Nat)<1000000;decide),(by show(0:Nat)<1000000;decide),(by show(0:Nat)<1000000;decide),(by show(0:Nat)<1000000;decide),(by show(0:Nat)<=1;decide)⟩
 | true=>
  obtain⟨_,q2,q3,q4,q5,_⟩:=inv_hyps hp (hI.said hp d hc) hN ⟨0,0⟩
  exact⟨q2,q3,q4,q5,Md.say_obs d hc⟩
theorem do_any {E:Env}{fn:FuncId->Option (Env->CallT->CallT)}(S:Sur E fn)(dp:Nat){p:Prog}(hp:Md.Fine p)(hml:p.mems.length<1000)(hN:cellsI p.mems<=1000){c:Conf}(hI:Md.Inv (cellsI p.mems) p c)(d:Dir)(A:List Blk)(nb:Nat):
  evOwnK false E (evC E fn (dp+11)) 13 A nb (some ([progD p,confD c,.agg [vi d.kind,vi d.n]],[]))=some (.made (.d (.tup [confD (sayC (cellsI p.mems) p c d).1,rowD (sayC (cellsI p.mems) p c d).2,vb (Md.canSay (cellsI p.mems) p c d)])) []):=by
 obtain⟨q1,q2,q3,q4,q5,y1,y2,y3,y4,y5,y6⟩:=inv_hyps hp hI hN d
 exact Says.deep (raw_dirs_Do S dp p c d q1 (by omega) (by omega) (by omega) (by omega) (by omega) y1 y4) (np S 13 (by decide)) A nb
variable {E:Env} {fn:FuncId->Option (Env->CallT->CallT)}
section
variable (S:Sur E fn)
include S
end
end Go.Aug.Mc
