import Derived.Test.YthnhboimcidhgaaGreatDoorMl4
import Derived.Test.YthnhboimcidhgaaGreatDoorMk
import Derived.Test.YthnhboimcidhgaaGreatDoorEvP
import Derived.Test.YthnhboimcidhgaaGreatDoorEvPc
import Derived.Test.YthnhboimcidhgaaGreatDoorMc10
namespace Go.Aug.Md
open Go Go.Aug
set_option linter.unusedSimpArgs false
set_option linter.unusedVariables false
section
variable {N:Int} {p:Prog} {c:Conf}
theorem say_obs (d:Dir)(hc:canSay N p c d=true):(say N p c d).2.length<=1:=by
 unfold canSay at hc
 unfold say
 split at hc
 ·rename_i h1;rw[if_pos h1];exact Nat.zero_le _
 rename_i h1;rw[if_neg h1]
 split at hc
 ·rename_i h2; rw [if_pos h2]
  have ho:openM p c d.n=true:=by
   simp only[can,Bool.and_eq_true] at hc;exact hc.1.1
  obtain⟨_,k,hk,hg⟩:=open_at ho
  have hlt:=(List.getElem?_eq_some_iff.1 hg).1
  rw[hk] at hc ⊢
  obtain⟨px,bx,ob,hR,_,_,f5,_⟩:=kept_do hlt hc
  rw[hR]
  exact f5
 rename_i h2;rw[if_neg h2]
 split at hc
 ·rename_i h3; rw [if_pos h3]
  have ho:openM p c d.n=true:=by
   simp only[canAddr,Bool.and_eq_true] at hc;exact hc.1.1.1.1
  obtain⟨_,k,hk,hg⟩:=open_at ho
  have hlt:=(List.getElem?_eq_some_iff.1 hg).1
  rw[hk] at hc ⊢
  obtain⟨px,bx,ob,hR,_,_,f5,_⟩:=kept_addr (N:=N) hlt hc
  rw[hR]
  exact f5
 ·rename_i h3;rw[if_neg h3];exact Nat.zero_le _
end
end Go.Aug.Md
namespace Go.Aug.Mc
open Go Go.Aug
set_option linter.unusedSimpArgs false
set_option linter.unusedVariables false
set_option maxHeartbeats 40000000
set_option maxRecDepth 200000
def sameB (N:Int)(p:Prog)(a b:Conf)(d:Dir):Bool:=(Md.canSay N p a d==Md.canSay N p b d)&&decide ((sayC N p a d).2=(sayC N p b d).2)
theorem do_any {E:Env}{fn:FuncId->Option (Env->cT->cT)}(S:Sur E fn)(dp:Nat){p:Prog}(hp:Md.Fine p)(hml:p.mems.length<1000)(hN:cellsI p.mems<=1000){c:Conf}(hI:Md.Inv (cellsI p.mems) p c)(d:Dir)(A:List Blk)(nb:Nat):
  evOwnK false E (evC E fn (dp+11)) 46 A nb (some ([progD p,confD c,.agg [vi d.kind,vi d.n]],[]))=some (.made (.d (.tup [confD (sayC (cellsI p.mems) p c d).1,rD (sayC (cellsI p.mems) p c d).2,vb (Md.canSay (cellsI p.mems) p c d)])) []):=by
 obtain⟨q1,q2,q3,q4,q5,y1,y2,y3,y4,y5,y6⟩:=inv_hyps hp hI hN d
 exact Says.deep (raw_dirs_Do S dp p c d q1 (by omega) (by omega) (by omega) (by omega) (by omega) y1 y4) (np S 46 (by decide)) A nb
variable {E:Env} {fn:FuncId->Option (Env->cT->cT)}
section
variable (S:Sur E fn)
include S
end
end Go.Aug.Mc
namespace Go.Aug
open Go
section
variable (E:Env) (call:cT) (kn:K) (kx:Nat->K) (kr k:K) (tm:List AV) (A A1:List Blk)
theorem x_drawn (l:List (Fl×Stp))(ps:List (Opd×Opd))(ls:List (Nat×Opd)):cDrawnX l ps ls E call kn kx kr tm A=dstepsX E call ls 0 l (endD ps kn) tm A:=id rfl
theorem x_nil (ls:List (Nat×Opd))(n:Nat):dstepsX E call ls n [] k tm A=k tm A:=id rfl
theorem x_cons (ls:List (Nat×Opd))(n:Nat)(fg:Fl)(d:Option Nat)(op:OpF)(l:List (Fl×Stp)):dstepsX E call ls n ((fg,⟨d,none,op⟩)::l) k tm A=goOnF fg d (fun tm1 A1=>dstepsX E call ls (n+1) l (keepK ls n A A1 k) tm1 A1) tm A (op E call tm A A.length):=id rfl
theorem x_keep (ls:List (Nat×Opd))(n:Nat)(B:List Blk):keepK ls n A A1 k tm B=bif (ls.all fun p=> !Nat.beq p.1 n || kept A A1 (look tm p.2)) then k tm B else none:=id rfl
theorem x_kept (i v o:Nat):kept A A1 (.ref i v o)=sameB A[i]? A1[i]? :=id rfl
end
theorem sameL_nil {α:Type}(f:α->α->Bool):sameA.sameL f [] []=true:=id rfl
theorem sameL_cons {α:Type}(f:α->α->Bool)(x y:α)(l m:List α):sameA.sameL f (x::l) (y::m)=(f x y&&sameA.sameL f l m):=id rfl
theorem sameL_refl {α:Type}{f:α->α->Bool}:∀ l:List α,(∀ x,x ∈ l->f x x=true)->sameA.sameL f l l=true
 | [],_=>rfl
 | x::l,h=>by
  rw[sameL_cons,h x List.mem_cons_self,sameL_refl l fun y hy=>h y (List.mem_cons_of_mem _ hy)];rfl
theorem x_blk (cs:List AV)(v:Nat)(r:Bool):sameB (some (.cells cs v r)) (some (.cells cs v r))=sameA.sameL (sameA 8) cs cs:=by
 show(sameA.sameL (sameA 8) cs cs&&Nat.beq v v&&(r==r))=_
 rw[Nat.beq_refl];simp
theorem x_int (n:Nat)(a:Int):sameA (n+1) (.d (vi a)) (.d (vi a))=true:=by simp[sameA]
theorem x_bool (n:Nat)(a:Bool):sameA (n+1) (.d (vb a)) (.d (vb a))=true:=by simp[sameA]
theorem x_text (n:Nat)(a:ByteArray):sameA (n+1) (.d (vt a)) (.d (vt a))=true:=by simp[sameA]
class ClS (α:Type) [Cl α]:Prop where
 same:∀(n:Nat) (a:α),∀ c ∈ Cl.cells a,sameA (n+1) (.d c) (.d c)=true
instance:ClS Int:=⟨fun n a c h=>(show c=vi a by simpa [Cl.cells] using h) ▸ x_int n a⟩
instance:ClS Ent:=⟨fun n a c h=>by simp only[Cl.cells,List.mem_cons,List.not_mem_nil,or_false] at h;rcases h with rfl | rfl | rfl | rfl | rfl | rfl | rfl | rfl<;>first | exact x_int n _ | exact x_bool n _⟩
instance:ClS Obs:=⟨fun n a c h=>by simp only[Cl.cells,List.mem_cons,List.not_mem_nil,or_false] at h;rcases h with rfl | rfl<;>exact x_int n _⟩
instance:ClS Dir:=⟨fun n a c h=>by simp only[Cl.cells,List.mem_cons,List.not_mem_nil,or_false] at h;rcases h with rfl | rfl<;>exact x_int n _⟩
instance:ClS Ins:=⟨fun n a c h=>by simp only[Cl.cells,List.mem_cons,List.not_mem_nil,or_false] at h;rcases h with rfl | rfl | rfl | rfl | rfl | rfl | rfl | rfl | rfl<;>first | exact x_int n _ | exact x_bool n _ | exact x_text n _⟩
instance:ClS MemT:=⟨fun n a c h=>by simp only[Cl.cells,List.mem_cons,List.not_mem_nil,or_false] at h;rcases h with rfl | rfl | rfl<;>first | exact x_int n _ | exact x_bool n _ | exact x_text n _⟩
instance:ClS Label:=⟨fun n a c h=>by simp only[Cl.cells,List.mem_cons,List.not_mem_nil,or_false] at h;rcases h with rfl | rfl<;>first | exact x_int n _ | exact x_text n _⟩
theorem x_row {α:Type} [Cl α] [ClS α] (n:Nat)(l:List α):sameA (n+2) (.d (rD l)) (.d (rD l))=true:=by
 show(sameA.sameL (fun x y=>sameA (n+1) (.d x) (.d y)) (rC l) (rC l)&&Nat.beq l.length l.length)=true
 rw[Nat.beq_refl,Bool.and_true]
 refine sameL_refl _ fun x hx=> ?_
 obtain⟨a,_,ha⟩:=List.mem_flatMap.1 hx
 exact ClS.same n a x ha
theorem x_row8 {α:Type} [Cl α] [ClS α] (l:List α):sameA 8 (.d (rD l)) (.d (rD l))=true:=x_row 6 l
theorem x_int8 (a:Int):sameA 8 (.d (vi a)) (.d (vi a))=true:=x_int 7 a
theorem x_bool8 (a:Bool):sameA 8 (.d (vb a)) (.d (vb a))=true:=x_bool 7 a
end Go.Aug
namespace Go.Aug.Mc
open Go Go.Aug
open Nat renaming reduceLT -> zN0, reduceEqDiff -> zN1, reduceAdd -> zN2, reduceMul -> zN3, reduceLeDiff -> zN4
open Int renaming reduceEq -> zI0, reduceLT -> zI1, reduceLE -> zI2, reduceNeg -> zI3
set_option linter.unusedSimpArgs false
set_option linter.unusedVariables false
set_option maxHeartbeats 40000000
set_option maxRecDepth 200000
def runM (N:Int)(p:Prog):List Dir->Conf->Nat->Conf×List Obs×Nat
 | [],c,k=>(c,[],k)
 | d::l,c,k=>bif Md.canSay N p c d then((runM N p l (Md.say N p c d).1 (k+1)).1,(Md.say N p c d).2++(runM N p l (Md.say N p c d).1 (k+1)).2.1,(runM N p l (Md.say N p c d).1 (k+1)).2.2) else(c,[],k)
theorem runM_nil (N:Int)(p:Prog)(c:Conf)(k:Nat):runM N p [] c k=(c,[],k):=rfl
theorem runM_cons (N:Int)(p:Prog)(d:Dir)(l:List Dir)(c:Conf)(k:Nat):runM N p (d::l) c k=bif Md.canSay N p c d then((runM N p l (Md.say N p c d).1 (k+1)).1,(Md.say N p c d).2++(runM N p l (Md.say N p c d).1 (k+1)).2.1,(runM N p l (Md.say N p c d).1 (k+1)).2.2) else(c,[],k):=rfl
theorem app_endO {A:List Blk}{bytes j v:Nat}{out:List Obs}{x:Obs}(hA:A[j]? =some (.cells ((rC out).map .d) v false))(h1:(out.length+1)*bytes<=limA)(h2:out.length+1<=limA):
  evApp A 2 bytes (.sref j v 0 out.length 2 none) ((rC [x]).map .d) 1=some (.turn j (.cells ((rC (out++[x])).map .d) (v+1) false) (.sref j (v+1) 0 (out.length+1) 2 none)):=
 app_end (x:=x) hA rfl (by decide) (by rw[rowC_one']) h1 h2
variable {E:Env} {fn:FuncId->Option (Env->cT->cT)}
section
variable (S:Sur E fn)
include S
theorem o16_70:E.lives 16 1=none/\E.lives 16 19=none:=⟨off S 16 1 (by decide) rfl,off S 16 19 (by decide) rfl⟩
theorem loop_Run (dp:Nat)(p:Prog)(hp:Md.Fine p)(hml:p.mems.length<1000)(hN:cellsI p.mems<=1000)(l:List Dir)(hl:l.length<1000000)(kx:Nat->K)
  (hx:∀ T (c':Conf) (o':List Obs),getS .bot T 2=.d (rD l)->getS .bot T 4=.ref 1 0 0->getS .bot T 6=.ref 2 0 0->getS .bot T 9=ownA 3 o'->ansOf (kx 0 (mk .bot 46 T) ([.cells ((progC p).map .d) 0 false,.cells ((confC c').map .d) 0 false,.cells [zi,zi,zi,zi,zn,zn,zi,zn,zn,zi] 0 false]++ownB o'))=some (.tup [confD c',rD o',vi l.length])):
  ∀(m k f:Nat) (c:Conf) (o:List Obs),Md.Inv (cellsI p.mems) p c->k+m=l.length->m<=f->o.length<=k->
  ansOf (B10_scri_Run (inn E 16) (evC E fn (dp+11)) (loopK 10 B10_scri_Run (inn E 16) (evC E fn (dp+11)) kx (kEnd 0 [.cell 6 true 10,.tmp 7,.tmp 8]) f) kx (kEnd 0 [.cell 6 true 10,.tmp 7,.tmp 8]) (mk .bot 46 [(2,.d (rD l)),(3,.ref 0 0 0),(4,.ref 1 0 0),(6,.ref 2 0 0),(9,ownA 3 o),(17,.d (rD l)),(18,aI l.length),(19,aI k)]) ([.cells ((progC p).map .d) 0 false,.cells ((confC c).map .d) 0 false,.cells [zi,zi,zi,zi,zn,zn,zi,zn,zn,zi] 0 false]++ownB o))=
  some (.tup [confD (runM (cellsI p.mems) p (l.drop k) c k).1,rD (o++(runM (cellsI p.mems) p (l.drop k) c k).2.1),vi (runM (cellsI p.mems) p (l.drop k) c k).2.2]):=by
 intro m
 induction m with
 | zero=>
  intro k f c o _ hk _ _
  obtain rfl:k=l.length:=by omega
  rw[List.drop_length,runM_nil,List.append_nil]
  generalize loopK 10 B10_scri_Run _ _ kx _ f=KK
  first | (conv=>lhs;rw[B10_scri_Run]) | rw[B10_scri_Run]
  by_cases h0:o.length=0
  ·have : o = [] := List.length_eq_zero_iff.1 h0
   subst this
   simp only[eG,go_sem,thq S,nbr S,zN0,zN1,zN2,zN3,zN4,zI0,zI1,zI2,zI3,reduceCtorEq,o16_70 S,ownA_nil,ownB_nil,Int.lt_irrefl]
   exact hx _ c [] rfl rfl rfl rfl
  ·rw [ownA_ne h0, ownB_ne h0]
   simp only[eG,go_sem,thq S,nbr S,zN0,zN1,zN2,zN3,zN4,zI0,zI1,zI2,zI3,reduceCtorEq,o16_70 S,Int.lt_irrefl]
   have:=fun T z a b d=>hx T c o z a b (by rw[ownA_ne h0];exact d)
   rw[ownB_ne h0] at this
   exact this _ rfl rfl rfl rfl
 | succ m ih=>
  intro k f c o hI hk hf ho
  obtain⟨f,rfl⟩:∃ g,f=g+1:=⟨f-1,by omega⟩
  obtain⟨d,hd⟩:=get_of (show k<l.length by omega)
  have hkl:(k:Int)<l.length:=by omega
  have cS:=fun(A:List Blk) (nb:Nat)=>do_any S dp hp hml hN hI d A nb
  rw[drop_get hd,runM_cons]
  cases hc:Md.canSay (cellsI p.mems) p c d with
  | false=>
   have e1:sayC (cellsI p.mems) p c d=(Md.conf0,[]):=by unfold sayC;rw[hc];rfl
   rw[hc,e1] at cS
   simp only[progD,progC,confD,confC,cl_dir,cond_false] at cS
   rw[cond_false,List.append_nil]
   generalize loopK 10 B10_scri_Run _ _ kx _ (f+1)=KK
   first | (conv=>lhs;rw[B10_scri_Run]) | rw[B10_scri_Run]
   by_cases h0:o.length=0
   ·have : o = [] := List.length_eq_zero_iff.1 h0
    subst this
    simp only[eG,go_sem,thq S,nbr S,zN0,zN1,zN2,zN3,zN4,zI0,zI1,zI2,zI3,reduceCtorEq,o16_70 S,ownA_nil,ownB_nil,hkl,w_ix hd,cS,Bool.not_false,Bool.not_true]
    try rfl
   ·rw [ownA_ne h0, ownB_ne h0]
    have hne:o≠[]:=fun e=>h0 (by rw[e];rfl)
    have hd1:deep [.cells ((rC o).map .d) 0 false] 7 (.sref 0 0 0 o.length 2 none)=some (.lst (rC o) o.length none,[0]):=deep_alone o hne _ rfl 5 2 none rfl
    simp only[eG,go_sem,thq S,nbr S,zN0,zN1,zN2,zN3,zN4,zI0,zI1,zI2,zI3,reduceCtorEq,o16_70 S,hkl,w_ix hd,cS,Bool.not_false,Bool.not_true,hd1]
    try rfl
  | true=>
   have e1:sayC (cellsI p.mems) p c d=Md.say (cellsI p.mems) p c d:=by unfold sayC;rw[hc];rfl
   have hobs:=Md.say_obs (N:=cellsI p.mems) (p:=p) (c:=c) d hc
   have hI':=hI.said hp d hc
   rw[hc,e1] at cS
   rw[cond_true]
   have next:=fun hh=>ih (k+1) f (Md.say (cellsI p.mems) p c d).1 (o++(Md.say (cellsI p.mems) p c d).2) hI' (by omega) (by omega) hh
   generalize Md.say (cellsI p.mems) p c d=X at *
   obtain⟨X,s⟩:=X
   simp only at hobs hI' next ⊢
   simp only[progD,progC,confD,confC,cl_dir] at cS
   rw[<-List.append_assoc]
   generalize hK:loopK 10 B10_scri_Run _ _ kx _ (f+1)=KK
   first | (conv=>lhs;rw[B10_scri_Run]) | rw[B10_scri_Run]
   have k1:(o.length+1)*16<=limA:=by have:limA=1099511627776:=rfl;omega
   have k2:o.length+1<=limA:=by have:limA=1099511627776:=rfl;omega
   match s,hobs with
   | [],_=>
    simp only[List.append_nil] at next ⊢
    have next:=next (by omega)
    by_cases h0:o.length=0
    ·have : o = [] := List.length_eq_zero_iff.1 h0
     subst this
     rw[ownA_nil,ownB_nil] at *
     simp only[eG,go_sem,thq S,nbr S,zN0,zN1,zN2,zN3,zN4,zI0,zI1,zI2,zI3,reduceCtorEq,o16_70 S,hkl,w_ix hd,cS,Bool.not_true,x_drawn,x_nil,x_cons,x_keep,x_kept,x_blk,sameL_nil,sameL_cons,x_row8,x_int8,x_bool8,List.all_cons,List.all_nil,Nat.beq,d_endD',d_neC,d_ne0,d_neR,wi k (by omega)]
     rw[<-hK,loop_in (on S _ _ [2,3,4,6,9,17,18,19] (by decide) rfl) rfl _ _ _ _ _ _ _ _ _ rfl]
     simp only[eG,go_sem,thq S,nbr S,zN0,zN1,zN2,zN3,zN4,zI0,zI1,zI2,zI3,reduceCtorEq,o16_70 S]
     exact next
    ·rw [ownA_ne h0, ownB_ne h0] at *
     simp only[eG,go_sem,thq S,nbr S,zN0,zN1,zN2,zN3,zN4,zI0,zI1,zI2,zI3,reduceCtorEq,o16_70 S,hkl,w_ix hd,cS,Bool.not_true,x_drawn,x_nil,x_cons,x_keep,x_kept,x_blk,sameL_nil,sameL_cons,x_row8,x_int8,x_bool8,List.all_cons,List.all_nil,Nat.beq,d_endD',d_neC,d_ne0,d_neR,wi k (by omega)]
     rw[<-hK,loop_in (on S _ _ [2,3,4,6,9,17,18,19] (by decide) rfl) rfl _ _ _ _ _ _ _ _ _ rfl]
     simp only[eG,go_sem,thq S,nbr S,zN0,zN1,zN2,zN3,zN4,zI0,zI1,zI2,zI3,reduceCtorEq,o16_70 S]
     exact next
   | [x],_=>
    have next:=next (by simp;omega)
    rw[ownA_ne (ne_app _ _),ownB_ne (ne_app _ _)] at next
    by_cases h0:o.length=0
    ·have : o = [] := List.length_eq_zero_iff.1 h0
     subst this
     rw[ownA_nil,ownB_nil]
     simp only[eG,go_sem,thq S,nbr S,zN0,zN1,zN2,zN3,zN4,zI0,zI1,zI2,zI3,reduceCtorEq,o16_70 S,hkl,w_ix hd,cS,Bool.not_true,x_drawn,x_nil,x_cons,x_keep,x_kept,x_blk,sameL_nil,sameL_cons,x_row8,x_int8,x_bool8,List.all_cons,List.all_nil,Nat.beq,d_endD',d_neC,d_ne0,d_neR,wi k (by omega),dl_nil,dl_cons,rep1',nc2,l16,l16',l1n,Option.map_some,Nat.zero_add,Nat.one_mul,Nat.zero_mul,and_self,true_and,show(0:Nat)<1 by decide]
     rw[<-hK,loop_in (on S _ _ [2,3,4,6,9,17,18,19] (by decide) rfl) rfl _ _ _ _ _ _ _ _ _ rfl]
     simp only[eG,go_sem,thq S,nbr S,zN0,zN1,zN2,zN3,zN4,zI0,zI1,zI2,zI3,reduceCtorEq,o16_70 S]
     exact next
    ·rw [ownA_ne h0, ownB_ne h0]
     simp only[eG,go_sem,thq S,nbr S,zN0,zN1,zN2,zN3,zN4,zI0,zI1,zI2,zI3,reduceCtorEq,o16_70 S,hkl,w_ix hd,cS,Bool.not_true,x_drawn,x_nil,x_cons,x_keep,x_kept,x_blk,sameL_nil,sameL_cons,x_row8,x_int8,x_bool8,List.all_cons,List.all_nil,Nat.beq,d_endD',d_neC,d_ne0,d_neR,wi k (by omega),dl_nil,dl_cons,rep1',nc2,app_endO,k1,k2,Option.map_some]
     rw[<-hK,loop_in (on S _ _ [2,3,4,6,9,17,18,19] (by decide) rfl) rfl _ _ _ _ _ _ _ _ _ rfl]
     simp only[eG,go_sem,thq S,nbr S,zN0,zN1,zN2,zN3,zN4,zI0,zI1,zI2,zI3,reduceCtorEq,o16_70 S]
     rw[List.length_append,List.length_singleton] at next
     exact next
end
variable {E:Env} {fn:FuncId->Option (Env->cT->cT)}
section
variable (S:Sur E fn)
include S
theorem of_74_Bo2:E.lives 74 1=none:=off S 74 1 (by decide) rfl
theorem loop_rCells (dp:Nat)(p:Prog)(hl:p.mems.length<1073741824)(hr:∀ m ∈ p.mems,0<=m.n/\m.n<=16)(kx:Nat->K)(kr:K):∀ m k f,k+m=p.mems.length->m<=f->
  B8_r7_Cells (inn E 74) (evC E fn dp) (loopK 8 B8_r7_Cells (inn E 74) (evC E fn dp) kx kr f) kx kr (mk .bot 21 [(1,.ref 0 0 0),(3,aI (cellsI (p.mems.take k))),(4,aI k)]) [.cells ((progC p).map .d) 0 false]=
  kx 0 (mk .bot 21 [(9,abool false),(8,aI p.mems.length),(7,.d (rD p.mems)),(6,.ref 0 0 7),(5,aI p.mems.length),(1,.ref 0 0 0),(3,aI (cellsI p.mems)),(4,aI p.mems.length)]) [.cells ((progC p).map .d) 0 false]:=by
 intro m
 induction m with
 | zero=>
  intro k f hk _
  obtain rfl:k=p.mems.length:=by omega
  generalize loopK 8 B8_r7_Cells _ _ kx kr f=KK
  rw[B8_r7_Cells,List.take_of_length_le (by omega)]
  simp only[eG,go_sem,thq S,nbr S,zN0,zN1,zN2,zN3,zN4,zI0,zI1,zI2,zI3,reduceCtorEq,of_74_Bo2 S,Int.lt_irrefl]
 | succ m ih=>
  intro k f hk hf
  obtain⟨e,he⟩:=get_of (show k<p.mems.length by omega)
  obtain⟨f,rfl⟩:∃ g,f=g+1:=⟨f-1,by omega⟩
  generalize hK:loopK 8 B8_r7_Cells _ _ kx kr (f+1)=KK
  rw[B8_r7_Cells]
  have hb:=cellsI_le (p.mems.take k)
  have hbl:(p.mems.take k).length<=p.mems.length:=by simp;omega
  have hen:=hr e (List.mem_of_getElem? he)
  have hw:IntKind.i64.wrap (cellsI (p.mems.take k)+e.n)=cellsI (p.mems.take (k+1)):=by
   rw[cellsI_take he,Int.max_eq_left hen.1,Int.min_eq_left hen.2]
   exact wrap_i64 (by omega) (by omega)
  simp only[eG,go_sem,thq S,nbr S,zN0,zN1,zN2,zN3,zN4,zI0,zI1,zI2,zI3,reduceCtorEq,of_74_Bo2 S,show(k:Int)<p.mems.length by omega,w_ix he,wi k (by omega),hw]
  rw[<-hK,loop_in (on S _ _ [1,3,4] (by decide) rfl) rfl _ _ _ _ _ _ _ _ _ rfl]
  simp only[eG,go_sem,thq S,nbr S,zN0,zN1,zN2,zN3,zN4,zI0,zI1,zI2,zI3,reduceCtorEq,of_74_Bo2 S]
  exact ih (k+1) f (by omega) (by omega)
theorem raw_r7_Cells (dp:Nat)(p:Prog)(hl:p.mems.length<1073741824)(hr:∀ m ∈ p.mems,0<=m.n/\m.n<=16):Says E fn (dp+1) 74 [progD p] (vi (cellsI p.mems)):=by
 unfold Says
 show ansOf (evC E fn (dp+1) 74 [.d (progD p)] [])=_
 rw[evC_succ,S.f_r7_Cells,apF_some,F_r7_Cells,mkF_run _ _ _ _ _ _ _ _ rfl]
 simp only[eG,go_sem,thq S,nbr S,zN0,zN1,zN2,zN3,zN4,zI0,zI1,zI2,zI3,reduceCtorEq,of_74_Bo2 S]
 rw[big_eq,loop_in (on S _ _ [1,3,4] (by decide) rfl) rfl _ _ _ _ _ _ _ _ _ rfl]
 simp only[eG,go_sem,thq S,nbr S,zN0,zN1,zN2,zN3,zN4,zI0,zI1,zI2,zI3,reduceCtorEq,of_74_Bo2 S]
 have:=fun kx kr=>loop_rCells S dp p hl hr kx kr p.mems.length 0 999999999999999999999999999999 (by omega) (by omega)
 simp only[go_sem,List.take_zero,Int.cast_ofNat_Int,show cellsI ([]:List MemT)=0 from rfl] at this
 rw[this]
 simp only[eG,go_sem,thq S,nbr S,zN0,zN1,zN2,zN3,zN4,zI0,zI1,zI2,zI3,reduceCtorEq,of_74_Bo2 S]
end
end Go.Aug.Mc
