import Derived.Test.YtikiagojnilhiaaGreatMk
import Derived.Test.YtikiagojnilhiaaGreatMc51
import Derived.Test.YtikiagojnilhiaaGreatMc9
import Derived.Test.YtikiagojnilhiaaGreatMc33
import Derived.Test.YtikiagojnilhiaaGreatMc15
import Derived.Test.YtikiagojnilhiaaGreatMc24
import Derived.Test.YtikiagojnilhiaaGreatMc11
import Derived.Test.YtikiagojnilhiaaGreatMc28
namespace Go.Aug.Mc
open Go Go.Aug
open Nat renaming reduceLT -> zN0, reduceEqDiff -> zN1, reduceAdd -> zN2, reduceMul -> zN3, reduceLeDiff -> zN4
open Int renaming reduceEq -> zI0, reduceLT -> zI1, reduceLE -> zI2, reduceNeg -> zI3
set_option linter.unusedSimpArgs false
set_option linter.unusedVariables false
set_option maxHeartbeats 40000000
set_option maxRecDepth 200000
variable {E:Env} {fn:FuncId->Option (Env->CallT->CallT)}
section
variable (S:Sur E fn)
include S
theorem o11_53:E.lives 11 1=none/\E.lives 11 25=none/\E.lives 11 37=none/\E.lives 11 43=none:=⟨off S 11 1 (by decide) rfl,off S 11 25 (by decide) rfl,off S 11 37 (by decide) rfl,off S 11 43 (by decide) rfl⟩
theorem pall1 (dp:Nat)(p:Prog)(c:Conf)(hi:p.ins.length<1073741824)(hg:Md.guesses p c<2147483648)(kx:Nat->K)(D:DV)(r:List Dir)
  (hx:∀ T,getS .bot T 2=.ref 0 0 0->getS .bot T 3=.ref 1 0 0->getS .bot T 5=ownA 2 r->ansOf (kx 0 (mk .bot 61 T) ([.cells ((progC p).map .d) 0 false,.cells ((confC c).map .d) 0 false]++ownB r))=some D):
  ∀(m k f:Nat) (o:List Dir),((k+m:Nat):Int)=max (Md.guesses p c) k->m<=f->o.length<8589934592->o.length+m<8589934592->o++(List.range' k m).map (fun n:Nat=>(⟨1,(n:Int)⟩:Dir))=r->
  ansOf (B8_dirs_All (inn E 11) (evC E fn (dp+2)) (loopK 8 B8_dirs_All (inn E 11) (evC E fn (dp+2)) kx (kEnd 0 [.tmp 4]) f) kx (kEnd 0 [.tmp 4]) (mk .bot 61 [(2,.ref 0 0 0),(3,.ref 1 0 0),(5,ownA 2 o),(11,aint (Md.guesses p c)),(12,aint k)]) ([.cells ((progC p).map .d) 0 false,.cells ((confC c).map .d) 0 false]++ownB o))=some D:=by
 intro m
 induction m with
 | zero=>
  intro k f o hk _ _ _ hr
  have hr:o=r:=by simpa using hr
  subst hr
  generalize loopK 8 B8_dirs_All _ _ kx _ f=KK
  first | (conv=>lhs;rw[B8_dirs_All]) | rw[B8_dirs_All]
  by_cases h0:o.length=0
  ·have : o = [] := List.length_eq_zero_iff.1 h0
   subst this
   simp only[eG,go_sem,thq S,nbr S,zN0,zN1,zN2,zN3,zN4,zI0,zI1,zI2,zI3,reduceCtorEq,o11_53 S,ownA_nil,ownB_nil,show ¬(k:Int)<Md.guesses p c by omega]
   exact hx _ rfl rfl rfl
  ·rw [ownA_ne h0, ownB_ne h0] at *
   simp only[eG,go_sem,thq S,nbr S,zN0,zN1,zN2,zN3,zN4,zI0,zI1,zI2,zI3,reduceCtorEq,o11_53 S,show ¬(k:Int)<Md.guesses p c by omega]
   exact hx _ rfl rfl rfl
 | succ m ih=>
  intro k f o hk hf ho ho2 hr
  obtain⟨f,rfl⟩:∃ g,f=g+1:=⟨f-1,by omega⟩
  have hkg:(k:Int)<Md.guesses p c:=by omega
  have hr':(o++[(⟨1,(k:Int)⟩:Dir)])++(List.range' (k+1) m).map (fun n:Nat=>(⟨1,(n:Int)⟩:Dir))=r:=by
   rw[<-hr,List.range'_succ,List.map_cons,List.append_assoc];rfl
  have:=ih (k+1) f (o++[⟨1,(k:Int)⟩]) (by omega) (by omega) (by simp;omega) (by simp;omega) hr'
  rw[ownA_ne (ne_app _ _),ownB_ne (ne_app _ _)] at this
  generalize hK:loopK 8 B8_dirs_All _ _ kx _ (f+1)=KK
  first | (conv=>lhs;rw[B8_dirs_All]) | rw[B8_dirs_All]
  by_cases h0:o.length=0
  ·have : o = [] := List.length_eq_zero_iff.1 h0
   subst this
   simp only[eG,go_sem,thq S,nbr S,zN0,zN1,zN2,zN3,zN4,zI0,zI1,zI2,zI3,reduceCtorEq,o11_53 S,sw_t,sw_s,dl_nil,dl_cons,rep1',nc2,app_endD,l16,l16',l1n,Option.map_some,Nat.zero_add,Nat.one_mul,Nat.zero_mul,and_self,true_and,wi k (by omega),show(0:Nat)<1 by decide,ownA_nil,ownB_nil,hkg]
   rw[<-hK,loop_in (on S _ _ [2,3,5,11,12] (by decide) rfl) rfl _ _ _ _ _ _ _ _ _ rfl]
   simp only[eG,go_sem,thq S,nbr S,zN0,zN1,zN2,zN3,zN4,zI0,zI1,zI2,zI3,reduceCtorEq,o11_53 S]
   exact this
  ·rw [ownA_ne h0, ownB_ne h0]
   have k1:(o.length+1)*16<=limA:=by unfold limA;omega
   have k2:o.length+1<=limA:=by unfold limA;omega
   simp only[eG,go_sem,thq S,nbr S,zN0,zN1,zN2,zN3,zN4,zI0,zI1,zI2,zI3,reduceCtorEq,o11_53 S,sw_t,sw_s,dl_nil,dl_cons,rep1',nc2,app_endD,l16,l16',l1n,Option.map_some,Nat.zero_add,Nat.one_mul,Nat.zero_mul,and_self,true_and,wi k (by omega),show(0:Nat)<1 by decide,hkg,k1,k2]
   rw[<-hK,loop_in (on S _ _ [2,3,5,11,12] (by decide) rfl) rfl _ _ _ _ _ _ _ _ _ rfl]
   simp only[eG,go_sem,thq S,nbr S,zN0,zN1,zN2,zN3,zN4,zI0,zI1,zI2,zI3,reduceCtorEq,o11_53 S]
   rw[List.length_append,List.length_singleton] at this
   exact this
theorem pall2 (dp:Nat)(p:Prog)(c:Conf)(hm:p.mems.length<1073741824)(hb:c.buf.length<1073741824)(kx:Nat->K)(D:DV)(r:List Dir)
  (hx:∀ T,getS .bot T 2=.ref 0 0 0->getS .bot T 3=.ref 1 0 0->getS .bot T 5=ownA 2 r->ansOf (kx 2 (mk .bot 61 T) ([.cells ((progC p).map .d) 0 false,.cells ((confC c).map .d) 0 false]++ownB r))=some D):
  ∀(m k f:Nat) (o:List Dir),k+m=c.buf.length->m<=f->o.length<8589934592->o.length+m<8589934592->o++((List.range' k m).filter fun n:Nat=>Md.can (cellsI p.mems) p c (n:Int)).map (fun n:Nat=>(⟨2,(n:Int)⟩:Dir))=r->
  ansOf (B18_dirs_All (inn E 11) (evC E fn (dp+9)) (loopK 18 B18_dirs_All (inn E 11) (evC E fn (dp+9)) kx (kEnd 0 [.tmp 4]) f) kx (kEnd 0 [.tmp 4]) (mk .bot 61 [(2,.ref 0 0 0),(3,.ref 1 0 0),(5,ownA 2 o),(23,aint c.buf.length),(24,aint k)]) ([.cells ((progC p).map .d) 0 false,.cells ((confC c).map .d) 0 false]++ownB o))=some D:=by
 intro m
 induction m with
 | zero=>
  intro k f o hk _ _ _ hr
  have hr:o=r:=by simpa using hr
  subst hr
  generalize loopK 18 B18_dirs_All _ _ kx _ f=KK
  first | (conv=>lhs;rw[B18_dirs_All]) | rw[B18_dirs_All]
  by_cases h0:o.length=0
  ·have : o = [] := List.length_eq_zero_iff.1 h0
   subst this
   simp only[eG,go_sem,thq S,nbr S,zN0,zN1,zN2,zN3,zN4,zI0,zI1,zI2,zI3,reduceCtorEq,o11_53 S,ownA_nil,ownB_nil,show ¬(k:Int)<c.buf.length by omega]
   exact hx _ rfl rfl rfl
  ·rw [ownA_ne h0, ownB_ne h0] at *
   simp only[eG,go_sem,thq S,nbr S,zN0,zN1,zN2,zN3,zN4,zI0,zI1,zI2,zI3,reduceCtorEq,o11_53 S,show ¬(k:Int)<c.buf.length by omega]
   exact hx _ rfl rfl rfl
 | succ m ih=>
  intro k f o hk hf ho ho2 hr
  obtain⟨f,rfl⟩:∃ g,f=g+1:=⟨f-1,by omega⟩
  have hkg:(k:Int)<c.buf.length:=by omega
  cases hcan:Md.can (cellsI p.mems) p c (k:Int) with
  | false=>
   have hr':o++((List.range' (k+1) m).filter fun n:Nat=>Md.can (cellsI p.mems) p c (n:Int)).map (fun n:Nat=>(⟨2,(n:Int)⟩:Dir))=r:=by
    rw[<-hr,List.range'_succ,List.filter_cons,hcan];rfl
   have:=ih (k+1) f o (by omega) (by omega) ho (by omega) hr'
   generalize hK:loopK 18 B18_dirs_All _ _ kx _ (f+1)=KK
   first | (conv=>lhs;rw[B18_dirs_All]) | rw[B18_dirs_All]
   by_cases h0:o.length=0
   ·have : o = [] := List.length_eq_zero_iff.1 h0
    subst this
    simp only[eG,go_sem,thq S,nbr S,zN0,zN1,zN2,zN3,zN4,zI0,zI1,zI2,zI3,reduceCtorEq,o11_53 S,sw_t,sw_s,dl_nil,dl_cons,rep1',nc2,app_endD,l16,l16',l1n,Option.map_some,Nat.zero_add,Nat.one_mul,Nat.zero_mul,and_self,true_and,wi k (by omega),show(0:Nat)<1 by decide,ownA_nil,ownB_nil,c_exec_Can S,hm,hb,hkg,hcan]
    rw[<-hK,loop_in (on S _ _ [2,3,5,23,24] (by decide) rfl) rfl _ _ _ _ _ _ _ _ _ rfl]
    simp only[eG,go_sem,thq S,nbr S,zN0,zN1,zN2,zN3,zN4,zI0,zI1,zI2,zI3,reduceCtorEq,o11_53 S]
    assumption
   ·rw [ownA_ne h0, ownB_ne h0] at *
    simp only[eG,go_sem,thq S,nbr S,zN0,zN1,zN2,zN3,zN4,zI0,zI1,zI2,zI3,reduceCtorEq,o11_53 S,sw_t,sw_s,dl_nil,dl_cons,rep1',nc2,app_endD,l16,l16',l1n,Option.map_some,Nat.zero_add,Nat.one_mul,Nat.zero_mul,and_self,true_and,wi k (by omega),show(0:Nat)<1 by decide,c_exec_Can S,hm,hb,hkg,hcan]
    rw[<-hK,loop_in (on S _ _ [2,3,5,23,24] (by decide) rfl) rfl _ _ _ _ _ _ _ _ _ rfl]
    simp only[eG,go_sem,thq S,nbr S,zN0,zN1,zN2,zN3,zN4,zI0,zI1,zI2,zI3,reduceCtorEq,o11_53 S]
    exact this
  | true=>
   have hr':(o++[(⟨2,(k:Int)⟩:Dir)])++((List.range' (k+1) m).filter fun n:Nat=>Md.can (cellsI p.mems) p c (n:Int)).map (fun n:Nat=>(⟨2,(n:Int)⟩:Dir))=r:=by
    rw[<-hr,List.range'_succ,List.filter_cons,hcan,if_pos rfl,List.map_cons,List.append_assoc];rfl
   have:=ih (k+1) f (o++[⟨2,(k:Int)⟩]) (by omega) (by omega) (by simp;omega) (by simp;omega) hr'
   rw[ownA_ne (ne_app _ _),ownB_ne (ne_app _ _)] at this
   generalize hK:loopK 18 B18_dirs_All _ _ kx _ (f+1)=KK
   first | (conv=>lhs;rw[B18_dirs_All]) | rw[B18_dirs_All]
   by_cases h0:o.length=0
   ·have : o = [] := List.length_eq_zero_iff.1 h0
    subst this
    simp only[eG,go_sem,thq S,nbr S,zN0,zN1,zN2,zN3,zN4,zI0,zI1,zI2,zI3,reduceCtorEq,o11_53 S,sw_t,sw_s,dl_nil,dl_cons,rep1',nc2,app_endD,l16,l16',l1n,Option.map_some,Nat.zero_add,Nat.one_mul,Nat.zero_mul,and_self,true_and,wi k (by omega),show(0:Nat)<1 by decide,ownA_nil,ownB_nil,c_exec_Can S,hm,hb,hkg,hcan]
    rw[<-hK,loop_in (on S _ _ [2,3,5,23,24] (by decide) rfl) rfl _ _ _ _ _ _ _ _ _ rfl]
    simp only[eG,go_sem,thq S,nbr S,zN0,zN1,zN2,zN3,zN4,zI0,zI1,zI2,zI3,reduceCtorEq,o11_53 S]
    assumption
   ·rw [ownA_ne h0, ownB_ne h0]
    have k1:(o.length+1)*16<=limA:=by unfold limA;omega
    have k2:o.length+1<=limA:=by unfold limA;omega
    simp only[eG,go_sem,thq S,nbr S,zN0,zN1,zN2,zN3,zN4,zI0,zI1,zI2,zI3,reduceCtorEq,o11_53 S,sw_t,sw_s,dl_nil,dl_cons,rep1',nc2,app_endD,l16,l16',l1n,Option.map_some,Nat.zero_add,Nat.one_mul,Nat.zero_mul,and_self,true_and,wi k (by omega),show(0:Nat)<1 by decide,c_exec_Can S,hm,hb,hkg,hcan,k1,k2]
    rw[<-hK,loop_in (on S _ _ [2,3,5,23,24] (by decide) rfl) rfl _ _ _ _ _ _ _ _ _ rfl]
    simp only[eG,go_sem,thq S,nbr S,zN0,zN1,zN2,zN3,zN4,zI0,zI1,zI2,zI3,reduceCtorEq,o11_53 S]
    rw[List.length_append,List.length_singleton] at this
    exact this
theorem pall3 (dp:Nat)(p:Prog)(c:Conf)(hm:p.mems.length<1073741824)(hb:c.buf.length<1073741824)(kx:Nat->K)(D:DV)(r:List Dir)
  (hx:∀ T,getS .bot T 2=.ref 0 0 0->getS .bot T 3=.ref 1 0 0->getS .bot T 5=ownA 2 r->ansOf (kx 4 (mk .bot 61 T) ([.cells ((progC p).map .d) 0 false,.cells ((confC c).map .d) 0 false]++ownB r))=some D):
  ∀(m k f:Nat) (o:List Dir),k+m=c.buf.length->m<=f->o.length<8589934592->o.length+m<8589934592->o++((List.range' k m).filter fun n:Nat=>Md.canAddr p c (n:Int)).map (fun n:Nat=>(⟨3,(n:Int)⟩:Dir))=r->
  ansOf (B30_dirs_All (inn E 11) (evC E fn (dp+9)) (loopK 30 B30_dirs_All (inn E 11) (evC E fn (dp+9)) kx (kEnd 0 [.tmp 4]) f) kx (kEnd 0 [.tmp 4]) (mk .bot 61 [(2,.ref 0 0 0),(3,.ref 1 0 0),(5,ownA 2 o),(39,aint c.buf.length),(40,aint k)]) ([.cells ((progC p).map .d) 0 false,.cells ((confC c).map .d) 0 false]++ownB o))=some D:=by
 intro m
 induction m with
 | zero=>
  intro k f o hk _ _ _ hr
  have hr:o=r:=by simpa using hr
  subst hr
  generalize loopK 30 B30_dirs_All _ _ kx _ f=KK
  first | (conv=>lhs;rw[B30_dirs_All]) | rw[B30_dirs_All]
  by_cases h0:o.length=0
  ·have : o = [] := List.length_eq_zero_iff.1 h0
   subst this
   simp only[eG,go_sem,thq S,nbr S,zN0,zN1,zN2,zN3,zN4,zI0,zI1,zI2,zI3,reduceCtorEq,o11_53 S,ownA_nil,ownB_nil,show ¬(k:Int)<c.buf.length by omega]
   exact hx _ rfl rfl rfl
  ·rw [ownA_ne h0, ownB_ne h0] at *
   simp only[eG,go_sem,thq S,nbr S,zN0,zN1,zN2,zN3,zN4,zI0,zI1,zI2,zI3,reduceCtorEq,o11_53 S,show ¬(k:Int)<c.buf.length by omega]
   exact hx _ rfl rfl rfl
 | succ m ih=>
  intro k f o hk hf ho ho2 hr
  obtain⟨f,rfl⟩:∃ g,f=g+1:=⟨f-1,by omega⟩
  have hkg:(k:Int)<c.buf.length:=by omega
  cases hcan:Md.canAddr p c (k:Int) with
  | false=>
   have hr':o++((List.range' (k+1) m).filter fun n:Nat=>Md.canAddr p c (n:Int)).map (fun n:Nat=>(⟨3,(n:Int)⟩:Dir))=r:=by
    rw[<-hr,List.range'_succ,List.filter_cons,hcan];rfl
   have:=ih (k+1) f o (by omega) (by omega) ho (by omega) hr'
   generalize hK:loopK 30 B30_dirs_All _ _ kx _ (f+1)=KK
   first | (conv=>lhs;rw[B30_dirs_All]) | rw[B30_dirs_All]
   by_cases h0:o.length=0
   ·have : o = [] := List.length_eq_zero_iff.1 h0
    subst this
    simp only[eG,go_sem,thq S,nbr S,zN0,zN1,zN2,zN3,zN4,zI0,zI1,zI2,zI3,reduceCtorEq,o11_53 S,sw_t,sw_s,dl_nil,dl_cons,rep1',nc2,app_endD,l16,l16',l1n,Option.map_some,Nat.zero_add,Nat.one_mul,Nat.zero_mul,and_self,true_and,wi k (by omega),show(0:Nat)<1 by decide,ownA_nil,ownB_nil,c_exec_CanAddr S,hb,hkg,hcan]
    rw[<-hK,loop_in (on S _ _ [2,3,5,39,40] (by decide) rfl) rfl _ _ _ _ _ _ _ _ _ rfl]
    simp only[eG,go_sem,thq S,nbr S,zN0,zN1,zN2,zN3,zN4,zI0,zI1,zI2,zI3,reduceCtorEq,o11_53 S]
    assumption
   ·rw [ownA_ne h0, ownB_ne h0] at *
    simp only[eG,go_sem,thq S,nbr S,zN0,zN1,zN2,zN3,zN4,zI0,zI1,zI2,zI3,reduceCtorEq,o11_53 S,sw_t,sw_s,dl_nil,dl_cons,rep1',nc2,app_endD,l16,l16',l1n,Option.map_some,Nat.zero_add,Nat.one_mul,Nat.zero_mul,and_self,true_and,wi k (by omega),show(0:Nat)<1 by decide,c_exec_CanAddr S,hb,hkg,hcan]
    rw[<-hK,loop_in (on S _ _ [2,3,5,39,40] (by decide) rfl) rfl _ _ _ _ _ _ _ _ _ rfl]
    simp only[eG,go_sem,thq S,nbr S,zN0,zN1,zN2,zN3,zN4,zI0,zI1,zI2,zI3,reduceCtorEq,o11_53 S]
    exact this
  | true=>
   have hr':(o++[(⟨3,(k:Int)⟩:Dir)])++((List.range' (k+1) m).filter fun n:Nat=>Md.canAddr p c (n:Int)).map (fun n:Nat=>(⟨3,(n:Int)⟩:Dir))=r:=by
    rw[<-hr,List.range'_succ,List.filter_cons,hcan,if_pos rfl,List.map_cons,List.append_assoc];rfl
   have:=ih (k+1) f (o++[⟨3,(k:Int)⟩]) (by omega) (by omega) (by simp;omega) (by simp;omega) hr'
   rw[ownA_ne (ne_app _ _),ownB_ne (ne_app _ _)] at this
   generalize hK:loopK 30 B30_dirs_All _ _ kx _ (f+1)=KK
   first | (conv=>lhs;rw[B30_dirs_All]) | rw[B30_dirs_All]
   by_cases h0:o.length=0
   ·have : o = [] := List.length_eq_zero_iff.1 h0
    subst this
    simp only[eG,go_sem,thq S,nbr S,zN0,zN1,zN2,zN3,zN4,zI0,zI1,zI2,zI3,reduceCtorEq,o11_53 S,sw_t,sw_s,dl_nil,dl_cons,rep1',nc2,app_endD,l16,l16',l1n,Option.map_some,Nat.zero_add,Nat.one_mul,Nat.zero_mul,and_self,true_and,wi k (by omega),show(0:Nat)<1 by decide,ownA_nil,ownB_nil,c_exec_CanAddr S,hb,hkg,hcan]
    rw[<-hK,loop_in (on S _ _ [2,3,5,39,40] (by decide) rfl) rfl _ _ _ _ _ _ _ _ _ rfl]
    simp only[eG,go_sem,thq S,nbr S,zN0,zN1,zN2,zN3,zN4,zI0,zI1,zI2,zI3,reduceCtorEq,o11_53 S]
    assumption
   ·rw [ownA_ne h0, ownB_ne h0]
    have k1:(o.length+1)*16<=limA:=by unfold limA;omega
    have k2:o.length+1<=limA:=by unfold limA;omega
    simp only[eG,go_sem,thq S,nbr S,zN0,zN1,zN2,zN3,zN4,zI0,zI1,zI2,zI3,reduceCtorEq,o11_53 S,sw_t,sw_s,dl_nil,dl_cons,rep1',nc2,app_endD,l16,l16',l1n,Option.map_some,Nat.zero_add,Nat.one_mul,Nat.zero_mul,and_self,true_and,wi k (by omega),show(0:Nat)<1 by decide,c_exec_CanAddr S,hb,hkg,hcan,k1,k2]
    rw[<-hK,loop_in (on S _ _ [2,3,5,39,40] (by decide) rfl) rfl _ _ _ _ _ _ _ _ _ rfl]
    simp only[eG,go_sem,thq S,nbr S,zN0,zN1,zN2,zN3,zN4,zI0,zI1,zI2,zI3,reduceCtorEq,o11_53 S]
    rw[List.length_append,List.length_singleton] at this
    exact this
theorem raw_dirs_All (dp:Nat)(p:Prog)(c:Conf)(hi:p.ins.length<1073741824)(hm:p.mems.length<1073741824)(hb:c.buf.length<1073741824):Says E fn (dp+10) 11 [progD p,confD c] (rowD (Md.all (cellsI p.mems) p c)):=by
 unfold Says
 show ansOf (evC E fn (dp+9+1) 11 [.d (progD p),.d (confD c)] [])=_
 rw[evC_succ,S.f_dirs_All,apF_some,F_dirs_All,mkF_run _ _ _ _ _ _ _ _ rfl]
 have hg:Md.guesses p c<2147483648:=by
  unfold Md.guesses;split
  ·decide
  ·split
   ·decide
   ·split
    ·omega
    ·decide
 simp only[eG,go_sem,thq S,nbr S,zN0,zN1,zN2,zN3,zN4,zI0,zI1,zI2,zI3,reduceCtorEq,o11_53 S,c_fetc_Guesses S,hi]
 rw[big_eq,loop_in (on S _ _ [2,3,5,11,12] (by decide) rfl) rfl _ _ _ _ _ _ _ _ _ rfl]
 simp only[eG,go_sem,thq S,nbr S,zN0,zN1,zN2,zN3,zN4,zI0,zI1,zI2,zI3,reduceCtorEq,o11_53 S]
 generalize h1:(List.range (Md.guesses p c).toNat).map (fun n:Nat=>(⟨1,(n:Int)⟩:Dir))=r1
 generalize h2:r1++((List.range c.buf.length).filter fun n:Nat=>Md.can (cellsI p.mems) p c (n:Int)).map (fun n:Nat=>(⟨2,(n:Int)⟩:Dir))=r2
 generalize h3:r2++((List.range c.buf.length).filter fun n:Nat=>Md.canAddr p c (n:Int)).map (fun n:Nat=>(⟨3,(n:Int)⟩:Dir))=r3
 have hall:Md.all (cellsI p.mems) p c=r3++(bif Md.canRetire p c then[⟨4,0⟩] else[]):=by
  unfold Md.all;rw[h1,h2,h3]
 have L1:r1.length<2147483648:=by rw[<-h1,List.length_map,List.length_range];omega
 have L2:r2.length<3221225472:=by
  have:=List.length_filter_le (fun n:Nat=>Md.can (cellsI p.mems) p c (n:Int)) (List.range c.buf.length)
  rw[List.length_range] at this
  rw[<-h2,List.length_append,List.length_map];omega
 have L3:r3.length<4294967296:=by
  have:=List.length_filter_le (fun n:Nat=>Md.canAddr p c (n:Int)) (List.range c.buf.length)
  rw[List.length_range] at this
  rw[<-h3,List.length_append,List.length_map];omega
 rw[hall]
 have start:=fun(kx:Nat->K) (D:DV) hx=>pall1 S (dp+7) p c hi hg kx D r1 hx (Md.guesses p c).toNat 0 999999999999999999999999999999 [] (by omega) (by omega) (by simp) (by simp;omega) (by rw[List.nil_append,range_map];exact h1)
 refine start _ _ ?_
 intro T t2 t3 t5
 have next2:=fun(kx:Nat->K) (D:DV) hx=>pall2 S dp p c hm hb kx D r2 hx c.buf.length 0 999999999999999999999999999999 r1 (by omega) (by omega) (by omega) (by omega) (by rw[<-List.range_eq_range'];exact h2)
 have next3:=fun(kx:Nat->K) (D:DV) hx=>pall3 S dp p c hm hb kx D r3 hx c.buf.length 0 999999999999999999999999999999 r2 (by omega) (by omega) (by omega) (by omega) (by rw[<-List.range_eq_range'];exact h3)
 have stop:∀ T,getS .bot T 2=.ref 0 0 0->getS .bot T 3=.ref 1 0 0->True:=fun _ _ _=>trivial
 by_cases z1:r1.length=0
 ·have e1 : r1 = [] := List.length_eq_zero_iff.1 z1
  rw[e1,ownA_nil] at t5
  rw[e1,ownB_nil,List.append_nil]
  simp only[e1,ownA_nil,ownB_nil,List.append_nil] at next2
  simp only[eG,go_sem,thq S,nbr S,zN0,zN1,zN2,zN3,zN4,zI0,zI1,zI2,zI3,reduceCtorEq,o11_53 S,t2,t3,t5]
  rw[big_eq,loop_in (on S _ _ [2,3,5,23,24] (by decide) rfl) rfl _ _ _ _ _ _ _ _ _ rfl]
  simp only[eG,go_sem,thq S,nbr S,zN0,zN1,zN2,zN3,zN4,zI0,zI1,zI2,zI3,reduceCtorEq,o11_53 S,t2,t3,t5]
  refine next2 _ _ ?_
  clear t2 t3 t5 T
  intro T t2 t3 t5
  by_cases z2:r2.length=0
  ·have e2 : r2 = [] := List.length_eq_zero_iff.1 z2
   rw[e2,ownA_nil] at t5
   rw[e2,ownB_nil,List.append_nil]
   simp only[e2,ownA_nil,ownB_nil,List.append_nil] at next3
   simp only[eG,go_sem,thq S,nbr S,zN0,zN1,zN2,zN3,zN4,zI0,zI1,zI2,zI3,reduceCtorEq,o11_53 S,t2,t3,t5]
   rw[big_eq,loop_in (on S _ _ [2,3,5,39,40] (by decide) rfl) rfl _ _ _ _ _ _ _ _ _ rfl]
   simp only[eG,go_sem,thq S,nbr S,zN0,zN1,zN2,zN3,zN4,zI0,zI1,zI2,zI3,reduceCtorEq,o11_53 S,t2,t3,t5]
   refine next3 _ _ ?_
   clear t2 t3 t5 T
   intro T t2 t3 t5
   cases hret:Md.canRetire p c with
   | false=>
    by_cases z3:r3.length=0
    ·have e3 : r3 = [] := List.length_eq_zero_iff.1 z3
     rw[e3,ownA_nil] at t5
     rw[e3,ownB_nil,List.append_nil]
     simp only[eG,go_sem,thq S,nbr S,zN0,zN1,zN2,zN3,zN4,zI0,zI1,zI2,zI3,reduceCtorEq,o11_53 S,t2,t3,t5,c_reti_Can S,hret]
    ·rw [ownA_ne z3] at t5
     rw[ownB_ne z3]
     have hne:r3≠[]:=fun e=>z3 (by rw[e];rfl)
     have hd:deep [.cells ((rowC r3).map .d) 0 false] 8 (.sref 0 0 0 r3.length 2 none)=some (.lst (rowC r3) r3.length none,[0]):=deep_alone r3 hne _ rfl 6 2 none rfl
     simp only[eG,go_sem,thq S,nbr S,zN0,zN1,zN2,zN3,zN4,zI0,zI1,zI2,zI3,reduceCtorEq,o11_53 S,t2,t3,t5,c_reti_Can S,hret,hd]
     rfl
   | true=>
    by_cases z3:r3.length=0
    ·have e3 : r3 = [] := List.length_eq_zero_iff.1 z3
     rw[e3,ownA_nil] at t5
     rw[e3,ownB_nil,List.append_nil]
     simp only[eG,go_sem,thq S,nbr S,zN0,zN1,zN2,zN3,zN4,zI0,zI1,zI2,zI3,reduceCtorEq,o11_53 S,sw_t,sw_s,dl_nil,dl_cons,rep1',nc2,app_endD,l16,l16',l1n,Option.map_some,Nat.zero_add,Nat.one_mul,Nat.zero_mul,and_self,true_and,show(0:Nat)<1 by decide,t2,t3,t5,c_reti_Can S,hret,deep_sr,Nat.one_ne_zero,Nat.le_refl]
     rfl
    ·rw [ownA_ne z3] at t5
     rw[ownB_ne z3]
     have k1:(r3.length+1)*16<=limA:=by unfold limA;omega
     have k2:r3.length+1<=limA:=by unfold limA;omega
     have hd:deep [.cells ((rowC (r3++[(⟨4,0⟩:Dir)])).map .d) 0 false] 8 (.sref 0 0 0 (r3.length+1) 2 none)=some (.lst (rowC (r3++[(⟨4,0⟩:Dir)])) (r3++[(⟨4,0⟩:Dir)]).length none,[0]):=deep_alone _ (by simp) _ (by simp) 6 2 none rfl
     simp only[eG,go_sem,thq S,nbr S,zN0,zN1,zN2,zN3,zN4,zI0,zI1,zI2,zI3,reduceCtorEq,o11_53 S,sw_t,sw_s,dl_nil,dl_cons,rep1',nc2,app_endD,l16,l16',l1n,Option.map_some,Nat.zero_add,Nat.one_mul,Nat.zero_mul,and_self,true_and,show(0:Nat)<1 by decide,t2,t3,t5,c_reti_Can S,hret,k1,k2,hd]
     rfl
  ·rw [ownA_ne z2] at t5
   rw[ownB_ne z2]
   simp only[ownA_ne z2,ownB_ne z2] at next3
   simp only[eG,go_sem,thq S,nbr S,zN0,zN1,zN2,zN3,zN4,zI0,zI1,zI2,zI3,reduceCtorEq,o11_53 S,t2,t3,t5]
   rw[big_eq,loop_in (on S _ _ [2,3,5,39,40] (by decide) rfl) rfl _ _ _ _ _ _ _ _ _ rfl]
   simp only[eG,go_sem,thq S,nbr S,zN0,zN1,zN2,zN3,zN4,zI0,zI1,zI2,zI3,reduceCtorEq,o11_53 S,t2,t3,t5]
   refine next3 _ _ ?_
   clear t2 t3 t5 T
   intro T t2 t3 t5
   cases hret:Md.canRetire p c with
   | false=>
    by_cases z3:r3.length=0
    ·have e3 : r3 = [] := List.length_eq_zero_iff.1 z3
     rw[e3,ownA_nil] at t5
     rw[e3,ownB_nil,List.append_nil]
     simp only[eG,go_sem,thq S,nbr S,zN0,zN1,zN2,zN3,zN4,zI0,zI1,zI2,zI3,reduceCtorEq,o11_53 S,t2,t3,t5,c_reti_Can S,hret]
    ·rw [ownA_ne z3] at t5
     rw[ownB_ne z3]
     have hne:r3≠[]:=fun e=>z3 (by rw[e];rfl)
     have hd:deep [.cells ((rowC r3).map .d) 0 false] 8 (.sref 0 0 0 r3.length 2 none)=some (.lst (rowC r3) r3.length none,[0]):=deep_alone r3 hne _ rfl 6 2 none rfl
     simp only[eG,go_sem,thq S,nbr S,zN0,zN1,zN2,zN3,zN4,zI0,zI1,zI2,zI3,reduceCtorEq,o11_53 S,t2,t3,t5,c_reti_Can S,hret,hd]
     rfl
   | true=>
    by_cases z3:r3.length=0
    ·have e3 : r3 = [] := List.length_eq_zero_iff.1 z3
     rw[e3,ownA_nil] at t5
     rw[e3,ownB_nil,List.append_nil]
     simp only[eG,go_sem,thq S,nbr S,zN0,zN1,zN2,zN3,zN4,zI0,zI1,zI2,zI3,reduceCtorEq,o11_53 S,sw_t,sw_s,dl_nil,dl_cons,rep1',nc2,app_endD,l16,l16',l1n,Option.map_some,Nat.zero_add,Nat.one_mul,Nat.zero_mul,and_self,true_and,show(0:Nat)<1 by decide,t2,t3,t5,c_reti_Can S,hret,deep_sr,Nat.one_ne_zero,Nat.le_refl]
     rfl
    ·rw [ownA_ne z3] at t5
     rw[ownB_ne z3]
     have k1:(r3.length+1)*16<=limA:=by unfold limA;omega
     have k2:r3.length+1<=limA:=by unfold limA;omega
     have hd:deep [.cells ((rowC (r3++[(⟨4,0⟩:Dir)])).map .d) 0 false] 8 (.sref 0 0 0 (r3.length+1) 2 none)=some (.lst (rowC (r3++[(⟨4,0⟩:Dir)])) (r3++[(⟨4,0⟩:Dir)]).length none,[0]):=deep_alone _ (by simp) _ (by simp) 6 2 none rfl
     simp only[eG,go_sem,thq S,nbr S,zN0,zN1,zN2,zN3,zN4,zI0,zI1,zI2,zI3,reduceCtorEq,o11_53 S,sw_t,sw_s,dl_nil,dl_cons,rep1',nc2,app_endD,l16,l16',l1n,Option.map_some,Nat.zero_add,Nat.one_mul,Nat.zero_mul,and_self,true_and,show(0:Nat)<1 by decide,t2,t3,t5,c_reti_Can S,hret,k1,k2,hd]
     rfl
 ·rw [ownA_ne z1] at t5
  rw[ownB_ne z1]
  simp only[ownA_ne z1,ownB_ne z1] at next2
  simp only[eG,go_sem,thq S,nbr S,zN0,zN1,zN2,zN3,zN4,zI0,zI1,zI2,zI3,reduceCtorEq,o11_53 S,t2,t3,t5]
  rw[big_eq,loop_in (on S _ _ [2,3,5,23,24] (by decide) rfl) rfl _ _ _ _ _ _ _ _ _ rfl]
  simp only[eG,go_sem,thq S,nbr S,zN0,zN1,zN2,zN3,zN4,zI0,zI1,zI2,zI3,reduceCtorEq,o11_53 S,t2,t3,t5]
  refine next2 _ _ ?_
  clear t2 t3 t5 T
  intro T t2 t3 t5
  by_cases z2:r2.length=0
  ·have e2 : r2 = [] := List.length_eq_zero_iff.1 z2
   rw[e2,ownA_nil] at t5
   rw[e2,ownB_nil,List.append_nil]
   simp only[e2,ownA_nil,ownB_nil,List.append_nil] at next3
   simp only[eG,go_sem,thq S,nbr S,zN0,zN1,zN2,zN3,zN4,zI0,zI1,zI2,zI3,reduceCtorEq,o11_53 S,t2,t3,t5]
   rw[big_eq,loop_in (on S _ _ [2,3,5,39,40] (by decide) rfl) rfl _ _ _ _ _ _ _ _ _ rfl]
   simp only[eG,go_sem,thq S,nbr S,zN0,zN1,zN2,zN3,zN4,zI0,zI1,zI2,zI3,reduceCtorEq,o11_53 S,t2,t3,t5]
   refine next3 _ _ ?_
   clear t2 t3 t5 T
   intro T t2 t3 t5
   cases hret:Md.canRetire p c with
   | false=>
    by_cases z3:r3.length=0
    ·have e3 : r3 = [] := List.length_eq_zero_iff.1 z3
     rw[e3,ownA_nil] at t5
     rw[e3,ownB_nil,List.append_nil]
     simp only[eG,go_sem,thq S,nbr S,zN0,zN1,zN2,zN3,zN4,zI0,zI1,zI2,zI3,reduceCtorEq,o11_53 S,t2,t3,t5,c_reti_Can S,hret]
    ·rw [ownA_ne z3] at t5
     rw[ownB_ne z3]
     have hne:r3≠[]:=fun e=>z3 (by rw[e];rfl)
     have hd:deep [.cells ((rowC r3).map .d) 0 false] 8 (.sref 0 0 0 r3.length 2 none)=some (.lst (rowC r3) r3.length none,[0]):=deep_alone r3 hne _ rfl 6 2 none rfl
     simp only[eG,go_sem,thq S,nbr S,zN0,zN1,zN2,zN3,zN4,zI0,zI1,zI2,zI3,reduceCtorEq,o11_53 S,t2,t3,t5,c_reti_Can S,hret,hd]
     rfl
   | true=>
    by_cases z3:r3.length=0
    ·have e3 : r3 = [] := List.length_eq_zero_iff.1 z3
     rw[e3,ownA_nil] at t5
     rw[e3,ownB_nil,List.append_nil]
     simp only[eG,go_sem,thq S,nbr S,zN0,zN1,zN2,zN3,zN4,zI0,zI1,zI2,zI3,reduceCtorEq,o11_53 S,sw_t,sw_s,dl_nil,dl_cons,rep1',nc2,app_endD,l16,l16',l1n,Option.map_some,Nat.zero_add,Nat.one_mul,Nat.zero_mul,and_self,true_and,show(0:Nat)<1 by decide,t2,t3,t5,c_reti_Can S,hret,deep_sr,Nat.one_ne_zero,Nat.le_refl]
     rfl
    ·rw [ownA_ne z3] at t5
     rw[ownB_ne z3]
     have k1:(r3.length+1)*16<=limA:=by unfold limA;omega
     have k2:r3.length+1<=limA:=by unfold limA;omega
     have hd:deep [.cells ((rowC (r3++[(⟨4,0⟩:Dir)])).map .d) 0 false] 8 (.sref 0 0 0 (r3.length+1) 2 none)=some (.lst (rowC (r3++[(⟨4,0⟩:Dir)])) (r3++[(⟨4,0⟩:Dir)]).length none,[0]):=deep_alone _ (by simp) _ (by simp) 6 2 none rfl
     simp only[eG,go_sem,thq S,nbr S,zN0,zN1,zN2,zN3,zN4,zI0,zI1,zI2,zI3,reduceCtorEq,o11_53 S,sw_t,sw_s,dl_nil,dl_cons,rep1',nc2,app_endD,l16,l16',l1n,Option.map_some,Nat.zero_add,Nat.one_mul,Nat.zero_mul,and_self,true_and,show(0:Nat)<1 by decide,t2,t3,t5,c_reti_Can S,hret,k1,k2,hd]
     rfl
  ·rw [ownA_ne z2] at t5
   rw[ownB_ne z2]
   simp only[ownA_ne z2,ownB_ne z2] at next3
   simp only[eG,go_sem,thq S,nbr S,zN0,zN1,zN2,zN3,zN4,zI0,zI1,zI2,zI3,reduceCtorEq,o11_53 S,t2,t3,t5]
   rw[big_eq,loop_in (on S _ _ [2,3,5,39,40] (by decide) rfl) rfl _ _ _ _ _ _ _ _ _ rfl]
   simp only[eG,go_sem,thq S,nbr S,zN0,zN1,zN2,zN3,zN4,zI0,zI1,zI2,zI3,reduceCtorEq,o11_53 S,t2,t3,t5]
   refine next3 _ _ ?_
   clear t2 t3 t5 T
   intro T t2 t3 t5
   cases hret:Md.canRetire p c with
   | false=>
    by_cases z3:r3.length=0
    ·have e3 : r3 = [] := List.length_eq_zero_iff.1 z3
     rw[e3,ownA_nil] at t5
     rw[e3,ownB_nil,List.append_nil]
     simp only[eG,go_sem,thq S,nbr S,zN0,zN1,zN2,zN3,zN4,zI0,zI1,zI2,zI3,reduceCtorEq,o11_53 S,t2,t3,t5,c_reti_Can S,hret]
    ·rw [ownA_ne z3] at t5
     rw[ownB_ne z3]
     have hne:r3≠[]:=fun e=>z3 (by rw[e];rfl)
     have hd:deep [.cells ((rowC r3).map .d) 0 false] 8 (.sref 0 0 0 r3.length 2 none)=some (.lst (rowC r3) r3.length none,[0]):=deep_alone r3 hne _ rfl 6 2 none rfl
     simp only[eG,go_sem,thq S,nbr S,zN0,zN1,zN2,zN3,zN4,zI0,zI1,zI2,zI3,reduceCtorEq,o11_53 S,t2,t3,t5,c_reti_Can S,hret,hd]
     rfl
   | true=>
    by_cases z3:r3.length=0
    ·have e3 : r3 = [] := List.length_eq_zero_iff.1 z3
     rw[e3,ownA_nil] at t5
     rw[e3,ownB_nil,List.append_nil]
     simp only[eG,go_sem,thq S,nbr S,zN0,zN1,zN2,zN3,zN4,zI0,zI1,zI2,zI3,reduceCtorEq,o11_53 S,sw_t,sw_s,dl_nil,dl_cons,rep1',nc2,app_endD,l16,l16',l1n,Option.map_some,Nat.zero_add,Nat.one_mul,Nat.zero_mul,and_self,true_and,show(0:Nat)<1 by decide,t2,t3,t5,c_reti_Can S,hret,deep_sr,Nat.one_ne_zero,Nat.le_refl]
     rfl
    ·rw [ownA_ne z3] at t5
     rw[ownB_ne z3]
     have k1:(r3.length+1)*16<=limA:=by unfold limA;omega
     have k2:r3.length+1<=limA:=by unfold limA;omega
     have hd:deep [.cells ((rowC (r3++[(⟨4,0⟩:Dir)])).map .d) 0 false] 8 (.sref 0 0 0 (r3.length+1) 2 none)=some (.lst (rowC (r3++[(⟨4,0⟩:Dir)])) (r3++[(⟨4,0⟩:Dir)]).length none,[0]):=deep_alone _ (by simp) _ (by simp) 6 2 none rfl
     simp only[eG,go_sem,thq S,nbr S,zN0,zN1,zN2,zN3,zN4,zI0,zI1,zI2,zI3,reduceCtorEq,o11_53 S,sw_t,sw_s,dl_nil,dl_cons,rep1',nc2,app_endD,l16,l16',l1n,Option.map_some,Nat.zero_add,Nat.one_mul,Nat.zero_mul,and_self,true_and,show(0:Nat)<1 by decide,t2,t3,t5,c_reti_Can S,hret,k1,k2,hd]
     rfl
theorem c_dirs_All (dp:Nat)(p_w p_wn p_fu p_r0 p_r1 p_r2 p_r3:Int)(p_ms:List MemT)(p_ls:List Label)(p_is:List Ins)(c_r0 c_r1 c_r2 c_r3:Int)(c_mm c_st:List Int)(c_pc:Int)(c_bf:List Ent)(c_rb:List Int)(c_en:Int)(hi:(⟨p_w,p_wn,p_fu,⟨p_r0,p_r1,p_r2,p_r3⟩,p_ms,p_ls,p_is⟩:Prog).ins.length<1073741824)(hm:(⟨p_w,p_wn,p_fu,⟨p_r0,p_r1,p_r2,p_r3⟩,p_ms,p_ls,p_is⟩:Prog).mems.length<1073741824)(hb:(⟨⟨⟨c_r0,c_r1,c_r2,c_r3⟩,c_mm,c_st,c_pc⟩,c_bf,c_rb,c_en⟩:Conf).buf.length<1073741824)(A:List Blk)(nb:Nat):evOwnK false E (evC E fn (dp+10)) 11 A nb (some ([.agg [vi p_w,vi p_wn,vi p_fu,vi p_r0,vi p_r1,vi p_r2,vi p_r3,rowD p_ms,rowD p_ls,rowD p_is],.agg [vi c_r0,vi c_r1,vi c_r2,vi c_r3,rowD c_mm,rowD c_st,vi c_pc,rowD c_bf,rowD c_rb,vi c_en]],[]))=some (.made (.d (rowD (Md.all (cellsI (⟨p_w,p_wn,p_fu,⟨p_r0,p_r1,p_r2,p_r3⟩,p_ms,p_ls,p_is⟩:Prog).mems) (⟨p_w,p_wn,p_fu,⟨p_r0,p_r1,p_r2,p_r3⟩,p_ms,p_ls,p_is⟩:Prog) (⟨⟨⟨c_r0,c_r1,c_r2,c_r3⟩,c_mm,c_st,c_pc⟩,c_bf,c_rb,c_en⟩:Conf)))) []):=
 Says.deep (raw_dirs_All S dp (⟨p_w,p_wn,p_fu,⟨p_r0,p_r1,p_r2,p_r3⟩,p_ms,p_ls,p_is⟩:Prog) (⟨⟨⟨c_r0,c_r1,c_r2,c_r3⟩,c_mm,c_st,c_pc⟩,c_bf,c_rb,c_en⟩:Conf) hi hm hb) (np S 11 (by decide)) A nb
end
section
variable (S:Sur E fn)
include S
theorem raw_retb_Push (dp:Nat)(l:List Int)(x:Int)(hl:l.length<1073741823):Says E fn (dp+1) 126 [rowD l,vi x] (rowD (Md.push l x)):=by
 unfold Says
 show ansOf (evC E fn (dp+1) 126 [.d (rowD l),.d (vi x)] [])=_
 rw[evC_succ,S.f_retb_Push,apF_some,F_retb_Push,mkF_run _ _ _ _ _ _ _ _ rfl]
 have hl2:l.length<1073741824:=by omega
 have hpl:(Md.push l x).length<1073741824:=by unfold Md.push;rw[List.length_drop,List.length_append,List.length_singleton];omega
 by_cases h0:l.length=0
 ·have hl0 : l = [] := List.length_eq_zero_iff.1 h0
  have oa:∀ i,ownA i l=.d (.lst [] 0 (some 0)):=fun i=>own0A h0 i
  have ob:ownB l=[]:=own0B h0
  have bd:=bndsV_lo 1 .i64 0 (by omega) (by omega)
  have oc:=fun(A:List Blk) (nb:Nat) (us:List Nat)=>o_cloneI S (l:=[x]) (by simp) (evC E fn dp) A nb us
  have e1:∀ nb,ownA nb [x]=.sref nb 0 0 1 1 none:=fun _=>rfl
  have e2:ownB [x]=[.cells [.d (vi x)] 0 false]:=rfl
  have e3:rowD [x]=.lst [vi x] 1 none:=rfl
  simp only[e1,e2,e3] at oc
  have hp:Md.push l x=[x]:=by rw[hl0];rfl
  rw[hp]
  simp only[eG,go_sem,thq S,nbr S,Nat.reduceLT,Nat.reduceEqDiff,Nat.reduceAdd,Nat.reduceMul,Nat.reduceLeDiff,Int.reduceEq,Int.reduceLT,Int.reduceLE,Int.reduceNeg,reduceCtorEq,o_cloneI S hl2,oa,ob,sw_t,sw_s,dl_nil,dl_cons,rep1',nc1,app_fresh0',Option.map_some,show(1:Nat)*8<=limA by decide,show(1:Nat)<=limA by decide,Int.natCast_one,show IntKind.i64.wrap (-1)= -1 by decide,show max (-1:Int) 0=0 by decide,bd,Int.toNat_zero,oc,ne_eq,Nat.one_ne_zero,not_false_eq_true,Int.reduceSub,Nat.zero_mul,Nat.sub_zero,Nat.one_mul,deep_sr,Nat.le_refl,false_and,and_false,Nat.add_zero,Option.map_none]
  rfl
 ·have l4 : (l.length + 1) * 8 <= limA := by unfold limA; omega
  have l5:l.length+1<=limA:=by unfold limA;omega
  have w1:max (IntKind.i64.wrap (((l.length+1:Nat):Int)-2)) 0=((l.length-1:Nat):Int):=by rw[wrap_i64 (by omega) (by omega)];omega
  have bd:=bndsV_lo (l.length+1) .i64 ((l.length-1:Nat):Int) (by omega) (by omega)
  have n1:¬(l.length-1=l.length+1):=by omega
  have e1:(l++[x]).take (l.length-1)++(Md.push l x++[])=l++[x]:=by rw[List.append_nil];exact List.take_append_drop _ _
  have e2:l.length+1-(l.length-1)=(Md.push l x).length:=by simp[Md.push]
  have hd:∀ n v,deep [.cells ((rowC (l++[x])).map .d) v false] (n+2) (.sref 0 v (l.length-1) (l.length+1-(l.length-1)) 1 none)=some (.lst (rowC (Md.push l x)) (Md.push l x).length none,[0]):=by
   intro n v
   rw[e2]
   refine deep_pre (pre:=(l++[x]).take (l.length-1)) (junk:=[]) (ro:=false) (by rw[e1];rfl) ?_ n _ _ _ _ rfl ?_ ?_
   ·intro h
    have:=congrArg List.length h
    simp[Md.push] at this
    omega
   ·simp[n_int];omega
   ·simp[Md.push]
  have hne:Md.push l x≠[]:=fun h=>by
   have:=congrArg List.length h
   unfold Md.push at this
   rw[List.length_drop,List.length_append,List.length_singleton,List.length_nil] at this
   omega
  have hln:(Md.push l x).length≠0:=fun h=>hne (List.length_eq_zero_iff.1 h)
  simp only[eG,go_sem,thq S,nbr S,Nat.reduceLT,Nat.reduceEqDiff,Nat.reduceAdd,Nat.reduceMul,Nat.reduceLeDiff,Int.reduceEq,Int.reduceLT,Int.reduceLE,Int.reduceNeg,reduceCtorEq,o_cloneI S hl2,ownA_ne h0,ownB_ne h0,sw_t,sw_s,dl_nil,dl_cons,rep1',nc1,app_endI,l4,l5,w1,bd,Int.toNat_natCast,n1,false_and,Nat.mul_one,Nat.zero_add,Option.map_some,Option.map_none,hd,w_fold,o_cloneI S hpl,ownA_ne hln,ownB_ne hln]
  rw[deep_alone _ hne _ rfl 6 1 none rfl]
  rfl
theorem c_retb_Push (dp:Nat)(l:List Int)(x:Int)(hl:l.length<1073741823)(A:List Blk)(nb:Nat):evOwnK false E (evC E fn (dp+1)) 126 A nb (some ([rowD l,vi x],[]))=some (.made (.d (rowD (Md.push l x))) []):=
 Says.deep (raw_retb_Push S dp l x hl) (np S 126 (by decide)) A nb
end
def noRoom (o:Option (List Int)):Bool:=match o with | none=>true | some l=>decide (4<=l.length)
variable {E:Env} {fn:FuncId->Option (Env->CallT->CallT)}
section
variable (S:Sur E fn)
include S
theorem o109_54:E.lives 109 11=none:=off S 109 11 (by decide) rfl
theorem o77_54:E.lives 77 13=none/\E.lives 77 15=none/\E.lives 77 19=none/\E.lives 77 23=none/\E.lives 77 27=none/\E.lives 77 33=none/\E.lives 77 37=none/\E.lives 77 39=none:=⟨off S 77 13 (by decide) rfl,off S 77 15 (by decide) rfl,off S 77 19 (by decide) rfl,off S 77 23 (by decide) rfl,off S 77 27 (by decide) rfl,off S 77 33 (by decide) rfl,off S 77 37 (by decide) rfl,off S 77 39 (by decide) rfl⟩
theorem call_go (dp:Nat)(p:Prog)(r0 r1 r2 r3 pc en:Int)(mm sk rb:List Int)(bf:List Ent)(e1 e2 e3 e4 e5:Int)(e6 e7 e8:Bool)(hs:sk.length<1073741824)(hb:bf.length<1073741824)(hr:rb.length<1073741823):
  evC E fn (dp+4) 108 [.agg [.d (vi p.w),.d (vi p.window),.d (vi p.fuel),.d (vi p.regs.r0),.d (vi p.regs.r1),.d (vi p.regs.r2),.d (vi p.regs.r3),.d (rowD p.mems),.d (rowD p.labels),.d (rowD p.ins)],.ref 0 0 0,.agg [.d (vi e1),.d (vi e2),.d (vi e3),.d (vi e4),.d (vi e5),.d (vb e6),.d (vb e7),.d (vb e8)]] [.cells [.d (vi r0),.d (vi r1),.d (vi r2),.d (vi r3),.d (rowD mm),.d (rowD sk),.d (vi pc),.d (rowD bf),.d (rowD rb),.d (vi en)] 0 false]=
  some (.agg [.d (vi e1),.d (vi e2),.d (vi e3),.d (vi e4),.d (vi e5),.d (vb true),.d (vb e7),.d (vb (noRoom (Md.real p sk bf bf.length)))],[.cells [.d (vi r0),.d (vi r1),.d (vi r2),.d (vi r3),.d (rowD mm),.d (rowD sk),.d (vi pc),.d (rowD bf),.d (rowD (Md.push rb (Md.w64 (e1+1)))),.d (vi en)] 0 false]):=by
 rw[evC_succ,S.f_fetc_call,apF_some,F_fetc_call,mkF_run _ _ _ _ _ _ _ _ rfl]
 cases hreal:Md.real p sk bf bf.length with
 | none=>simp only[go_sem,thq S,nbr S,zN0,zN1,zN2,zN3,zN4,zI0,zI1,zI2,zI3,reduceCtorEq,end_b,sp_lt,spN_some,rH_N,rB_cells,List.take_succ_cons,List.take_zero,sw_t,sw_s,dl_nil,dl_cons,rep1',Option.map_some,c_retb_Real S,c_retb_Push S,hs,hb,hr,hreal,getO,boolO,noRoom,Md.w64,Bool.not_true,Bool.not_false]
 | some l=>
  have hr4:decide ((l.length:Int)>=4)=decide (4<=l.length):=decide_eq_decide.2 (by omega)
  simp only[go_sem,thq S,nbr S,zN0,zN1,zN2,zN3,zN4,zI0,zI1,zI2,zI3,reduceCtorEq,hr4,end_b,sp_lt,spN_some,rH_N,rB_cells,List.take_succ_cons,List.take_zero,sw_t,sw_s,dl_nil,dl_cons,rep1',Option.map_some,c_retb_Real S,c_retb_Push S,hs,hb,hr,hreal,getO,boolO,noRoom,Md.w64,Bool.not_true,Bool.not_false]
theorem ret_go (dp:Nat)(r0 r1 r2 r3 pc en g:Int)(mm sk rb:List Int)(bf:List Ent)(e1 e2 e3 e4 e5:Int)(e6 e7 e8:Bool)(hr:rb.length<1073741824):
  evC E fn (dp+2) 109 [.ref 0 0 0,.agg [.d (vi e1),.d (vi e2),.d (vi e3),.d (vi e4),.d (vi e5),.d (vb e6),.d (vb e7),.d (vb e8)],.d (vi g)] [.cells [.d (vi r0),.d (vi r1),.d (vi r2),.d (vi r3),.d (rowD mm),.d (rowD sk),.d (vi pc),.d (rowD bf),.d (rowD rb),.d (vi en)] 0 false]=
  some (.agg [.d (vi e1),.d (vi e2),.d (vi e3),.d (vi e4),.d (vi (if rb.length=0 then g else Md.lastI rb)),.d (vb e6),.d (vb e7),.d (vb e8)],[.cells [.d (vi r0),.d (vi r1),.d (vi r2),.d (vi r3),.d (rowD mm),.d (rowD sk),.d (vi pc),.d (rowD bf),.d (rowD (if rb.length=0 then rb else rb.dropLast)),.d (vi en)] 0 false]):=by
 rw[evC_succ,S.f_fetc_ret,apF_some,F_fetc_ret,mkF_run _ _ _ _ _ _ _ _ rfl]
 by_cases h:rb.length=0
 ·simp only[go_sem,thq S,nbr S,zN0,zN1,zN2,zN3,zN4,zI0,zI1,zI2,zI3,reduceCtorEq,o109_54 S,end_b,sp_lt,spN_some,rH_N,rB_cells,List.take_succ_cons,List.take_zero,sw_t,sw_s,dl_nil,dl_cons,rep1',Option.map_some,c_retb_Pop S,hr,h,ne_eq,not_true_eq_false,not_false_eq_true]
 ·simp only[go_sem,thq S,nbr S,zN0,zN1,zN2,zN3,zN4,zI0,zI1,zI2,zI3,reduceCtorEq,o109_54 S,end_b,sp_lt,spN_some,rH_N,rB_cells,List.take_succ_cons,List.take_zero,sw_t,sw_s,dl_nil,dl_cons,rep1',Option.map_some,c_retb_Pop S,hr,h,ne_eq,not_true_eq_false,not_false_eq_true]
theorem entry_go (dp:Nat)(p:Prog)(c:Conf)(g:Int)(hs:c.state.stack.length<1073741824)(hb:c.buf.length<1073741824)(hr:c.rsb.length<1073741823):
  evC E fn (dp+5) 77 [.agg [.d (vi p.w),.d (vi p.window),.d (vi p.fuel),.d (vi p.regs.r0),.d (vi p.regs.r1),.d (vi p.regs.r2),.d (vi p.regs.r3),.d (rowD p.mems),.d (rowD p.labels),.d (rowD p.ins)],.ref 0 0 0,.d (vi g)] [.cells ((confC c).map .d) 0 false]=
  some (.agg ((Cl.cells (Md.entry p c g).1).map .d),[.cells ((confC { c with rsb:=(Md.entry p c g).2 }).map .d) 0 false]):=by
 have hr':c.rsb.length<1073741824:=by omega
 rw[evC_succ,S.f_fetc_entry,apF_some,F_fetc_entry,mkF_run _ _ _ _ _ _ _ _ rfl]
 by_cases k5:(Md.at_ p c.state.pc).kind=5
 ·by_cases hg : g = 1
  ·simp only[go_sem,thq S,nbr S,zN0,zN1,zN2,zN3,zN4,zI0,zI1,zI2,zI3,reduceCtorEq,o77_54 S,end_b,sp_lt,spN_some,rH_N,rB_cells,List.take_succ_cons,List.take_zero,sw_t,sw_s,dl_nil,dl_cons,rep1',Option.map_some,c_seqm_At S,Md.entry,Md.w64,zI0,if_true,if_false,or_self,true_or,or_true,k5,hg]
  ·simp only[go_sem,thq S,nbr S,zN0,zN1,zN2,zN3,zN4,zI0,zI1,zI2,zI3,reduceCtorEq,o77_54 S,end_b,sp_lt,spN_some,rH_N,rB_cells,List.take_succ_cons,List.take_zero,sw_t,sw_s,dl_nil,dl_cons,rep1',Option.map_some,c_seqm_At S,Md.entry,Md.w64,zI0,if_true,if_false,or_self,true_or,or_true,k5,hg]
 by_cases k6:(Md.at_ p c.state.pc).kind=6
 ·simp only[go_sem,thq S,nbr S,zN0,zN1,zN2,zN3,zN4,zI0,zI1,zI2,zI3,reduceCtorEq,o77_54 S,end_b,sp_lt,spN_some,rH_N,rB_cells,List.take_succ_cons,List.take_zero,sw_t,sw_s,dl_nil,dl_cons,rep1',Option.map_some,c_seqm_At S,Md.entry,Md.w64,zI0,if_true,if_false,or_self,true_or,or_true,k6]
 by_cases k7:(Md.at_ p c.state.pc).kind=7
 ·simp only[go_sem,thq S,nbr S,zN0,zN1,zN2,zN3,zN4,zI0,zI1,zI2,zI3,reduceCtorEq,o77_54 S,end_b,sp_lt,spN_some,rH_N,rB_cells,List.take_succ_cons,List.take_zero,sw_t,sw_s,dl_nil,dl_cons,rep1',Option.map_some,c_seqm_At S,Md.entry,Md.w64,zI0,if_true,if_false,or_self,true_or,or_true,k7]
 by_cases k8:(Md.at_ p c.state.pc).kind=8
 ·simp only [go_sem, thq S, nbr S, zN0, zN1, zN2, zN3, zN4, zI0, zI1, zI2, zI3, reduceCtorEq, o77_54 S, end_b, sp_lt, spN_some, rH_N, rB_cells, List.take_succ_cons, List.take_zero, sw_t, sw_s, dl_nil, dl_cons, rep1', Option.map_some, c_seqm_At S, Md.entry, Md.w64, zI0, if_true, if_false, or_self, true_or, or_true, o_callB, br_go, br_back, br_backB, br_backI, ver_some, ver_nil, ver_cons, ok_nil, ok_cons, un_d, un_agg, un_tup, un_sref, unS_some, unS_none, un_map, unB_cells, put_nil, put_cons, map_iteB, List.drop_succ_cons, List.drop_zero, List.getD_cons_zero, List.getD_cons_succ, show Nat.ble 1 1 = true from rfl, nbr S, k8, call_go S, hs, hb, hr, noRoom]
  rfl
 by_cases k9:(Md.at_ p c.state.pc).kind=9
 ·by_cases hz : c.rsb.length = 0
  ·simp only[go_sem,thq S,nbr S,zN0,zN1,zN2,zN3,zN4,zI0,zI1,zI2,zI3,reduceCtorEq,o77_54 S,end_b,sp_lt,spN_some,rH_N,rB_cells,List.take_succ_cons,List.take_zero,sw_t,sw_s,dl_nil,dl_cons,rep1',Option.map_some,c_seqm_At S,Md.entry,Md.w64,zI0,if_true,if_false,or_self,true_or,or_true,o_callB,br_go,br_back,br_backB,br_backI,ver_some,ver_nil,ver_cons,ok_nil,ok_cons,un_d,un_agg,un_tup,un_sref,unS_some,unS_none,un_map,unB_cells,put_nil,put_cons,map_iteB,List.drop_succ_cons,List.drop_zero,List.getD_cons_zero,List.getD_cons_succ,show Nat.ble 1 1=true from rfl,nbr S,k9,ret_go S,hr',hz]
  ·simp only[go_sem,thq S,nbr S,zN0,zN1,zN2,zN3,zN4,zI0,zI1,zI2,zI3,reduceCtorEq,o77_54 S,end_b,sp_lt,spN_some,rH_N,rB_cells,List.take_succ_cons,List.take_zero,sw_t,sw_s,dl_nil,dl_cons,rep1',Option.map_some,c_seqm_At S,Md.entry,Md.w64,zI0,if_true,if_false,or_self,true_or,or_true,o_callB,br_go,br_back,br_backB,br_backI,ver_some,ver_nil,ver_cons,ok_nil,ok_cons,un_d,un_agg,un_tup,un_sref,unS_some,unS_none,un_map,unB_cells,put_nil,put_cons,map_iteB,List.drop_succ_cons,List.drop_zero,List.getD_cons_zero,List.getD_cons_succ,show Nat.ble 1 1=true from rfl,nbr S,k9,ret_go S,hr',hz]
 by_cases k11:(Md.at_ p c.state.pc).kind=11
 ·simp only[go_sem,thq S,nbr S,zN0,zN1,zN2,zN3,zN4,zI0,zI1,zI2,zI3,reduceCtorEq,o77_54 S,end_b,sp_lt,spN_some,rH_N,rB_cells,List.take_succ_cons,List.take_zero,sw_t,sw_s,dl_nil,dl_cons,rep1',Option.map_some,c_seqm_At S,Md.entry,Md.w64,zI0,if_true,if_false,or_self,true_or,or_true,k11]
 by_cases k12:(Md.at_ p c.state.pc).kind=12
 ·simp only[go_sem,thq S,nbr S,zN0,zN1,zN2,zN3,zN4,zI0,zI1,zI2,zI3,reduceCtorEq,o77_54 S,end_b,sp_lt,spN_some,rH_N,rB_cells,List.take_succ_cons,List.take_zero,sw_t,sw_s,dl_nil,dl_cons,rep1',Option.map_some,c_seqm_At S,Md.entry,Md.w64,zI0,if_true,if_false,or_self,true_or,or_true,k12]
 ·simp only[go_sem,thq S,nbr S,zN0,zN1,zN2,zN3,zN4,zI0,zI1,zI2,zI3,reduceCtorEq,o77_54 S,end_b,sp_lt,spN_some,rH_N,rB_cells,List.take_succ_cons,List.take_zero,sw_t,sw_s,dl_nil,dl_cons,rep1',Option.map_some,c_seqm_At S,Md.entry,Md.w64,zI0,if_true,if_false,or_self,true_or,or_true,k5,k6,k7,k8,k9,k11,k12]
end
section
variable (S:Sur E fn)
include S
theorem o38_55:E.lives 38 7=none:=off S 38 7 (by decide) rfl
theorem raw_fetc_Fetch (dp:Nat)(p:Prog)(c:Conf)(g:Int)(hi:p.ins.length<1073741824)(hb:c.buf.length<1073741823)(hm:c.state.mem.length<1073741824)(hs:c.state.stack.length<1073741824)(hr:c.rsb.length<1073741823):Says E fn (dp+6) 38 [progD p,confD c,vi g] (.tup [confD (fetchC p c g),vb (Md.canFetch p c g)]):=by
 unfold Says
 show ansOf (evC E fn (dp+5+1) 38 [.d (progD p),.d (confD c),.d (vi g)] [])=_
 rw[evC_succ,S.f_fetc_Fetch,apF_some,F_fetc_Fetch,mkF_run _ _ _ _ _ _ _ _ rfl]
 have hb':c.buf.length<1073741824:=by omega
 have hr':c.rsb.length<1073741824:=by omega
 by_cases g0:g<0
 ·simp only[eG,go_sem,thq S,nbr S,Nat.reduceLT,Nat.reduceEqDiff,Nat.reduceAdd,Nat.reduceMul,Nat.reduceLeDiff,Int.reduceEq,Int.reduceLT,Int.reduceLE,Int.reduceNeg,reduceCtorEq,o38_55 S,g0,fetchC,Md.canFetch,show ¬0<=g by omega,Md.conf0]
 by_cases g1:g>=Md.guesses p c
 ·simp only[eG,go_sem,thq S,nbr S,Nat.reduceLT,Nat.reduceEqDiff,Nat.reduceAdd,Nat.reduceMul,Nat.reduceLeDiff,Int.reduceEq,Int.reduceLT,Int.reduceLE,Int.reduceNeg,reduceCtorEq,o38_55 S,g0,g1,fetchC,Md.canFetch,show ¬g<Md.guesses p c by omega,Md.conf0,c_fetc_Guesses S,hi]
 have hc:Md.canFetch p c g=true:=by simp[Md.canFetch];omega
 have hw:¬(c.buf.length:Int)>=p.window:=by
  have:¬Md.guesses p c<=0:=by omega
  intro h
  apply this
  unfold Md.guesses
  rw[if_pos (.inr (.inr h))]
  exact Int.le_refl 0
 unfold fetchC
 rw[hc,cond_true]
 unfold Md.fetch
 have eg:=entry_go S dp p c g hs hb' hr
 generalize (Md.entry p c g).1=e at eg ⊢
 generalize (Md.entry p c g).2=rb at eg ⊢
 have hp:pushE c.buf e p.window=c.buf++[e]:=by unfold pushE;rw[if_neg hw]
 simp only[confC,stateC,regsC,cl_ent,List.map_cons,List.map_nil,List.cons_append,List.nil_append,List.map_append] at eg
 simp only[eG,go_sem,thq S,nbr S,Nat.reduceLT,Nat.reduceEqDiff,Nat.reduceAdd,Nat.reduceMul,Nat.reduceLeDiff,Int.reduceEq,Int.reduceLT,Int.reduceLE,Int.reduceNeg,reduceCtorEq,o38_55 S,end_b,sp_lt,spN_some,rH_N,rB_cells,List.take_succ_cons,List.take_zero,sw_t,sw_s,dl_nil,dl_cons,rep1',Option.map_some,o_callB,br_go,br_back,br_backB,br_backI,ver_some,ver_nil,ver_cons,ok_nil,ok_cons,un_d,un_agg,un_tup,un_sref,unS_some,unS_none,un_map,unB_cells,put_nil,put_cons,map_iteB,List.drop_succ_cons,List.drop_zero,List.getD_cons_zero,List.getD_cons_succ,show Nat.ble 1 1=true from rfl,nbr S,g0,g1,c_fetc_Guesses S,hi,c_conf_Still S,hm,hs,hb,hb',hr',eg,c_robq_Push S,hp]
end
end Go.Aug.Mc
