import Derived.Test.YtikiagojnilhiaaGreatMc29
import Derived.Test.YtikiagojnilhiaaGreatMc24
import Derived.Test.YtikiagojnilhiaaGreatMc12
import Derived.Test.YtikiagojnilhiaaGreatMc50
namespace Go.Aug.Mc
open Go Go.Aug
open Nat renaming reduceLT -> zN0, reduceEqDiff -> zN1, reduceAdd -> zN2, reduceMul -> zN3, reduceLeDiff -> zN4
open Int renaming reduceEq -> zI0, reduceLT -> zI1, reduceLE -> zI2, reduceNeg -> zI3
set_option linter.unusedSimpArgs false
set_option linter.unusedVariables false
set_option maxHeartbeats 40000000
set_option maxRecDepth 200000
theorem app_endD {A:List Blk}{bytes j v:Nat}{out:List Dir}{a b:Int}(hA:A[j]? =some (.cells ((rowC out).map .d) v false))(h1:(out.length+1)*bytes<=limA)(h2:out.length+1<=limA):
  evApp A 2 bytes (.sref j v 0 out.length 2 none) [.d (vi a),.d (vi b)] 1=some (.turn j (.cells ((rowC (out++[⟨a,b⟩])).map .d) (v+1) false) (.sref j (v+1) 0 (out.length+1) 2 none)):=
 app_end (x:=(⟨a,b⟩:Dir)) hA rfl (by decide) rfl h1 h2
theorem nc2 (A:List Blk)(x y:DV)(k:Option Nat):newCells A false 2 (.d (.lst [x,y] 1 k))=some ([.d x,.d y],1):=rfl
theorem l16:(1:Nat)*16<=limA:=by decide
theorem l16':(16:Nat)<=limA:=by decide
theorem l1n:(1:Nat)<=limA:=by decide
theorem ne_app {α:Type}(o:List α)(x:α):(o++[x]).length≠0:=by simp
theorem range_map (n:Int):(List.range' 0 n.toNat)=List.range n.toNat:=by rw[List.range_eq_range']
variable {E:Env} {fn:FuncId->Option (Env->CallT->CallT)}
section
variable (S:Sur E fn)
include S
theorem o17_34:E.lives 17 1=none/\E.lives 17 23=none/\E.lives 17 33=none/\E.lives 17 37=none:=⟨off S 17 1 (by decide) rfl,off S 17 23 (by decide) rfl,off S 17 33 (by decide) rfl,off S 17 37 (by decide) rfl⟩
theorem all1 (dp:Nat)(p:Prog)(c:Conf)(hi:p.ins.length<1073741824)(hg:Md.guesses p c<2147483648)(kx:Nat->K)(D:DV)(r:List Dir)
  (hx:∀ T,getS .bot T 2=.ref 0 0 0->getS .bot T 3=.ref 1 0 0->getS .bot T 5=ownA 2 r->ansOf (kx 0 (mk .bot 61 T) ([.cells ((progC p).map .d) 0 false,.cells ((confC c).map .d) 0 false]++ownB r))=some D):
  ∀(m k f:Nat) (o:List Dir),((k+m:Nat):Int)=max (Md.guesses p c) k->m<=f->o.length<8589934592->o.length+m<8589934592->o++(List.range' k m).map (fun n:Nat=>(⟨1,(n:Int)⟩:Dir))=r->
  ansOf (B8_r9_All (inn E 17) (evC E fn (dp+2)) (loopK 8 B8_r9_All (inn E 17) (evC E fn (dp+2)) kx (kEnd 0 [.tmp 4]) f) kx (kEnd 0 [.tmp 4]) (mk .bot 61 [(2,.ref 0 0 0),(3,.ref 1 0 0),(5,ownA 2 o),(6,aint k)]) ([.cells ((progC p).map .d) 0 false,.cells ((confC c).map .d) 0 false]++ownB o))=some D:=by
 intro m
 induction m with
 | zero=>
  intro k f o hk _ _ _ hr
  have hr:o=r:=by simpa using hr
  subst hr
  generalize loopK 8 B8_r9_All _ _ kx _ f=KK
  first | (conv=>lhs;rw[B8_r9_All]) | rw[B8_r9_All]
  by_cases h0:o.length=0
  ·have : o = [] := List.length_eq_zero_iff.1 h0
   subst this
   simp only[eG,go_sem,thq S,nbr S,zN0,zN1,zN2,zN3,zN4,zI0,zI1,zI2,zI3,reduceCtorEq,o17_34 S,ownA_nil,ownB_nil,c_r9_Guesses S,hi,show ¬(k:Int)<Md.guesses p c by omega]
   exact hx _ rfl rfl rfl
  ·rw [ownA_ne h0, ownB_ne h0] at *
   simp only[eG,go_sem,thq S,nbr S,zN0,zN1,zN2,zN3,zN4,zI0,zI1,zI2,zI3,reduceCtorEq,o17_34 S,c_r9_Guesses S,hi,show ¬(k:Int)<Md.guesses p c by omega]
   exact hx _ rfl rfl rfl
 | succ m ih=>
  intro k f o hk hf ho ho2 hr
  obtain⟨f,rfl⟩:∃ g,f=g+1:=⟨f-1,by omega⟩
  have hkg:(k:Int)<Md.guesses p c:=by omega
  have hr':(o++[(⟨1,(k:Int)⟩:Dir)])++(List.range' (k+1) m).map (fun n:Nat=>(⟨1,(n:Int)⟩:Dir))=r:=by
   rw[<-hr,List.range'_succ,List.map_cons,List.append_assoc];rfl
  have:=ih (k+1) f (o++[⟨1,(k:Int)⟩]) (by omega) (by omega) (by simp;omega) (by simp;omega) hr'
  rw[ownA_ne (ne_app _ _),ownB_ne (ne_app _ _)] at this
  generalize hK:loopK 8 B8_r9_All _ _ kx _ (f+1)=KK
  first | (conv=>lhs;rw[B8_r9_All]) | rw[B8_r9_All]
  by_cases h0:o.length=0
  ·have : o = [] := List.length_eq_zero_iff.1 h0
   subst this
   simp only[eG,go_sem,thq S,nbr S,zN0,zN1,zN2,zN3,zN4,zI0,zI1,zI2,zI3,reduceCtorEq,o17_34 S,sw_t,sw_s,dl_nil,dl_cons,rep1',nc2,app_endD,l16,l16',l1n,Option.map_some,Nat.zero_add,Nat.one_mul,Nat.zero_mul,and_self,true_and,wi k (by omega),show(0:Nat)<1 by decide,ownA_nil,ownB_nil,c_r9_Guesses S,hi,hkg]
   rw[<-hK,loop_in (on S _ _ [2,3,5,6] (by decide) rfl) rfl _ _ _ _ _ _ _ _ _ rfl]
   simp only[eG,go_sem,thq S,nbr S,zN0,zN1,zN2,zN3,zN4,zI0,zI1,zI2,zI3,reduceCtorEq,o17_34 S]
   exact this
  ·rw [ownA_ne h0, ownB_ne h0]
   have k1:(o.length+1)*16<=limA:=by unfold limA;omega
   have k2:o.length+1<=limA:=by unfold limA;omega
   simp only[eG,go_sem,thq S,nbr S,zN0,zN1,zN2,zN3,zN4,zI0,zI1,zI2,zI3,reduceCtorEq,o17_34 S,sw_t,sw_s,dl_nil,dl_cons,rep1',nc2,app_endD,l16,l16',l1n,Option.map_some,Nat.zero_add,Nat.one_mul,Nat.zero_mul,and_self,true_and,wi k (by omega),show(0:Nat)<1 by decide,c_r9_Guesses S,hi,hkg,k1,k2]
   rw[<-hK,loop_in (on S _ _ [2,3,5,6] (by decide) rfl) rfl _ _ _ _ _ _ _ _ _ rfl]
   simp only[eG,go_sem,thq S,nbr S,zN0,zN1,zN2,zN3,zN4,zI0,zI1,zI2,zI3,reduceCtorEq,o17_34 S]
   rw[List.length_append,List.length_singleton] at this
   exact this
theorem all2 (dp:Nat)(p:Prog)(c:Conf)(hb:c.buf.length<1073741824)(kx:Nat->K)(D:DV)(r:List Dir)
  (hx:∀ T,getS .bot T 2=.ref 0 0 0->getS .bot T 3=.ref 1 0 0->getS .bot T 5=ownA 2 r->ansOf (kx 2 (mk .bot 61 T) ([.cells ((progC p).map .d) 0 false,.cells ((confC c).map .d) 0 false]++ownB r))=some D):
  ∀(m k f:Nat) (o:List Dir),k+m=c.buf.length->m<=f->o.length<8589934592->o.length+m<8589934592->o++((List.range' k m).filter fun n:Nat=>Md.can (c.state.mem.length:Int) p c (n:Int)).map (fun n:Nat=>(⟨2,(n:Int)⟩:Dir))=r->
  ansOf (B16_r9_All (inn E 17) (evC E fn (dp+5)) (loopK 16 B16_r9_All (inn E 17) (evC E fn (dp+5)) kx (kEnd 0 [.tmp 4]) f) kx (kEnd 0 [.tmp 4]) (mk .bot 61 [(2,.ref 0 0 0),(3,.ref 1 0 0),(5,ownA 2 o),(7,aint k)]) ([.cells ((progC p).map .d) 0 false,.cells ((confC c).map .d) 0 false]++ownB o))=some D:=by
 intro m
 induction m with
 | zero=>
  intro k f o hk _ _ _ hr
  have hr:o=r:=by simpa using hr
  subst hr
  generalize loopK 16 B16_r9_All _ _ kx _ f=KK
  first | (conv=>lhs;rw[B16_r9_All]) | rw[B16_r9_All]
  by_cases h0:o.length=0
  ·have : o = [] := List.length_eq_zero_iff.1 h0
   subst this
   simp only[eG,go_sem,thq S,nbr S,zN0,zN1,zN2,zN3,zN4,zI0,zI1,zI2,zI3,reduceCtorEq,o17_34 S,ownA_nil,ownB_nil,show ¬(k:Int)<c.buf.length by omega]
   exact hx _ rfl rfl rfl
  ·rw [ownA_ne h0, ownB_ne h0] at *
   simp only[eG,go_sem,thq S,nbr S,zN0,zN1,zN2,zN3,zN4,zI0,zI1,zI2,zI3,reduceCtorEq,o17_34 S,show ¬(k:Int)<c.buf.length by omega]
   exact hx _ rfl rfl rfl
 | succ m ih=>
  intro k f o hk hf ho ho2 hr
  obtain⟨f,rfl⟩:∃ g,f=g+1:=⟨f-1,by omega⟩
  have hkg:(k:Int)<c.buf.length:=by omega
  cases hcan:Md.can (c.state.mem.length:Int) p c (k:Int) with
  | false=>
   have hr':o++((List.range' (k+1) m).filter fun n:Nat=>Md.can (c.state.mem.length:Int) p c (n:Int)).map (fun n:Nat=>(⟨2,(n:Int)⟩:Dir))=r:=by
    rw[<-hr,List.range'_succ,List.filter_cons,hcan];rfl
   have:=ih (k+1) f o (by omega) (by omega) ho (by omega) hr'
   generalize hK:loopK 16 B16_r9_All _ _ kx _ (f+1)=KK
   first | (conv=>lhs;rw[B16_r9_All]) | rw[B16_r9_All]
   by_cases h0:o.length=0
   ·have : o = [] := List.length_eq_zero_iff.1 h0
    subst this
    simp only[eG,go_sem,thq S,nbr S,zN0,zN1,zN2,zN3,zN4,zI0,zI1,zI2,zI3,reduceCtorEq,o17_34 S,sw_t,sw_s,dl_nil,dl_cons,rep1',nc2,app_endD,l16,l16',l1n,Option.map_some,Nat.zero_add,Nat.one_mul,Nat.zero_mul,and_self,true_and,wi k (by omega),show(0:Nat)<1 by decide,ownA_nil,ownB_nil,c_r9_Can S,hb,hkg,hcan]
    rw[<-hK,loop_in (on S _ _ [2,3,5,7] (by decide) rfl) rfl _ _ _ _ _ _ _ _ _ rfl]
    simp only[eG,go_sem,thq S,nbr S,zN0,zN1,zN2,zN3,zN4,zI0,zI1,zI2,zI3,reduceCtorEq,o17_34 S]
    assumption
   ·rw [ownA_ne h0, ownB_ne h0] at *
    simp only[eG,go_sem,thq S,nbr S,zN0,zN1,zN2,zN3,zN4,zI0,zI1,zI2,zI3,reduceCtorEq,o17_34 S,sw_t,sw_s,dl_nil,dl_cons,rep1',nc2,app_endD,l16,l16',l1n,Option.map_some,Nat.zero_add,Nat.one_mul,Nat.zero_mul,and_self,true_and,wi k (by omega),show(0:Nat)<1 by decide,c_r9_Can S,hb,hkg,hcan]
    rw[<-hK,loop_in (on S _ _ [2,3,5,7] (by decide) rfl) rfl _ _ _ _ _ _ _ _ _ rfl]
    simp only[eG,go_sem,thq S,nbr S,zN0,zN1,zN2,zN3,zN4,zI0,zI1,zI2,zI3,reduceCtorEq,o17_34 S]
    exact this
  | true=>
   have hr':(o++[(⟨2,(k:Int)⟩:Dir)])++((List.range' (k+1) m).filter fun n:Nat=>Md.can (c.state.mem.length:Int) p c (n:Int)).map (fun n:Nat=>(⟨2,(n:Int)⟩:Dir))=r:=by
    rw[<-hr,List.range'_succ,List.filter_cons,hcan,if_pos rfl,List.map_cons,List.append_assoc];rfl
   have:=ih (k+1) f (o++[⟨2,(k:Int)⟩]) (by omega) (by omega) (by simp;omega) (by simp;omega) hr'
   rw[ownA_ne (ne_app _ _),ownB_ne (ne_app _ _)] at this
   generalize hK:loopK 16 B16_r9_All _ _ kx _ (f+1)=KK
   first | (conv=>lhs;rw[B16_r9_All]) | rw[B16_r9_All]
   by_cases h0:o.length=0
   ·have : o = [] := List.length_eq_zero_iff.1 h0
    subst this
    simp only[eG,go_sem,thq S,nbr S,zN0,zN1,zN2,zN3,zN4,zI0,zI1,zI2,zI3,reduceCtorEq,o17_34 S,sw_t,sw_s,dl_nil,dl_cons,rep1',nc2,app_endD,l16,l16',l1n,Option.map_some,Nat.zero_add,Nat.one_mul,Nat.zero_mul,and_self,true_and,wi k (by omega),show(0:Nat)<1 by decide,ownA_nil,ownB_nil,c_r9_Can S,hb,hkg,hcan]
    rw[<-hK,loop_in (on S _ _ [2,3,5,7] (by decide) rfl) rfl _ _ _ _ _ _ _ _ _ rfl]
    simp only[eG,go_sem,thq S,nbr S,zN0,zN1,zN2,zN3,zN4,zI0,zI1,zI2,zI3,reduceCtorEq,o17_34 S]
    assumption
   ·rw [ownA_ne h0, ownB_ne h0]
    have k1:(o.length+1)*16<=limA:=by unfold limA;omega
    have k2:o.length+1<=limA:=by unfold limA;omega
    simp only[eG,go_sem,thq S,nbr S,zN0,zN1,zN2,zN3,zN4,zI0,zI1,zI2,zI3,reduceCtorEq,o17_34 S,sw_t,sw_s,dl_nil,dl_cons,rep1',nc2,app_endD,l16,l16',l1n,Option.map_some,Nat.zero_add,Nat.one_mul,Nat.zero_mul,and_self,true_and,wi k (by omega),show(0:Nat)<1 by decide,c_r9_Can S,hb,hkg,hcan,k1,k2]
    rw[<-hK,loop_in (on S _ _ [2,3,5,7] (by decide) rfl) rfl _ _ _ _ _ _ _ _ _ rfl]
    simp only[eG,go_sem,thq S,nbr S,zN0,zN1,zN2,zN3,zN4,zI0,zI1,zI2,zI3,reduceCtorEq,o17_34 S]
    rw[List.length_append,List.length_singleton] at this
    exact this
theorem all3 (dp:Nat)(p:Prog)(c:Conf)(hb:c.buf.length<1073741824)(kx:Nat->K)(D:DV)(r:List Dir)
  (hx:∀ T,getS .bot T 2=.ref 0 0 0->getS .bot T 3=.ref 1 0 0->getS .bot T 5=ownA 2 r->ansOf (kx 4 (mk .bot 61 T) ([.cells ((progC p).map .d) 0 false,.cells ((confC c).map .d) 0 false]++ownB r))=some D):
  ∀(m k f:Nat) (o:List Dir),k+m=c.buf.length->m<=f->o.length<8589934592->o.length+m<8589934592->o++((List.range' k m).filter fun n:Nat=>Md.canAddr p c (n:Int)).map (fun n:Nat=>(⟨3,(n:Int)⟩:Dir))=r->
  ansOf (B26_r9_All (inn E 17) (evC E fn (dp+5)) (loopK 26 B26_r9_All (inn E 17) (evC E fn (dp+5)) kx (kEnd 0 [.tmp 4]) f) kx (kEnd 0 [.tmp 4]) (mk .bot 61 [(2,.ref 0 0 0),(3,.ref 1 0 0),(5,ownA 2 o),(8,aint k)]) ([.cells ((progC p).map .d) 0 false,.cells ((confC c).map .d) 0 false]++ownB o))=some D:=by
 intro m
 induction m with
 | zero=>
  intro k f o hk _ _ _ hr
  have hr:o=r:=by simpa using hr
  subst hr
  generalize loopK 26 B26_r9_All _ _ kx _ f=KK
  first | (conv=>lhs;rw[B26_r9_All]) | rw[B26_r9_All]
  by_cases h0:o.length=0
  ·have : o = [] := List.length_eq_zero_iff.1 h0
   subst this
   simp only[eG,go_sem,thq S,nbr S,zN0,zN1,zN2,zN3,zN4,zI0,zI1,zI2,zI3,reduceCtorEq,o17_34 S,ownA_nil,ownB_nil,show ¬(k:Int)<c.buf.length by omega]
   exact hx _ rfl rfl rfl
  ·rw [ownA_ne h0, ownB_ne h0] at *
   simp only[eG,go_sem,thq S,nbr S,zN0,zN1,zN2,zN3,zN4,zI0,zI1,zI2,zI3,reduceCtorEq,o17_34 S,show ¬(k:Int)<c.buf.length by omega]
   exact hx _ rfl rfl rfl
 | succ m ih=>
  intro k f o hk hf ho ho2 hr
  obtain⟨f,rfl⟩:∃ g,f=g+1:=⟨f-1,by omega⟩
  have hkg:(k:Int)<c.buf.length:=by omega
  cases hcan:Md.canAddr p c (k:Int) with
  | false=>
   have hr':o++((List.range' (k+1) m).filter fun n:Nat=>Md.canAddr p c (n:Int)).map (fun n:Nat=>(⟨3,(n:Int)⟩:Dir))=r:=by
    rw[<-hr,List.range'_succ,List.filter_cons,hcan];rfl
   have:=ih (k+1) f o (by omega) (by omega) ho (by omega) hr'
   generalize hK:loopK 26 B26_r9_All _ _ kx _ (f+1)=KK
   first | (conv=>lhs;rw[B26_r9_All]) | rw[B26_r9_All]
   by_cases h0:o.length=0
   ·have : o = [] := List.length_eq_zero_iff.1 h0
    subst this
    simp only[eG,go_sem,thq S,nbr S,zN0,zN1,zN2,zN3,zN4,zI0,zI1,zI2,zI3,reduceCtorEq,o17_34 S,sw_t,sw_s,dl_nil,dl_cons,rep1',nc2,app_endD,l16,l16',l1n,Option.map_some,Nat.zero_add,Nat.one_mul,Nat.zero_mul,and_self,true_and,wi k (by omega),show(0:Nat)<1 by decide,ownA_nil,ownB_nil,c_r9_CanAddr S,hb,hkg,hcan]
    rw[<-hK,loop_in (on S _ _ [2,3,5,8] (by decide) rfl) rfl _ _ _ _ _ _ _ _ _ rfl]
    simp only[eG,go_sem,thq S,nbr S,zN0,zN1,zN2,zN3,zN4,zI0,zI1,zI2,zI3,reduceCtorEq,o17_34 S]
    assumption
   ·rw [ownA_ne h0, ownB_ne h0] at *
    simp only[eG,go_sem,thq S,nbr S,zN0,zN1,zN2,zN3,zN4,zI0,zI1,zI2,zI3,reduceCtorEq,o17_34 S,sw_t,sw_s,dl_nil,dl_cons,rep1',nc2,app_endD,l16,l16',l1n,Option.map_some,Nat.zero_add,Nat.one_mul,Nat.zero_mul,and_self,true_and,wi k (by omega),show(0:Nat)<1 by decide,c_r9_CanAddr S,hb,hkg,hcan]
    rw[<-hK,loop_in (on S _ _ [2,3,5,8] (by decide) rfl) rfl _ _ _ _ _ _ _ _ _ rfl]
    simp only[eG,go_sem,thq S,nbr S,zN0,zN1,zN2,zN3,zN4,zI0,zI1,zI2,zI3,reduceCtorEq,o17_34 S]
    exact this
  | true=>
   have hr':(o++[(⟨3,(k:Int)⟩:Dir)])++((List.range' (k+1) m).filter fun n:Nat=>Md.canAddr p c (n:Int)).map (fun n:Nat=>(⟨3,(n:Int)⟩:Dir))=r:=by
    rw[<-hr,List.range'_succ,List.filter_cons,hcan,if_pos rfl,List.map_cons,List.append_assoc];rfl
   have:=ih (k+1) f (o++[⟨3,(k:Int)⟩]) (by omega) (by omega) (by simp;omega) (by simp;omega) hr'
   rw[ownA_ne (ne_app _ _),ownB_ne (ne_app _ _)] at this
   generalize hK:loopK 26 B26_r9_All _ _ kx _ (f+1)=KK
   first | (conv=>lhs;rw[B26_r9_All]) | rw[B26_r9_All]
   by_cases h0:o.length=0
   ·have : o = [] := List.length_eq_zero_iff.1 h0
    subst this
    simp only[eG,go_sem,thq S,nbr S,zN0,zN1,zN2,zN3,zN4,zI0,zI1,zI2,zI3,reduceCtorEq,o17_34 S,sw_t,sw_s,dl_nil,dl_cons,rep1',nc2,app_endD,l16,l16',l1n,Option.map_some,Nat.zero_add,Nat.one_mul,Nat.zero_mul,and_self,true_and,wi k (by omega),show(0:Nat)<1 by decide,ownA_nil,ownB_nil,c_r9_CanAddr S,hb,hkg,hcan]
    rw[<-hK,loop_in (on S _ _ [2,3,5,8] (by decide) rfl) rfl _ _ _ _ _ _ _ _ _ rfl]
    simp only[eG,go_sem,thq S,nbr S,zN0,zN1,zN2,zN3,zN4,zI0,zI1,zI2,zI3,reduceCtorEq,o17_34 S]
    assumption
   ·rw [ownA_ne h0, ownB_ne h0]
    have k1:(o.length+1)*16<=limA:=by unfold limA;omega
    have k2:o.length+1<=limA:=by unfold limA;omega
    simp only[eG,go_sem,thq S,nbr S,zN0,zN1,zN2,zN3,zN4,zI0,zI1,zI2,zI3,reduceCtorEq,o17_34 S,sw_t,sw_s,dl_nil,dl_cons,rep1',nc2,app_endD,l16,l16',l1n,Option.map_some,Nat.zero_add,Nat.one_mul,Nat.zero_mul,and_self,true_and,wi k (by omega),show(0:Nat)<1 by decide,c_r9_CanAddr S,hb,hkg,hcan,k1,k2]
    rw[<-hK,loop_in (on S _ _ [2,3,5,8] (by decide) rfl) rfl _ _ _ _ _ _ _ _ _ rfl]
    simp only[eG,go_sem,thq S,nbr S,zN0,zN1,zN2,zN3,zN4,zI0,zI1,zI2,zI3,reduceCtorEq,o17_34 S]
    rw[List.length_append,List.length_singleton] at this
    exact this
theorem raw_r9_All (dp:Nat)(p:Prog)(c:Conf)(hi:p.ins.length<1073741824)(hb:c.buf.length<1073741824):Says E fn (dp+6) 17 [progD p,confD c] (rowD (Md.all (c.state.mem.length:Int) p c)):=by
 unfold Says
 show ansOf (evC E fn (dp+5+1) 17 [.d (progD p),.d (confD c)] [])=_
 rw[evC_succ,S.f_r9_All,apF_some,F_r9_All,mkF_run _ _ _ _ _ _ _ _ rfl]
 have hg:Md.guesses p c<2147483648:=by
  unfold Md.guesses;split
  ·decide
  ·split
   ·decide
   ·split
    ·omega
    ·decide
 simp only[eG,go_sem,thq S,nbr S,zN0,zN1,zN2,zN3,zN4,zI0,zI1,zI2,zI3,reduceCtorEq,o17_34 S]
 rw[big_eq,loop_in (on S _ _ [2,3,5,6] (by decide) rfl) rfl _ _ _ _ _ _ _ _ _ rfl]
 simp only[eG,go_sem,thq S,nbr S,zN0,zN1,zN2,zN3,zN4,zI0,zI1,zI2,zI3,reduceCtorEq,o17_34 S]
 generalize h1:(List.range (Md.guesses p c).toNat).map (fun n:Nat=>(⟨1,(n:Int)⟩:Dir))=r1
 generalize h2:r1++((List.range c.buf.length).filter fun n:Nat=>Md.can (c.state.mem.length:Int) p c (n:Int)).map (fun n:Nat=>(⟨2,(n:Int)⟩:Dir))=r2
 generalize h3:r2++((List.range c.buf.length).filter fun n:Nat=>Md.canAddr p c (n:Int)).map (fun n:Nat=>(⟨3,(n:Int)⟩:Dir))=r3
 have hall:Md.all (c.state.mem.length:Int) p c=r3++(bif Md.canRetire p c then[⟨4,0⟩] else[]):=by
  unfold Md.all;rw[h1,h2,h3]
 have L1:r1.length<2147483648:=by rw[<-h1,List.length_map,List.length_range];omega
 have L2:r2.length<3221225472:=by
  have:=List.length_filter_le (fun n:Nat=>Md.can (c.state.mem.length:Int) p c (n:Int)) (List.range c.buf.length)
  rw[List.length_range] at this
  rw[<-h2,List.length_append,List.length_map];omega
 have L3:r3.length<4294967296:=by
  have:=List.length_filter_le (fun n:Nat=>Md.canAddr p c (n:Int)) (List.range c.buf.length)
  rw[List.length_range] at this
  rw[<-h3,List.length_append,List.length_map];omega
 rw[hall]
 have start:=fun(kx:Nat->K) (D:DV) hx=>all1 S (dp+3) p c hi hg kx D r1 hx (Md.guesses p c).toNat 0 999999999999999999999999999999 [] (by omega) (by omega) (by simp) (by simp;omega) (by rw[List.nil_append,range_map];exact h1)
 refine start _ _ ?_
 intro T t2 t3 t5
 have next2:=fun(kx:Nat->K) (D:DV) hx=>all2 S dp p c hb kx D r2 hx c.buf.length 0 999999999999999999999999999999 r1 (by omega) (by omega) (by omega) (by omega) (by rw[<-List.range_eq_range'];exact h2)
 have next3:=fun(kx:Nat->K) (D:DV) hx=>all3 S dp p c hb kx D r3 hx c.buf.length 0 999999999999999999999999999999 r2 (by omega) (by omega) (by omega) (by omega) (by rw[<-List.range_eq_range'];exact h3)
 have stop:∀ T,getS .bot T 2=.ref 0 0 0->getS .bot T 3=.ref 1 0 0->True:=fun _ _ _=>trivial
 by_cases z1:r1.length=0
 ·have e1 : r1 = [] := List.length_eq_zero_iff.1 z1
  rw[e1,ownA_nil] at t5
  rw[e1,ownB_nil,List.append_nil]
  simp only[e1,ownA_nil,ownB_nil,List.append_nil] at next2
  simp only[eG,go_sem,thq S,nbr S,zN0,zN1,zN2,zN3,zN4,zI0,zI1,zI2,zI3,reduceCtorEq,o17_34 S,t2,t3,t5]
  rw[big_eq,loop_in (on S _ _ [2,3,5,7] (by decide) rfl) rfl _ _ _ _ _ _ _ _ _ rfl]
  simp only[eG,go_sem,thq S,nbr S,zN0,zN1,zN2,zN3,zN4,zI0,zI1,zI2,zI3,reduceCtorEq,o17_34 S,t2,t3,t5]
  refine next2 _ _ ?_
  clear t2 t3 t5 T
  intro T t2 t3 t5
  by_cases z2:r2.length=0
  ·have e2 : r2 = [] := List.length_eq_zero_iff.1 z2
   rw[e2,ownA_nil] at t5
   rw[e2,ownB_nil,List.append_nil]
   simp only[e2,ownA_nil,ownB_nil,List.append_nil] at next3
   simp only[eG,go_sem,thq S,nbr S,zN0,zN1,zN2,zN3,zN4,zI0,zI1,zI2,zI3,reduceCtorEq,o17_34 S,t2,t3,t5]
   rw[big_eq,loop_in (on S _ _ [2,3,5,8] (by decide) rfl) rfl _ _ _ _ _ _ _ _ _ rfl]
   simp only[eG,go_sem,thq S,nbr S,zN0,zN1,zN2,zN3,zN4,zI0,zI1,zI2,zI3,reduceCtorEq,o17_34 S,t2,t3,t5]
   refine next3 _ _ ?_
   clear t2 t3 t5 T
   intro T t2 t3 t5
   cases hret:Md.canRetire p c with
   | false=>
    by_cases z3:r3.length=0
    ·have e3 : r3 = [] := List.length_eq_zero_iff.1 z3
     rw[e3,ownA_nil] at t5
     rw[e3,ownB_nil,List.append_nil]
     simp only[eG,go_sem,thq S,nbr S,zN0,zN1,zN2,zN3,zN4,zI0,zI1,zI2,zI3,reduceCtorEq,o17_34 S,t2,t3,t5,c_r9_CanRetire S,hret]
    ·rw [ownA_ne z3] at t5
     rw[ownB_ne z3]
     have hne:r3≠[]:=fun e=>z3 (by rw[e];rfl)
     have hd:deep [.cells ((rowC r3).map .d) 0 false] 8 (.sref 0 0 0 r3.length 2 none)=some (.lst (rowC r3) r3.length none,[0]):=deep_alone r3 hne _ rfl 6 2 none rfl
     simp only[eG,go_sem,thq S,nbr S,zN0,zN1,zN2,zN3,zN4,zI0,zI1,zI2,zI3,reduceCtorEq,o17_34 S,t2,t3,t5,c_r9_CanRetire S,hret,hd]
     rfl
   | true=>
    by_cases z3:r3.length=0
    ·have e3 : r3 = [] := List.length_eq_zero_iff.1 z3
     rw[e3,ownA_nil] at t5
     rw[e3,ownB_nil,List.append_nil]
     simp only[eG,go_sem,thq S,nbr S,zN0,zN1,zN2,zN3,zN4,zI0,zI1,zI2,zI3,reduceCtorEq,o17_34 S,sw_t,sw_s,dl_nil,dl_cons,rep1',nc2,app_endD,l16,l16',l1n,Option.map_some,Nat.zero_add,Nat.one_mul,Nat.zero_mul,and_self,true_and,show(0:Nat)<1 by decide,t2,t3,t5,c_r9_CanRetire S,hret,deep_sr,Nat.one_ne_zero,Nat.le_refl]
     rfl
    ·rw [ownA_ne z3] at t5
     rw[ownB_ne z3]
     have k1:(r3.length+1)*16<=limA:=by unfold limA;omega
     have k2:r3.length+1<=limA:=by unfold limA;omega
     have hd:deep [.cells ((rowC (r3++[(⟨4,0⟩:Dir)])).map .d) 0 false] 8 (.sref 0 0 0 (r3.length+1) 2 none)=some (.lst (rowC (r3++[(⟨4,0⟩:Dir)])) (r3++[(⟨4,0⟩:Dir)]).length none,[0]):=deep_alone _ (by simp) _ (by simp) 6 2 none rfl
     simp only[eG,go_sem,thq S,nbr S,zN0,zN1,zN2,zN3,zN4,zI0,zI1,zI2,zI3,reduceCtorEq,o17_34 S,sw_t,sw_s,dl_nil,dl_cons,rep1',nc2,app_endD,l16,l16',l1n,Option.map_some,Nat.zero_add,Nat.one_mul,Nat.zero_mul,and_self,true_and,show(0:Nat)<1 by decide,t2,t3,t5,c_r9_CanRetire S,hret,k1,k2,hd]
     rfl
  ·rw [ownA_ne z2] at t5
   rw[ownB_ne z2]
   simp only[ownA_ne z2,ownB_ne z2] at next3
   simp only[eG,go_sem,thq S,nbr S,zN0,zN1,zN2,zN3,zN4,zI0,zI1,zI2,zI3,reduceCtorEq,o17_34 S,t2,t3,t5]
   rw[big_eq,loop_in (on S _ _ [2,3,5,8] (by decide) rfl) rfl _ _ _ _ _ _ _ _ _ rfl]
   simp only[eG,go_sem,thq S,nbr S,zN0,zN1,zN2,zN3,zN4,zI0,zI1,zI2,zI3,reduceCtorEq,o17_34 S,t2,t3,t5]
   refine next3 _ _ ?_
   clear t2 t3 t5 T
   intro T t2 t3 t5
   cases hret:Md.canRetire p c with
   | false=>
    by_cases z3:r3.length=0
    ·have e3 : r3 = [] := List.length_eq_zero_iff.1 z3
     rw[e3,ownA_nil] at t5
     rw[e3,ownB_nil,List.append_nil]
     simp only[eG,go_sem,thq S,nbr S,zN0,zN1,zN2,zN3,zN4,zI0,zI1,zI2,zI3,reduceCtorEq,o17_34 S,t2,t3,t5,c_r9_CanRetire S,hret]
    ·rw [ownA_ne z3] at t5
     rw[ownB_ne z3]
     have hne:r3≠[]:=fun e=>z3 (by rw[e];rfl)
     have hd:deep [.cells ((rowC r3).map .d) 0 false] 8 (.sref 0 0 0 r3.length 2 none)=some (.lst (rowC r3) r3.length none,[0]):=deep_alone r3 hne _ rfl 6 2 none rfl
     simp only[eG,go_sem,thq S,nbr S,zN0,zN1,zN2,zN3,zN4,zI0,zI1,zI2,zI3,reduceCtorEq,o17_34 S,t2,t3,t5,c_r9_CanRetire S,hret,hd]
     rfl
   | true=>
    by_cases z3:r3.length=0
    ·have e3 : r3 = [] := List.length_eq_zero_iff.1 z3
     rw[e3,ownA_nil] at t5
     rw[e3,ownB_nil,List.append_nil]
     simp only[eG,go_sem,thq S,nbr S,zN0,zN1,zN2,zN3,zN4,zI0,zI1,zI2,zI3,reduceCtorEq,o17_34 S,sw_t,sw_s,dl_nil,dl_cons,rep1',nc2,app_endD,l16,l16',l1n,Option.map_some,Nat.zero_add,Nat.one_mul,Nat.zero_mul,and_self,true_and,show(0:Nat)<1 by decide,t2,t3,t5,c_r9_CanRetire S,hret,deep_sr,Nat.one_ne_zero,Nat.le_refl]
     rfl
    ·rw [ownA_ne z3] at t5
     rw[ownB_ne z3]
     have k1:(r3.length+1)*16<=limA:=by unfold limA;omega
     have k2:r3.length+1<=limA:=by unfold limA;omega
     have hd:deep [.cells ((rowC (r3++[(⟨4,0⟩:Dir)])).map .d) 0 false] 8 (.sref 0 0 0 (r3.length+1) 2 none)=some (.lst (rowC (r3++[(⟨4,0⟩:Dir)])) (r3++[(⟨4,0⟩:Dir)]).length none,[0]):=deep_alone _ (by simp) _ (by simp) 6 2 none rfl
     simp only[eG,go_sem,thq S,nbr S,zN0,zN1,zN2,zN3,zN4,zI0,zI1,zI2,zI3,reduceCtorEq,o17_34 S,sw_t,sw_s,dl_nil,dl_cons,rep1',nc2,app_endD,l16,l16',l1n,Option.map_some,Nat.zero_add,Nat.one_mul,Nat.zero_mul,and_self,true_and,show(0:Nat)<1 by decide,t2,t3,t5,c_r9_CanRetire S,hret,k1,k2,hd]
     rfl
 ·rw [ownA_ne z1] at t5
  rw[ownB_ne z1]
  simp only[ownA_ne z1,ownB_ne z1] at next2
  simp only[eG,go_sem,thq S,nbr S,zN0,zN1,zN2,zN3,zN4,zI0,zI1,zI2,zI3,reduceCtorEq,o17_34 S,t2,t3,t5]
  rw[big_eq,loop_in (on S _ _ [2,3,5,7] (by decide) rfl) rfl _ _ _ _ _ _ _ _ _ rfl]
  simp only[eG,go_sem,thq S,nbr S,zN0,zN1,zN2,zN3,zN4,zI0,zI1,zI2,zI3,reduceCtorEq,o17_34 S,t2,t3,t5]
  refine next2 _ _ ?_
  clear t2 t3 t5 T
  intro T t2 t3 t5
  by_cases z2:r2.length=0
  ·have e2 : r2 = [] := List.length_eq_zero_iff.1 z2
   rw[e2,ownA_nil] at t5
   rw[e2,ownB_nil,List.append_nil]
   simp only[e2,ownA_nil,ownB_nil,List.append_nil] at next3
   simp only[eG,go_sem,thq S,nbr S,zN0,zN1,zN2,zN3,zN4,zI0,zI1,zI2,zI3,reduceCtorEq,o17_34 S,t2,t3,t5]
   rw[big_eq,loop_in (on S _ _ [2,3,5,8] (by decide) rfl) rfl _ _ _ _ _ _ _ _ _ rfl]
   simp only[eG,go_sem,thq S,nbr S,zN0,zN1,zN2,zN3,zN4,zI0,zI1,zI2,zI3,reduceCtorEq,o17_34 S,t2,t3,t5]
   refine next3 _ _ ?_
   clear t2 t3 t5 T
   intro T t2 t3 t5
   cases hret:Md.canRetire p c with
   | false=>
    by_cases z3:r3.length=0
    ·have e3 : r3 = [] := List.length_eq_zero_iff.1 z3
     rw[e3,ownA_nil] at t5
     rw[e3,ownB_nil,List.append_nil]
     simp only[eG,go_sem,thq S,nbr S,zN0,zN1,zN2,zN3,zN4,zI0,zI1,zI2,zI3,reduceCtorEq,o17_34 S,t2,t3,t5,c_r9_CanRetire S,hret]
    ·rw [ownA_ne z3] at t5
     rw[ownB_ne z3]
     have hne:r3≠[]:=fun e=>z3 (by rw[e];rfl)
     have hd:deep [.cells ((rowC r3).map .d) 0 false] 8 (.sref 0 0 0 r3.length 2 none)=some (.lst (rowC r3) r3.length none,[0]):=deep_alone r3 hne _ rfl 6 2 none rfl
     simp only[eG,go_sem,thq S,nbr S,zN0,zN1,zN2,zN3,zN4,zI0,zI1,zI2,zI3,reduceCtorEq,o17_34 S,t2,t3,t5,c_r9_CanRetire S,hret,hd]
     rfl
   | true=>
    by_cases z3:r3.length=0
    ·have e3 : r3 = [] := List.length_eq_zero_iff.1 z3
     rw[e3,ownA_nil] at t5
     rw[e3,ownB_nil,List.append_nil]
     simp only[eG,go_sem,thq S,nbr S,zN0,zN1,zN2,zN3,zN4,zI0,zI1,zI2,zI3,reduceCtorEq,o17_34 S,sw_t,sw_s,dl_nil,dl_cons,rep1',nc2,app_endD,l16,l16',l1n,Option.map_some,Nat.zero_add,Nat.one_mul,Nat.zero_mul,and_self,true_and,show(0:Nat)<1 by decide,t2,t3,t5,c_r9_CanRetire S,hret,deep_sr,Nat.one_ne_zero,Nat.le_refl]
     rfl
    ·rw [ownA_ne z3] at t5
     rw[ownB_ne z3]
     have k1:(r3.length+1)*16<=limA:=by unfold limA;omega
     have k2:r3.length+1<=limA:=by unfold limA;omega
     have hd:deep [.cells ((rowC (r3++[(⟨4,0⟩:Dir)])).map .d) 0 false] 8 (.sref 0 0 0 (r3.length+1) 2 none)=some (.lst (rowC (r3++[(⟨4,0⟩:Dir)])) (r3++[(⟨4,0⟩:Dir)]).length none,[0]):=deep_alone _ (by simp) _ (by simp) 6 2 none rfl
     simp only[eG,go_sem,thq S,nbr S,zN0,zN1,zN2,zN3,zN4,zI0,zI1,zI2,zI3,reduceCtorEq,o17_34 S,sw_t,sw_s,dl_nil,dl_cons,rep1',nc2,app_endD,l16,l16',l1n,Option.map_some,Nat.zero_add,Nat.one_mul,Nat.zero_mul,and_self,true_and,show(0:Nat)<1 by decide,t2,t3,t5,c_r9_CanRetire S,hret,k1,k2,hd]
     rfl
  ·rw [ownA_ne z2] at t5
   rw[ownB_ne z2]
   simp only[ownA_ne z2,ownB_ne z2] at next3
   simp only[eG,go_sem,thq S,nbr S,zN0,zN1,zN2,zN3,zN4,zI0,zI1,zI2,zI3,reduceCtorEq,o17_34 S,t2,t3,t5]
   rw[big_eq,loop_in (on S _ _ [2,3,5,8] (by decide) rfl) rfl _ _ _ _ _ _ _ _ _ rfl]
   simp only[eG,go_sem,thq S,nbr S,zN0,zN1,zN2,zN3,zN4,zI0,zI1,zI2,zI3,reduceCtorEq,o17_34 S,t2,t3,t5]
   refine next3 _ _ ?_
   clear t2 t3 t5 T
   intro T t2 t3 t5
   cases hret:Md.canRetire p c with
   | false=>
    by_cases z3:r3.length=0
    ·have e3 : r3 = [] := List.length_eq_zero_iff.1 z3
     rw[e3,ownA_nil] at t5
     rw[e3,ownB_nil,List.append_nil]
     simp only[eG,go_sem,thq S,nbr S,zN0,zN1,zN2,zN3,zN4,zI0,zI1,zI2,zI3,reduceCtorEq,o17_34 S,t2,t3,t5,c_r9_CanRetire S,hret]
    ·rw [ownA_ne z3] at t5
     rw[ownB_ne z3]
     have hne:r3≠[]:=fun e=>z3 (by rw[e];rfl)
     have hd:deep [.cells ((rowC r3).map .d) 0 false] 8 (.sref 0 0 0 r3.length 2 none)=some (.lst (rowC r3) r3.length none,[0]):=deep_alone r3 hne _ rfl 6 2 none rfl
     simp only[eG,go_sem,thq S,nbr S,zN0,zN1,zN2,zN3,zN4,zI0,zI1,zI2,zI3,reduceCtorEq,o17_34 S,t2,t3,t5,c_r9_CanRetire S,hret,hd]
     rfl
   | true=>
    by_cases z3:r3.length=0
    ·have e3 : r3 = [] := List.length_eq_zero_iff.1 z3
     rw[e3,ownA_nil] at t5
     rw[e3,ownB_nil,List.append_nil]
     simp only[eG,go_sem,thq S,nbr S,zN0,zN1,zN2,zN3,zN4,zI0,zI1,zI2,zI3,reduceCtorEq,o17_34 S,sw_t,sw_s,dl_nil,dl_cons,rep1',nc2,app_endD,l16,l16',l1n,Option.map_some,Nat.zero_add,Nat.one_mul,Nat.zero_mul,and_self,true_and,show(0:Nat)<1 by decide,t2,t3,t5,c_r9_CanRetire S,hret,deep_sr,Nat.one_ne_zero,Nat.le_refl]
     rfl
    ·rw [ownA_ne z3] at t5
     rw[ownB_ne z3]
     have k1:(r3.length+1)*16<=limA:=by unfold limA;omega
     have k2:r3.length+1<=limA:=by unfold limA;omega
     have hd:deep [.cells ((rowC (r3++[(⟨4,0⟩:Dir)])).map .d) 0 false] 8 (.sref 0 0 0 (r3.length+1) 2 none)=some (.lst (rowC (r3++[(⟨4,0⟩:Dir)])) (r3++[(⟨4,0⟩:Dir)]).length none,[0]):=deep_alone _ (by simp) _ (by simp) 6 2 none rfl
     simp only[eG,go_sem,thq S,nbr S,zN0,zN1,zN2,zN3,zN4,zI0,zI1,zI2,zI3,reduceCtorEq,o17_34 S,sw_t,sw_s,dl_nil,dl_cons,rep1',nc2,app_endD,l16,l16',l1n,Option.map_some,Nat.zero_add,Nat.one_mul,Nat.zero_mul,and_self,true_and,show(0:Nat)<1 by decide,t2,t3,t5,c_r9_CanRetire S,hret,k1,k2,hd]
     rfl
theorem c_r9_All (dp:Nat)(p_w p_wn p_fu p_r0 p_r1 p_r2 p_r3:Int)(p_ms:List MemT)(p_ls:List Label)(p_is:List Ins)(c_r0 c_r1 c_r2 c_r3:Int)(c_mm c_st:List Int)(c_pc:Int)(c_bf:List Ent)(c_rb:List Int)(c_en:Int)(hi:(⟨p_w,p_wn,p_fu,⟨p_r0,p_r1,p_r2,p_r3⟩,p_ms,p_ls,p_is⟩:Prog).ins.length<1073741824)(hb:(⟨⟨⟨c_r0,c_r1,c_r2,c_r3⟩,c_mm,c_st,c_pc⟩,c_bf,c_rb,c_en⟩:Conf).buf.length<1073741824)(A:List Blk)(nb:Nat):evOwnK false E (evC E fn (dp+6)) 17 A nb (some ([.agg [vi p_w,vi p_wn,vi p_fu,vi p_r0,vi p_r1,vi p_r2,vi p_r3,rowD p_ms,rowD p_ls,rowD p_is],.agg [vi c_r0,vi c_r1,vi c_r2,vi c_r3,rowD c_mm,rowD c_st,vi c_pc,rowD c_bf,rowD c_rb,vi c_en]],[]))=some (.made (.d (rowD (Md.all ((⟨⟨⟨c_r0,c_r1,c_r2,c_r3⟩,c_mm,c_st,c_pc⟩,c_bf,c_rb,c_en⟩:Conf).state.mem.length:Int) (⟨p_w,p_wn,p_fu,⟨p_r0,p_r1,p_r2,p_r3⟩,p_ms,p_ls,p_is⟩:Prog) (⟨⟨⟨c_r0,c_r1,c_r2,c_r3⟩,c_mm,c_st,c_pc⟩,c_bf,c_rb,c_en⟩:Conf)))) []):=
 Says.deep (raw_r9_All S dp (⟨p_w,p_wn,p_fu,⟨p_r0,p_r1,p_r2,p_r3⟩,p_ms,p_ls,p_is⟩:Prog) (⟨⟨⟨c_r0,c_r1,c_r2,c_r3⟩,c_mm,c_st,c_pc⟩,c_bf,c_rb,c_en⟩:Conf) hi hb) (np S 17 (by decide)) A nb
end
variable {E:Env} {fn:FuncId->Option (Env->CallT->CallT)}
section
variable (S:Sur E fn)
include S
theorem o31_27:E.lives 31 7=none/\E.lives 31 13=none/\E.lives 31 17=none:=⟨off S 31 7 (by decide) rfl,off S 31 13 (by decide) rfl,off S 31 17 (by decide) rfl⟩
theorem raw_fetc_Guesses (dp:Nat)(p:Prog)(c:Conf)(hi:p.ins.length<1073741824):Says E fn (dp+2) 31 [progD p,confD c] (vi (Md.guesses p c)):=by
 unfold Says
 show ansOf (evC E fn (dp+1+1) 31 [.d (progD p),.d (confD c)] [])=_
 rw[evC_succ,S.f_fetc_Guesses,apF_some,F_fetc_Guesses,mkF_run _ _ _ _ _ _ _ _ rfl]
 have hw:IntKind.i64.wrap ((p.ins.length:Int)+1)=p.ins.length+1:=by rw[wrap_i64 (by omega) (by omega)]
 by_cases h1:c.end_=0
 ·by_cases h2 : c.state.pc = -1
  ·simp only[eG,go_sem,thq S,nbr S,zN0,zN1,zN2,zN3,zN4,zI0,zI1,zI2,zI3,reduceCtorEq,o31_27 S,h1,h2,Md.guesses,c_conf_Final S,ne_eq,not_true_eq_false,not_false_eq_true]
  ·by_cases h3 : (c.buf.length : Int) >= p.window
   ·simp only[eG,go_sem,thq S,nbr S,zN0,zN1,zN2,zN3,zN4,zI0,zI1,zI2,zI3,reduceCtorEq,o31_27 S,h1,h2,h3,Md.guesses,c_conf_Final S,ne_eq,not_true_eq_false,not_false_eq_true]
   ·by_cases h9 : c.rsb.length = 0
    ·simp only [eG, go_sem, thq S, nbr S, zN0, zN1, zN2, zN3, zN4, zI0, zI1, zI2, zI3, reduceCtorEq, o31_27 S, h1, h2, h3, h9, Md.guesses, c_conf_Final S, ne_eq, not_true_eq_false, not_false_eq_true, c_seqm_At S, c_conf_Final S, hw, Int.natCast_eq_zero]
     by_cases k5:(Md.at_ p c.state.pc).kind=5
     ·simp only[eG,go_sem,thq S,nbr S,zN0,zN1,zN2,zN3,zN4,zI0,zI1,zI2,zI3,reduceCtorEq,o31_27 S,h9,hw,Int.natCast_eq_zero,ne_eq,not_true_eq_false,not_false_eq_true,Bool.not_true,Bool.not_false,k5,decide_true,decide_false,cond_true,cond_false,if_true,if_false,zI0]
     by_cases k7:(Md.at_ p c.state.pc).kind=7
     ·simp only[eG,go_sem,thq S,nbr S,zN0,zN1,zN2,zN3,zN4,zI0,zI1,zI2,zI3,reduceCtorEq,o31_27 S,h9,hw,Int.natCast_eq_zero,ne_eq,not_true_eq_false,not_false_eq_true,Bool.not_true,Bool.not_false,k7,decide_true,decide_false,cond_true,cond_false,if_true,if_false,zI0,true_or]
     by_cases k9:(Md.at_ p c.state.pc).kind=9
     ·simp only[eG,go_sem,thq S,nbr S,zN0,zN1,zN2,zN3,zN4,zI0,zI1,zI2,zI3,reduceCtorEq,o31_27 S,h9,hw,Int.natCast_eq_zero,ne_eq,not_true_eq_false,not_false_eq_true,Bool.not_true,Bool.not_false,k9,decide_true,decide_false,cond_true,cond_false,if_true,if_false,zI0,or_true,and_self]
     ·simp only[eG,go_sem,thq S,nbr S,zN0,zN1,zN2,zN3,zN4,zI0,zI1,zI2,zI3,reduceCtorEq,o31_27 S,h9,hw,Int.natCast_eq_zero,ne_eq,not_true_eq_false,not_false_eq_true,Bool.not_true,Bool.not_false,k5,k7,k9,decide_true,decide_false,cond_true,cond_false,if_true,if_false,zI0,or_self,false_and]
    ·simp only [eG, go_sem, thq S, nbr S, zN0, zN1, zN2, zN3, zN4, zI0, zI1, zI2, zI3, reduceCtorEq, o31_27 S, h1, h2, h3, h9, Md.guesses, c_conf_Final S, ne_eq, not_true_eq_false, not_false_eq_true, c_seqm_At S, c_conf_Final S, hw, Int.natCast_eq_zero]
     by_cases k5:(Md.at_ p c.state.pc).kind=5
     ·simp only[eG,go_sem,thq S,nbr S,zN0,zN1,zN2,zN3,zN4,zI0,zI1,zI2,zI3,reduceCtorEq,o31_27 S,h9,hw,Int.natCast_eq_zero,ne_eq,not_true_eq_false,not_false_eq_true,Bool.not_true,Bool.not_false,k5,decide_true,decide_false,cond_true,cond_false,if_true,if_false,zI0]
     by_cases k7:(Md.at_ p c.state.pc).kind=7
     ·simp only[eG,go_sem,thq S,nbr S,zN0,zN1,zN2,zN3,zN4,zI0,zI1,zI2,zI3,reduceCtorEq,o31_27 S,h9,hw,Int.natCast_eq_zero,ne_eq,not_true_eq_false,not_false_eq_true,Bool.not_true,Bool.not_false,k7,decide_true,decide_false,cond_true,cond_false,if_true,if_false,zI0,true_or]
     by_cases k9:(Md.at_ p c.state.pc).kind=9
     ·simp only[eG,go_sem,thq S,nbr S,zN0,zN1,zN2,zN3,zN4,zI0,zI1,zI2,zI3,reduceCtorEq,o31_27 S,h9,hw,Int.natCast_eq_zero,ne_eq,not_true_eq_false,not_false_eq_true,Bool.not_true,Bool.not_false,k9,decide_true,decide_false,cond_true,cond_false,if_true,if_false,zI0,or_true,and_self,and_false,or_self]
     ·simp only[eG,go_sem,thq S,nbr S,zN0,zN1,zN2,zN3,zN4,zI0,zI1,zI2,zI3,reduceCtorEq,o31_27 S,h9,hw,Int.natCast_eq_zero,ne_eq,not_true_eq_false,not_false_eq_true,Bool.not_true,Bool.not_false,k5,k7,k9,decide_true,decide_false,cond_true,cond_false,if_true,if_false,zI0,or_self,false_and]
 ·simp only[eG,go_sem,thq S,nbr S,zN0,zN1,zN2,zN3,zN4,zI0,zI1,zI2,zI3,reduceCtorEq,o31_27 S,h1,Md.guesses,c_conf_Final S,ne_eq,not_true_eq_false,not_false_eq_true]
theorem c_fetc_Guesses (dp:Nat)(p_w p_wn p_fu p_r0 p_r1 p_r2 p_r3:Int)(p_ms:List MemT)(p_ls:List Label)(p_is:List Ins)(c_r0 c_r1 c_r2 c_r3:Int)(c_mm c_st:List Int)(c_pc:Int)(c_bf:List Ent)(c_rb:List Int)(c_en:Int)(hi:(⟨p_w,p_wn,p_fu,⟨p_r0,p_r1,p_r2,p_r3⟩,p_ms,p_ls,p_is⟩:Prog).ins.length<1073741824)(A:List Blk)(nb:Nat)(us:List Nat):evOwnK false E (evC E fn (dp+2)) 31 A nb (some ([.agg [vi p_w,vi p_wn,vi p_fu,vi p_r0,vi p_r1,vi p_r2,vi p_r3,rowD p_ms,rowD p_ls,rowD p_is],.agg [vi c_r0,vi c_r1,vi c_r2,vi c_r3,rowD c_mm,rowD c_st,vi c_pc,rowD c_bf,rowD c_rb,vi c_en]],us))=some (.made (.d (vi (Md.guesses (⟨p_w,p_wn,p_fu,⟨p_r0,p_r1,p_r2,p_r3⟩,p_ms,p_ls,p_is⟩:Prog) (⟨⟨⟨c_r0,c_r1,c_r2,c_r3⟩,c_mm,c_st,c_pc⟩,c_bf,c_rb,c_en⟩:Conf)))) []):=
 Says.flat (raw_fetc_Guesses S dp (⟨p_w,p_wn,p_fu,⟨p_r0,p_r1,p_r2,p_r3⟩,p_ms,p_ls,p_is⟩:Prog) (⟨⟨⟨c_r0,c_r1,c_r2,c_r3⟩,c_mm,c_st,c_pc⟩,c_bf,c_rb,c_en⟩:Conf) hi) (np S 31 (by decide)) (rfl) A nb us
end
section
variable (S:Sur E fn)
include S
theorem o19_51:E.lives 19 9=none/\E.lives 19 13=none/\E.lives 19 17=none/\E.lives 19 21=none:=⟨off S 19 9 (by decide) rfl,off S 19 13 (by decide) rfl,off S 19 17 (by decide) rfl,off S 19 21 (by decide) rfl⟩
theorem raw_dirs_Can (dp:Nat)(p:Prog)(c:Conf)(d:Dir)(hi:p.ins.length<1073741824)(hm:p.mems.length<1073741824)(hl:c.buf.length<1073741824):Says E fn (dp+10) 19 [progD p,confD c,.agg (Cl.cells d)] (vb (Md.canSay (cellsI p.mems) p c d)):=by
 unfold Says
 show ansOf (evC E fn (dp+9+1) 19 [.d (progD p),.d (confD c),.d (.agg (Cl.cells d))] [])=_
 rw[evC_succ,S.f_dirs_Can,apF_some,F_dirs_Can,mkF_run _ _ _ _ _ _ _ _ rfl]
 by_cases k1:d.kind=1
 ·by_cases h0 : 0 <= d.n
  ·simp only[eG,go_sem,thq S,nbr S,zN0,zN1,zN2,zN3,zN4,zI0,zI1,zI2,zI3,reduceCtorEq,o19_51 S,k1,h0,ge_iff_le,c_fetc_Guesses S,hi,Md.canSay,Md.canFetch]
  ·simp only[eG,go_sem,thq S,nbr S,zN0,zN1,zN2,zN3,zN4,zI0,zI1,zI2,zI3,reduceCtorEq,o19_51 S,k1,h0,ge_iff_le,Md.canSay,Md.canFetch]
 by_cases k2:d.kind=2
 ·simp only[eG,go_sem,thq S,nbr S,zN0,zN1,zN2,zN3,zN4,zI0,zI1,zI2,zI3,reduceCtorEq,o19_51 S,k1,k2,c_exec_Can S,hl,hm,Md.canSay]
 by_cases k3:d.kind=3
 ·simp only[eG,go_sem,thq S,nbr S,zN0,zN1,zN2,zN3,zN4,zI0,zI1,zI2,zI3,reduceCtorEq,o19_51 S,k1,k2,k3,c_exec_CanAddr S,hl,Md.canSay]
 by_cases k4:d.kind=4
 ·by_cases n0 : d.n = 0
  ·simp only[eG,go_sem,thq S,nbr S,zN0,zN1,zN2,zN3,zN4,zI0,zI1,zI2,zI3,reduceCtorEq,o19_51 S,k1,k2,k3,k4,n0,c_reti_Can S,Md.canSay]
  ·simp only[eG,go_sem,thq S,nbr S,zN0,zN1,zN2,zN3,zN4,zI0,zI1,zI2,zI3,reduceCtorEq,o19_51 S,k1,k2,k3,k4,n0,Md.canSay]
 ·simp only[eG,go_sem,thq S,nbr S,zN0,zN1,zN2,zN3,zN4,zI0,zI1,zI2,zI3,reduceCtorEq,o19_51 S,k1,k2,k3,k4,Md.canSay]
theorem c_dirs_Can (dp:Nat)(p_w p_wn p_fu p_r0 p_r1 p_r2 p_r3:Int)(p_ms:List MemT)(p_ls:List Label)(p_is:List Ins)(c_r0 c_r1 c_r2 c_r3:Int)(c_mm c_st:List Int)(c_pc:Int)(c_bf:List Ent)(c_rb:List Int)(c_en d_k d_n:Int)(hi:(⟨p_w,p_wn,p_fu,⟨p_r0,p_r1,p_r2,p_r3⟩,p_ms,p_ls,p_is⟩:Prog).ins.length<1073741824)(hm:(⟨p_w,p_wn,p_fu,⟨p_r0,p_r1,p_r2,p_r3⟩,p_ms,p_ls,p_is⟩:Prog).mems.length<1073741824)(hl:(⟨⟨⟨c_r0,c_r1,c_r2,c_r3⟩,c_mm,c_st,c_pc⟩,c_bf,c_rb,c_en⟩:Conf).buf.length<1073741824)(A:List Blk)(nb:Nat)(us:List Nat):evOwnK false E (evC E fn (dp+10)) 19 A nb (some ([.agg [vi p_w,vi p_wn,vi p_fu,vi p_r0,vi p_r1,vi p_r2,vi p_r3,rowD p_ms,rowD p_ls,rowD p_is],.agg [vi c_r0,vi c_r1,vi c_r2,vi c_r3,rowD c_mm,rowD c_st,vi c_pc,rowD c_bf,rowD c_rb,vi c_en],.agg [vi d_k,vi d_n]],us))=some (.made (.d (vb (Md.canSay (cellsI (⟨p_w,p_wn,p_fu,⟨p_r0,p_r1,p_r2,p_r3⟩,p_ms,p_ls,p_is⟩:Prog).mems) (⟨p_w,p_wn,p_fu,⟨p_r0,p_r1,p_r2,p_r3⟩,p_ms,p_ls,p_is⟩:Prog) (⟨⟨⟨c_r0,c_r1,c_r2,c_r3⟩,c_mm,c_st,c_pc⟩,c_bf,c_rb,c_en⟩:Conf) (⟨d_k,d_n⟩:Dir)))) []):=
 Says.flat (raw_dirs_Can S dp (⟨p_w,p_wn,p_fu,⟨p_r0,p_r1,p_r2,p_r3⟩,p_ms,p_ls,p_is⟩:Prog) (⟨⟨⟨c_r0,c_r1,c_r2,c_r3⟩,c_mm,c_st,c_pc⟩,c_bf,c_rb,c_en⟩:Conf) (⟨d_k,d_n⟩:Dir) hi hm hl) (np S 19 (by decide)) (rfl) A nb us
end
end Go.Aug.Mc
