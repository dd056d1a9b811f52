import Derived.Test.YtmfdoekbjkgckaaGreatMc11
import Derived.Test.YtmfdoekbjkgckaaGreatMc33
import Derived.Test.YtmfdoekbjkgckaaGreatMc17
import Derived.Test.YtmfdoekbjkgckaaGreatMc4
namespace Go.Aug.Mc
open Go Go.Aug
open Nat renaming reduceLT -> zN0, reduceEqDiff -> zN1, reduceAdd -> zN2, reduceMul -> zN3, reduceLeDiff -> zN4
open Int renaming reduceEq -> zI0, reduceLT -> zI1, reduceLE -> zI2, reduceNeg -> zI3
set_option linter.unusedSimpArgs false
set_option linter.unusedVariables false
set_option maxHeartbeats 40000000
set_option maxRecDepth 200000
theorem B8 {A:List Blk}{bytes j v:Nat}{out:List Dir}{a b:Int}(hA:A[j]? =some (.cells ((rC out).map .d) v false))(h1:(out.length+1)*bytes<=Z4)(h2:out.length+1<=Z4):
  ZS A 2 bytes (.sref j v 0 out.length 2 none) [.d (vi a),.d (vi b)] 1=some (.turn j (.cells ((rC (out++[⟨a,b⟩])).map .d) (v+1) false) (.sref j (v+1) 0 (out.length+1) 2 none)):=
 MJ (x:=(⟨a,b⟩:Dir)) hA rfl (by decide) rfl h1 h2
theorem AK (A:List Blk)(x y:DV)(k:Option Nat):CH A false 2 (.d (.lst [x,y] 1 k))=some ([.d x,.d y],1):=rfl
theorem B5:(1:Nat)*16<=Z4:=by decide
theorem B4:(16:Nat)<=Z4:=by decide
theorem B3:(1:Nat)<=Z4:=by decide
theorem HW {α:Type}(o:List α)(x:α):(o++[x]).length≠0:=by simp
theorem PA (n:Int):(List.range' 0 n.toNat)=List.range n.toNat:=by rw[List.range_eq_range']
variable {E:Env} {fn:FuncId->Option (Env->cT->cT)}
section
variable (S:Sur E fn)
include S
theorem Y6:E.lives 17 1=none/\E.lives 17 23=none/\E.lives 17 33=none/\E.lives 17 37=none:=⟨off S 17 1 (by decide) rfl,off S 17 23 (by decide) rfl,off S 17 33 (by decide) rfl,off S 17 37 (by decide) rfl⟩
theorem Zjd (dp:Nat)(p:Prog)(c:Conf)(hi:p.ins.length<1073741824)(hg:Md.J7 p c<2147483648)(kx:Nat->K)(D:DV)(r:List Dir)
  (hx:∀ T,ZG .bot T 2=.ref 0 0 0->ZG .bot T 3=.ref 1 0 0->ZG .bot T 5=Bw 2 r->Zz (kx 0 (mk .bot 61 T) ([.cells ((YH p).map .d) 0 false,.cells ((QU c).map .d) 0 false]++Bz r))=some D):
  ∀(m k f:Nat) (o:List Dir),((k+m:Nat):Int)=max (Md.J7 p c) k->m<=f->o.length<8589934592->o.length+m<8589934592->o++(List.range' k m).map (fun n:Nat=>(⟨1,(n:Int)⟩:Dir))=r->
  Zz (H8 (Zj E 17) (Z5 E fn (dp+2)) (Z9 8 H8 (Zj E 17) (Z5 E fn (dp+2)) kx (YD 0 [.tmp 4]) f) kx (YD 0 [.tmp 4]) (mk .bot 61 [(2,.ref 0 0 0),(3,.ref 1 0 0),(5,Bw 2 o),(6,aI k)]) ([.cells ((YH p).map .d) 0 false,.cells ((QU c).map .d) 0 false]++Bz o))=some D:=by
 intro m
 induction m with
 | zero=>
  intro k f o hk _ _ _ hr
  have hr:o=r:=by simpa using hr
  subst hr
  generalize Z9 8 H8 _ _ kx _ f=KK
  first | (conv=>lhs;rw[H8]) | rw[H8]
  by_cases h0:o.length=0
  ·have : o = [] := List.length_eq_zero_iff.1 h0
   subst this
   simp only[eG,go_sem,Z2 S,Z1 S,zN0,zN1,zN2,zN3,zN4,zI0,zI1,zI2,zI3,reduceCtorEq,Y6 S,QK,QJ,CN S,hi,show ¬(k:Int)<Md.J7 p c by omega]
   exact hx _ rfl rfl rfl
  ·rw [Yk h0, Yj h0] at *
   simp only[eG,go_sem,Z2 S,Z1 S,zN0,zN1,zN2,zN3,zN4,zI0,zI1,zI2,zI3,reduceCtorEq,Y6 S,CN S,hi,show ¬(k:Int)<Md.J7 p c by omega]
   exact hx _ rfl rfl rfl
 | succ m ih=>
  intro k f o hk hf ho ho2 hr
  obtain⟨f,rfl⟩:∃ g,f=g+1:=⟨f-1,by omega⟩
  have hkg:(k:Int)<Md.J7 p c:=by omega
  have hr':(o++[(⟨1,(k:Int)⟩:Dir)])++(List.range' (k+1) m).map (fun n:Nat=>(⟨1,(n:Int)⟩:Dir))=r:=by
   rw[<-hr,List.range'_succ,List.map_cons,List.append_assoc];rfl
  have:=ih (k+1) f (o++[⟨1,(k:Int)⟩]) (by omega) (by omega) (by simp;omega) (by simp;omega) hr'
  rw[Yk (HW _ _),Yj (HW _ _)] at this
  generalize hK:Z9 8 H8 _ _ kx _ (f+1)=KK
  first | (conv=>lhs;rw[H8]) | rw[H8]
  by_cases h0:o.length=0
  ·have : o = [] := List.length_eq_zero_iff.1 h0
   subst this
   simp only[eG,go_sem,Z2 S,Z1 S,zN0,zN1,zN2,zN3,zN4,zI0,zI1,zI2,zI3,reduceCtorEq,Y6 S,ZB,ZC,ZD,ZE,Zq,AK,B8,B5,B4,B3,Option.map_some,Nat.zero_add,Nat.one_mul,Nat.zero_mul,and_self,true_and,wi k (by omega),show(0:Nat)<1 by decide,QK,QJ,CN S,hi,hkg]
   rw[<-hK,Z6 (on S _ _ [2,3,5,6] (by decide) rfl) rfl _ _ _ _ _ _ _ _ _ rfl]
   simp only[eG,go_sem,Z2 S,Z1 S,zN0,zN1,zN2,zN3,zN4,zI0,zI1,zI2,zI3,reduceCtorEq,Y6 S]
   exact this
  ·rw [Yk h0, Yj h0]
   have k1:(o.length+1)*16<=Z4:=by unfold Z4;omega
   have k2:o.length+1<=Z4:=by unfold Z4;omega
   simp only[eG,go_sem,Z2 S,Z1 S,zN0,zN1,zN2,zN3,zN4,zI0,zI1,zI2,zI3,reduceCtorEq,Y6 S,ZB,ZC,ZD,ZE,Zq,AK,B8,B5,B4,B3,Option.map_some,Nat.zero_add,Nat.one_mul,Nat.zero_mul,and_self,true_and,wi k (by omega),show(0:Nat)<1 by decide,CN S,hi,hkg,k1,k2]
   rw[<-hK,Z6 (on S _ _ [2,3,5,6] (by decide) rfl) rfl _ _ _ _ _ _ _ _ _ rfl]
   simp only[eG,go_sem,Z2 S,Z1 S,zN0,zN1,zN2,zN3,zN4,zI0,zI1,zI2,zI3,reduceCtorEq,Y6 S]
   rw[List.length_append,List.length_singleton] at this
   exact this
theorem Zjc (dp:Nat)(p:Prog)(c:Conf)(hb:c.buf.length<1073741824)(kx:Nat->K)(D:DV)(r:List Dir)
  (hx:∀ T,ZG .bot T 2=.ref 0 0 0->ZG .bot T 3=.ref 1 0 0->ZG .bot T 5=Bw 2 r->Zz (kx 2 (mk .bot 61 T) ([.cells ((YH p).map .d) 0 false,.cells ((QU c).map .d) 0 false]++Bz r))=some D):
  ∀(m k f:Nat) (o:List Dir),k+m=c.buf.length->m<=f->o.length<8589934592->o.length+m<8589934592->o++((List.range' k m).filter fun n:Nat=>Md.can (c.state.mem.length:Int) p c (n:Int)).map (fun n:Nat=>(⟨2,(n:Int)⟩:Dir))=r->
  Zz (EG (Zj E 17) (Z5 E fn (dp+5)) (Z9 16 EG (Zj E 17) (Z5 E fn (dp+5)) kx (YD 0 [.tmp 4]) f) kx (YD 0 [.tmp 4]) (mk .bot 61 [(2,.ref 0 0 0),(3,.ref 1 0 0),(5,Bw 2 o),(7,aI k)]) ([.cells ((YH p).map .d) 0 false,.cells ((QU c).map .d) 0 false]++Bz o))=some D:=by
 intro m
 induction m with
 | zero=>
  intro k f o hk _ _ _ hr
  have hr:o=r:=by simpa using hr
  subst hr
  generalize Z9 16 EG _ _ kx _ f=KK
  first | (conv=>lhs;rw[EG]) | rw[EG]
  by_cases h0:o.length=0
  ·have : o = [] := List.length_eq_zero_iff.1 h0
   subst this
   simp only[eG,go_sem,Z2 S,Z1 S,zN0,zN1,zN2,zN3,zN4,zI0,zI1,zI2,zI3,reduceCtorEq,Y6 S,QK,QJ,show ¬(k:Int)<c.buf.length by omega]
   exact hx _ rfl rfl rfl
  ·rw [Yk h0, Yj h0] at *
   simp only[eG,go_sem,Z2 S,Z1 S,zN0,zN1,zN2,zN3,zN4,zI0,zI1,zI2,zI3,reduceCtorEq,Y6 S,show ¬(k:Int)<c.buf.length by omega]
   exact hx _ rfl rfl rfl
 | succ m ih=>
  intro k f o hk hf ho ho2 hr
  obtain⟨f,rfl⟩:∃ g,f=g+1:=⟨f-1,by omega⟩
  have hkg:(k:Int)<c.buf.length:=by omega
  cases hcan:Md.can (c.state.mem.length:Int) p c (k:Int) with
  | false=>
   have hr':o++((List.range' (k+1) m).filter fun n:Nat=>Md.can (c.state.mem.length:Int) p c (n:Int)).map (fun n:Nat=>(⟨2,(n:Int)⟩:Dir))=r:=by
    rw[<-hr,List.range'_succ,List.filter_cons,hcan];rfl
   have:=ih (k+1) f o (by omega) (by omega) ho (by omega) hr'
   generalize hK:Z9 16 EG _ _ kx _ (f+1)=KK
   first | (conv=>lhs;rw[EG]) | rw[EG]
   by_cases h0:o.length=0
   ·have : o = [] := List.length_eq_zero_iff.1 h0
    subst this
    simp only[eG,go_sem,Z2 S,Z1 S,zN0,zN1,zN2,zN3,zN4,zI0,zI1,zI2,zI3,reduceCtorEq,Y6 S,ZB,ZC,ZD,ZE,Zq,AK,B8,B5,B4,B3,Option.map_some,Nat.zero_add,Nat.one_mul,Nat.zero_mul,and_self,true_and,wi k (by omega),show(0:Nat)<1 by decide,QK,QJ,JB S,hb,hkg,hcan]
    rw[<-hK,Z6 (on S _ _ [2,3,5,7] (by decide) rfl) rfl _ _ _ _ _ _ _ _ _ rfl]
    simp only[eG,go_sem,Z2 S,Z1 S,zN0,zN1,zN2,zN3,zN4,zI0,zI1,zI2,zI3,reduceCtorEq,Y6 S]
    assumption
   ·rw [Yk h0, Yj h0] at *
    simp only[eG,go_sem,Z2 S,Z1 S,zN0,zN1,zN2,zN3,zN4,zI0,zI1,zI2,zI3,reduceCtorEq,Y6 S,ZB,ZC,ZD,ZE,Zq,AK,B8,B5,B4,B3,Option.map_some,Nat.zero_add,Nat.one_mul,Nat.zero_mul,and_self,true_and,wi k (by omega),show(0:Nat)<1 by decide,JB S,hb,hkg,hcan]
    rw[<-hK,Z6 (on S _ _ [2,3,5,7] (by decide) rfl) rfl _ _ _ _ _ _ _ _ _ rfl]
    simp only[eG,go_sem,Z2 S,Z1 S,zN0,zN1,zN2,zN3,zN4,zI0,zI1,zI2,zI3,reduceCtorEq,Y6 S]
    exact this
  | true=>
   have hr':(o++[(⟨2,(k:Int)⟩:Dir)])++((List.range' (k+1) m).filter fun n:Nat=>Md.can (c.state.mem.length:Int) p c (n:Int)).map (fun n:Nat=>(⟨2,(n:Int)⟩:Dir))=r:=by
    rw[<-hr,List.range'_succ,List.filter_cons,hcan,if_pos rfl,List.map_cons,List.append_assoc];rfl
   have:=ih (k+1) f (o++[⟨2,(k:Int)⟩]) (by omega) (by omega) (by simp;omega) (by simp;omega) hr'
   rw[Yk (HW _ _),Yj (HW _ _)] at this
   generalize hK:Z9 16 EG _ _ kx _ (f+1)=KK
   first | (conv=>lhs;rw[EG]) | rw[EG]
   by_cases h0:o.length=0
   ·have : o = [] := List.length_eq_zero_iff.1 h0
    subst this
    simp only[eG,go_sem,Z2 S,Z1 S,zN0,zN1,zN2,zN3,zN4,zI0,zI1,zI2,zI3,reduceCtorEq,Y6 S,ZB,ZC,ZD,ZE,Zq,AK,B8,B5,B4,B3,Option.map_some,Nat.zero_add,Nat.one_mul,Nat.zero_mul,and_self,true_and,wi k (by omega),show(0:Nat)<1 by decide,QK,QJ,JB S,hb,hkg,hcan]
    rw[<-hK,Z6 (on S _ _ [2,3,5,7] (by decide) rfl) rfl _ _ _ _ _ _ _ _ _ rfl]
    simp only[eG,go_sem,Z2 S,Z1 S,zN0,zN1,zN2,zN3,zN4,zI0,zI1,zI2,zI3,reduceCtorEq,Y6 S]
    assumption
   ·rw [Yk h0, Yj h0]
    have k1:(o.length+1)*16<=Z4:=by unfold Z4;omega
    have k2:o.length+1<=Z4:=by unfold Z4;omega
    simp only[eG,go_sem,Z2 S,Z1 S,zN0,zN1,zN2,zN3,zN4,zI0,zI1,zI2,zI3,reduceCtorEq,Y6 S,ZB,ZC,ZD,ZE,Zq,AK,B8,B5,B4,B3,Option.map_some,Nat.zero_add,Nat.one_mul,Nat.zero_mul,and_self,true_and,wi k (by omega),show(0:Nat)<1 by decide,JB S,hb,hkg,hcan,k1,k2]
    rw[<-hK,Z6 (on S _ _ [2,3,5,7] (by decide) rfl) rfl _ _ _ _ _ _ _ _ _ rfl]
    simp only[eG,go_sem,Z2 S,Z1 S,zN0,zN1,zN2,zN3,zN4,zI0,zI1,zI2,zI3,reduceCtorEq,Y6 S]
    rw[List.length_append,List.length_singleton] at this
    exact this
theorem Zjb (dp:Nat)(p:Prog)(c:Conf)(hb:c.buf.length<1073741824)(kx:Nat->K)(D:DV)(r:List Dir)
  (hx:∀ T,ZG .bot T 2=.ref 0 0 0->ZG .bot T 3=.ref 1 0 0->ZG .bot T 5=Bw 2 r->Zz (kx 4 (mk .bot 61 T) ([.cells ((YH p).map .d) 0 false,.cells ((QU c).map .d) 0 false]++Bz r))=some D):
  ∀(m k f:Nat) (o:List Dir),k+m=c.buf.length->m<=f->o.length<8589934592->o.length+m<8589934592->o++((List.range' k m).filter fun n:Nat=>Md.QX p c (n:Int)).map (fun n:Nat=>(⟨3,(n:Int)⟩:Dir))=r->
  Zz (EF (Zj E 17) (Z5 E fn (dp+5)) (Z9 26 EF (Zj E 17) (Z5 E fn (dp+5)) kx (YD 0 [.tmp 4]) f) kx (YD 0 [.tmp 4]) (mk .bot 61 [(2,.ref 0 0 0),(3,.ref 1 0 0),(5,Bw 2 o),(8,aI k)]) ([.cells ((YH p).map .d) 0 false,.cells ((QU c).map .d) 0 false]++Bz o))=some D:=by
 intro m
 induction m with
 | zero=>
  intro k f o hk _ _ _ hr
  have hr:o=r:=by simpa using hr
  subst hr
  generalize Z9 26 EF _ _ kx _ f=KK
  first | (conv=>lhs;rw[EF]) | rw[EF]
  by_cases h0:o.length=0
  ·have : o = [] := List.length_eq_zero_iff.1 h0
   subst this
   simp only[eG,go_sem,Z2 S,Z1 S,zN0,zN1,zN2,zN3,zN4,zI0,zI1,zI2,zI3,reduceCtorEq,Y6 S,QK,QJ,show ¬(k:Int)<c.buf.length by omega]
   exact hx _ rfl rfl rfl
  ·rw [Yk h0, Yj h0] at *
   simp only[eG,go_sem,Z2 S,Z1 S,zN0,zN1,zN2,zN3,zN4,zI0,zI1,zI2,zI3,reduceCtorEq,Y6 S,show ¬(k:Int)<c.buf.length by omega]
   exact hx _ rfl rfl rfl
 | succ m ih=>
  intro k f o hk hf ho ho2 hr
  obtain⟨f,rfl⟩:∃ g,f=g+1:=⟨f-1,by omega⟩
  have hkg:(k:Int)<c.buf.length:=by omega
  cases hcan:Md.QX p c (k:Int) with
  | false=>
   have hr':o++((List.range' (k+1) m).filter fun n:Nat=>Md.QX p c (n:Int)).map (fun n:Nat=>(⟨3,(n:Int)⟩:Dir))=r:=by
    rw[<-hr,List.range'_succ,List.filter_cons,hcan];rfl
   have:=ih (k+1) f o (by omega) (by omega) ho (by omega) hr'
   generalize hK:Z9 26 EF _ _ kx _ (f+1)=KK
   first | (conv=>lhs;rw[EF]) | rw[EF]
   by_cases h0:o.length=0
   ·have : o = [] := List.length_eq_zero_iff.1 h0
    subst this
    simp only[eG,go_sem,Z2 S,Z1 S,zN0,zN1,zN2,zN3,zN4,zI0,zI1,zI2,zI3,reduceCtorEq,Y6 S,ZB,ZC,ZD,ZE,Zq,AK,B8,B5,B4,B3,Option.map_some,Nat.zero_add,Nat.one_mul,Nat.zero_mul,and_self,true_and,wi k (by omega),show(0:Nat)<1 by decide,QK,QJ,KA S,hb,hkg,hcan]
    rw[<-hK,Z6 (on S _ _ [2,3,5,8] (by decide) rfl) rfl _ _ _ _ _ _ _ _ _ rfl]
    simp only[eG,go_sem,Z2 S,Z1 S,zN0,zN1,zN2,zN3,zN4,zI0,zI1,zI2,zI3,reduceCtorEq,Y6 S]
    assumption
   ·rw [Yk h0, Yj h0] at *
    simp only[eG,go_sem,Z2 S,Z1 S,zN0,zN1,zN2,zN3,zN4,zI0,zI1,zI2,zI3,reduceCtorEq,Y6 S,ZB,ZC,ZD,ZE,Zq,AK,B8,B5,B4,B3,Option.map_some,Nat.zero_add,Nat.one_mul,Nat.zero_mul,and_self,true_and,wi k (by omega),show(0:Nat)<1 by decide,KA S,hb,hkg,hcan]
    rw[<-hK,Z6 (on S _ _ [2,3,5,8] (by decide) rfl) rfl _ _ _ _ _ _ _ _ _ rfl]
    simp only[eG,go_sem,Z2 S,Z1 S,zN0,zN1,zN2,zN3,zN4,zI0,zI1,zI2,zI3,reduceCtorEq,Y6 S]
    exact this
  | true=>
   have hr':(o++[(⟨3,(k:Int)⟩:Dir)])++((List.range' (k+1) m).filter fun n:Nat=>Md.QX p c (n:Int)).map (fun n:Nat=>(⟨3,(n:Int)⟩:Dir))=r:=by
    rw[<-hr,List.range'_succ,List.filter_cons,hcan,if_pos rfl,List.map_cons,List.append_assoc];rfl
   have:=ih (k+1) f (o++[⟨3,(k:Int)⟩]) (by omega) (by omega) (by simp;omega) (by simp;omega) hr'
   rw[Yk (HW _ _),Yj (HW _ _)] at this
   generalize hK:Z9 26 EF _ _ kx _ (f+1)=KK
   first | (conv=>lhs;rw[EF]) | rw[EF]
   by_cases h0:o.length=0
   ·have : o = [] := List.length_eq_zero_iff.1 h0
    subst this
    simp only[eG,go_sem,Z2 S,Z1 S,zN0,zN1,zN2,zN3,zN4,zI0,zI1,zI2,zI3,reduceCtorEq,Y6 S,ZB,ZC,ZD,ZE,Zq,AK,B8,B5,B4,B3,Option.map_some,Nat.zero_add,Nat.one_mul,Nat.zero_mul,and_self,true_and,wi k (by omega),show(0:Nat)<1 by decide,QK,QJ,KA S,hb,hkg,hcan]
    rw[<-hK,Z6 (on S _ _ [2,3,5,8] (by decide) rfl) rfl _ _ _ _ _ _ _ _ _ rfl]
    simp only[eG,go_sem,Z2 S,Z1 S,zN0,zN1,zN2,zN3,zN4,zI0,zI1,zI2,zI3,reduceCtorEq,Y6 S]
    assumption
   ·rw [Yk h0, Yj h0]
    have k1:(o.length+1)*16<=Z4:=by unfold Z4;omega
    have k2:o.length+1<=Z4:=by unfold Z4;omega
    simp only[eG,go_sem,Z2 S,Z1 S,zN0,zN1,zN2,zN3,zN4,zI0,zI1,zI2,zI3,reduceCtorEq,Y6 S,ZB,ZC,ZD,ZE,Zq,AK,B8,B5,B4,B3,Option.map_some,Nat.zero_add,Nat.one_mul,Nat.zero_mul,and_self,true_and,wi k (by omega),show(0:Nat)<1 by decide,KA S,hb,hkg,hcan,k1,k2]
    rw[<-hK,Z6 (on S _ _ [2,3,5,8] (by decide) rfl) rfl _ _ _ _ _ _ _ _ _ rfl]
    simp only[eG,go_sem,Z2 S,Z1 S,zN0,zN1,zN2,zN3,zN4,zI0,zI1,zI2,zI3,reduceCtorEq,Y6 S]
    rw[List.length_append,List.length_singleton] at this
    exact this
theorem Zbd (dp:Nat)(p:Prog)(c:Conf)(hi:p.ins.length<1073741824)(hb:c.buf.length<1073741824):Z7 E fn (dp+6) 17 [ZP p,ZY c] (rD (Md.all (c.state.mem.length:Int) p c)):=by
 unfold Z7
 show Zz (Z5 E fn (dp+5+1) 17 [.d (ZP p),.d (ZY c)] [])=_
 rw[Yx,S.Z4x,Yw,Z8i,Yq _ _ _ _ _ _ _ _ rfl]
 have hg:Md.J7 p c<2147483648:=by
  unfold Md.J7;split
  ·decide
  ·split
   ·decide
   ·split
    ·omega
    ·decide
 simp only[eG,go_sem,Z2 S,Z1 S,zN0,zN1,zN2,zN3,zN4,zI0,zI1,zI2,zI3,reduceCtorEq,Y6 S]
 rw[ZU,Z6 (on S _ _ [2,3,5,6] (by decide) rfl) rfl _ _ _ _ _ _ _ _ _ rfl]
 simp only[eG,go_sem,Z2 S,Z1 S,zN0,zN1,zN2,zN3,zN4,zI0,zI1,zI2,zI3,reduceCtorEq,Y6 S]
 generalize h1:(List.range (Md.J7 p c).toNat).map (fun n:Nat=>(⟨1,(n:Int)⟩:Dir))=r1
 generalize h2:r1++((List.range c.buf.length).filter fun n:Nat=>Md.can (c.state.mem.length:Int) p c (n:Int)).map (fun n:Nat=>(⟨2,(n:Int)⟩:Dir))=r2
 generalize h3:r2++((List.range c.buf.length).filter fun n:Nat=>Md.QX p c (n:Int)).map (fun n:Nat=>(⟨3,(n:Int)⟩:Dir))=r3
 have hall:Md.all (c.state.mem.length:Int) p c=r3++(bif Md.QC p c then[⟨4,0⟩] else[]):=by
  unfold Md.all;rw[h1,h2,h3]
 have L1:r1.length<2147483648:=by rw[<-h1,List.length_map,List.length_range];omega
 have L2:r2.length<3221225472:=by
  have:=List.length_filter_le (fun n:Nat=>Md.can (c.state.mem.length:Int) p c (n:Int)) (List.range c.buf.length)
  rw[List.length_range] at this
  rw[<-h2,List.length_append,List.length_map];omega
 have L3:r3.length<4294967296:=by
  have:=List.length_filter_le (fun n:Nat=>Md.QX p c (n:Int)) (List.range c.buf.length)
  rw[List.length_range] at this
  rw[<-h3,List.length_append,List.length_map];omega
 rw[hall]
 have start:=fun(kx:Nat->K) (D:DV) hx=>Zjd S (dp+3) p c hi hg kx D r1 hx (Md.J7 p c).toNat 0 999999999999999999999999999999 [] (by omega) (by omega) (by simp) (by simp;omega) (by rw[List.nil_append,PA];exact h1)
 refine start _ _ ?_
 intro T t2 t3 t5
 have next2:=fun(kx:Nat->K) (D:DV) hx=>Zjc S dp p c hb kx D r2 hx c.buf.length 0 999999999999999999999999999999 r1 (by omega) (by omega) (by omega) (by omega) (by rw[<-List.range_eq_range'];exact h2)
 have next3:=fun(kx:Nat->K) (D:DV) hx=>Zjb S dp p c hb kx D r3 hx c.buf.length 0 999999999999999999999999999999 r2 (by omega) (by omega) (by omega) (by omega) (by rw[<-List.range_eq_range'];exact h3)
 have stop:∀ T,ZG .bot T 2=.ref 0 0 0->ZG .bot T 3=.ref 1 0 0->True:=fun _ _ _=>trivial
 by_cases z1:r1.length=0
 ·have e1 : r1 = [] := List.length_eq_zero_iff.1 z1
  rw[e1,QK] at t5
  rw[e1,QJ,List.append_nil]
  simp only[e1,QK,QJ,List.append_nil] at next2
  simp only[eG,go_sem,Z2 S,Z1 S,zN0,zN1,zN2,zN3,zN4,zI0,zI1,zI2,zI3,reduceCtorEq,Y6 S,t2,t3,t5]
  rw[ZU,Z6 (on S _ _ [2,3,5,7] (by decide) rfl) rfl _ _ _ _ _ _ _ _ _ rfl]
  simp only[eG,go_sem,Z2 S,Z1 S,zN0,zN1,zN2,zN3,zN4,zI0,zI1,zI2,zI3,reduceCtorEq,Y6 S,t2,t3,t5]
  refine next2 _ _ ?_
  clear t2 t3 t5 T
  intro T t2 t3 t5
  by_cases z2:r2.length=0
  ·have e2 : r2 = [] := List.length_eq_zero_iff.1 z2
   rw[e2,QK] at t5
   rw[e2,QJ,List.append_nil]
   simp only[e2,QK,QJ,List.append_nil] at next3
   simp only[eG,go_sem,Z2 S,Z1 S,zN0,zN1,zN2,zN3,zN4,zI0,zI1,zI2,zI3,reduceCtorEq,Y6 S,t2,t3,t5]
   rw[ZU,Z6 (on S _ _ [2,3,5,8] (by decide) rfl) rfl _ _ _ _ _ _ _ _ _ rfl]
   simp only[eG,go_sem,Z2 S,Z1 S,zN0,zN1,zN2,zN3,zN4,zI0,zI1,zI2,zI3,reduceCtorEq,Y6 S,t2,t3,t5]
   refine next3 _ _ ?_
   clear t2 t3 t5 T
   intro T t2 t3 t5
   cases hret:Md.QC p c with
   | false=>
    by_cases z3:r3.length=0
    ·have e3 : r3 = [] := List.length_eq_zero_iff.1 z3
     rw[e3,QK] at t5
     rw[e3,QJ,List.append_nil]
     simp only[eG,go_sem,Z2 S,Z1 S,zN0,zN1,zN2,zN3,zN4,zI0,zI1,zI2,zI3,reduceCtorEq,Y6 S,t2,t3,t5,QN S,hret]
    ·rw [Yk z3] at t5
     rw[Yj z3]
     have hne:r3≠[]:=fun e=>z3 (by rw[e];rfl)
     have hd:deep [.cells ((rC r3).map .d) 0 false] 8 (.sref 0 0 0 r3.length 2 none)=some (.lst (rC r3) r3.length none,[0]):=Ck r3 hne _ rfl 6 2 none rfl
     simp only[eG,go_sem,Z2 S,Z1 S,zN0,zN1,zN2,zN3,zN4,zI0,zI1,zI2,zI3,reduceCtorEq,Y6 S,t2,t3,t5,QN S,hret,hd]
     rfl
   | true=>
    by_cases z3:r3.length=0
    ·have e3 : r3 = [] := List.length_eq_zero_iff.1 z3
     rw[e3,QK] at t5
     rw[e3,QJ,List.append_nil]
     simp only[eG,go_sem,Z2 S,Z1 S,zN0,zN1,zN2,zN3,zN4,zI0,zI1,zI2,zI3,reduceCtorEq,Y6 S,ZB,ZC,ZD,ZE,Zq,AK,B8,B5,B4,B3,Option.map_some,Nat.zero_add,Nat.one_mul,Nat.zero_mul,and_self,true_and,show(0:Nat)<1 by decide,t2,t3,t5,QN S,hret,YJ,Nat.one_ne_zero,Nat.le_refl]
     rfl
    ·rw [Yk z3] at t5
     rw[Yj z3]
     have k1:(r3.length+1)*16<=Z4:=by unfold Z4;omega
     have k2:r3.length+1<=Z4:=by unfold Z4;omega
     have hd:deep [.cells ((rC (r3++[(⟨4,0⟩:Dir)])).map .d) 0 false] 8 (.sref 0 0 0 (r3.length+1) 2 none)=some (.lst (rC (r3++[(⟨4,0⟩:Dir)])) (r3++[(⟨4,0⟩:Dir)]).length none,[0]):=Ck _ (by simp) _ (by simp) 6 2 none rfl
     simp only[eG,go_sem,Z2 S,Z1 S,zN0,zN1,zN2,zN3,zN4,zI0,zI1,zI2,zI3,reduceCtorEq,Y6 S,ZB,ZC,ZD,ZE,Zq,AK,B8,B5,B4,B3,Option.map_some,Nat.zero_add,Nat.one_mul,Nat.zero_mul,and_self,true_and,show(0:Nat)<1 by decide,t2,t3,t5,QN S,hret,k1,k2,hd]
     rfl
  ·rw [Yk z2] at t5
   rw[Yj z2]
   simp only[Yk z2,Yj z2] at next3
   simp only[eG,go_sem,Z2 S,Z1 S,zN0,zN1,zN2,zN3,zN4,zI0,zI1,zI2,zI3,reduceCtorEq,Y6 S,t2,t3,t5]
   rw[ZU,Z6 (on S _ _ [2,3,5,8] (by decide) rfl) rfl _ _ _ _ _ _ _ _ _ rfl]
   simp only[eG,go_sem,Z2 S,Z1 S,zN0,zN1,zN2,zN3,zN4,zI0,zI1,zI2,zI3,reduceCtorEq,Y6 S,t2,t3,t5]
   refine next3 _ _ ?_
   clear t2 t3 t5 T
   intro T t2 t3 t5
   cases hret:Md.QC p c with
   | false=>
    by_cases z3:r3.length=0
    ·have e3 : r3 = [] := List.length_eq_zero_iff.1 z3
     rw[e3,QK] at t5
     rw[e3,QJ,List.append_nil]
     simp only[eG,go_sem,Z2 S,Z1 S,zN0,zN1,zN2,zN3,zN4,zI0,zI1,zI2,zI3,reduceCtorEq,Y6 S,t2,t3,t5,QN S,hret]
    ·rw [Yk z3] at t5
     rw[Yj z3]
     have hne:r3≠[]:=fun e=>z3 (by rw[e];rfl)
     have hd:deep [.cells ((rC r3).map .d) 0 false] 8 (.sref 0 0 0 r3.length 2 none)=some (.lst (rC r3) r3.length none,[0]):=Ck r3 hne _ rfl 6 2 none rfl
     simp only[eG,go_sem,Z2 S,Z1 S,zN0,zN1,zN2,zN3,zN4,zI0,zI1,zI2,zI3,reduceCtorEq,Y6 S,t2,t3,t5,QN S,hret,hd]
     rfl
   | true=>
    by_cases z3:r3.length=0
    ·have e3 : r3 = [] := List.length_eq_zero_iff.1 z3
     rw[e3,QK] at t5
     rw[e3,QJ,List.append_nil]
     simp only[eG,go_sem,Z2 S,Z1 S,zN0,zN1,zN2,zN3,zN4,zI0,zI1,zI2,zI3,reduceCtorEq,Y6 S,ZB,ZC,ZD,ZE,Zq,AK,B8,B5,B4,B3,Option.map_some,Nat.zero_add,Nat.one_mul,Nat.zero_mul,and_self,true_and,show(0:Nat)<1 by decide,t2,t3,t5,QN S,hret,YJ,Nat.one_ne_zero,Nat.le_refl]
     rfl
    ·rw [Yk z3] at t5
     rw[Yj z3]
     have k1:(r3.length+1)*16<=Z4:=by unfold Z4;omega
     have k2:r3.length+1<=Z4:=by unfold Z4;omega
     have hd:deep [.cells ((rC (r3++[(⟨4,0⟩:Dir)])).map .d) 0 false] 8 (.sref 0 0 0 (r3.length+1) 2 none)=some (.lst (rC (r3++[(⟨4,0⟩:Dir)])) (r3++[(⟨4,0⟩:Dir)]).length none,[0]):=Ck _ (by simp) _ (by simp) 6 2 none rfl
     simp only[eG,go_sem,Z2 S,Z1 S,zN0,zN1,zN2,zN3,zN4,zI0,zI1,zI2,zI3,reduceCtorEq,Y6 S,ZB,ZC,ZD,ZE,Zq,AK,B8,B5,B4,B3,Option.map_some,Nat.zero_add,Nat.one_mul,Nat.zero_mul,and_self,true_and,show(0:Nat)<1 by decide,t2,t3,t5,QN S,hret,k1,k2,hd]
     rfl
 ·rw [Yk z1] at t5
  rw[Yj z1]
  simp only[Yk z1,Yj z1] at next2
  simp only[eG,go_sem,Z2 S,Z1 S,zN0,zN1,zN2,zN3,zN4,zI0,zI1,zI2,zI3,reduceCtorEq,Y6 S,t2,t3,t5]
  rw[ZU,Z6 (on S _ _ [2,3,5,7] (by decide) rfl) rfl _ _ _ _ _ _ _ _ _ rfl]
  simp only[eG,go_sem,Z2 S,Z1 S,zN0,zN1,zN2,zN3,zN4,zI0,zI1,zI2,zI3,reduceCtorEq,Y6 S,t2,t3,t5]
  refine next2 _ _ ?_
  clear t2 t3 t5 T
  intro T t2 t3 t5
  by_cases z2:r2.length=0
  ·have e2 : r2 = [] := List.length_eq_zero_iff.1 z2
   rw[e2,QK] at t5
   rw[e2,QJ,List.append_nil]
   simp only[e2,QK,QJ,List.append_nil] at next3
   simp only[eG,go_sem,Z2 S,Z1 S,zN0,zN1,zN2,zN3,zN4,zI0,zI1,zI2,zI3,reduceCtorEq,Y6 S,t2,t3,t5]
   rw[ZU,Z6 (on S _ _ [2,3,5,8] (by decide) rfl) rfl _ _ _ _ _ _ _ _ _ rfl]
   simp only[eG,go_sem,Z2 S,Z1 S,zN0,zN1,zN2,zN3,zN4,zI0,zI1,zI2,zI3,reduceCtorEq,Y6 S,t2,t3,t5]
   refine next3 _ _ ?_
   clear t2 t3 t5 T
   intro T t2 t3 t5
   cases hret:Md.QC p c with
   | false=>
    by_cases z3:r3.length=0
    ·have e3 : r3 = [] := List.length_eq_zero_iff.1 z3
     rw[e3,QK] at t5
     rw[e3,QJ,List.append_nil]
     simp only[eG,go_sem,Z2 S,Z1 S,zN0,zN1,zN2,zN3,zN4,zI0,zI1,zI2,zI3,reduceCtorEq,Y6 S,t2,t3,t5,QN S,hret]
    ·rw [Yk z3] at t5
     rw[Yj z3]
     have hne:r3≠[]:=fun e=>z3 (by rw[e];rfl)
     have hd:deep [.cells ((rC r3).map .d) 0 false] 8 (.sref 0 0 0 r3.length 2 none)=some (.lst (rC r3) r3.length none,[0]):=Ck r3 hne _ rfl 6 2 none rfl
     simp only[eG,go_sem,Z2 S,Z1 S,zN0,zN1,zN2,zN3,zN4,zI0,zI1,zI2,zI3,reduceCtorEq,Y6 S,t2,t3,t5,QN S,hret,hd]
     rfl
   | true=>
    by_cases z3:r3.length=0
    ·have e3 : r3 = [] := List.length_eq_zero_iff.1 z3
     rw[e3,QK] at t5
     rw[e3,QJ,List.append_nil]
     simp only[eG,go_sem,Z2 S,Z1 S,zN0,zN1,zN2,zN3,zN4,zI0,zI1,zI2,zI3,reduceCtorEq,Y6 S,ZB,ZC,ZD,ZE,Zq,AK,B8,B5,B4,B3,Option.map_some,Nat.zero_add,Nat.one_mul,Nat.zero_mul,and_self,true_and,show(0:Nat)<1 by decide,t2,t3,t5,QN S,hret,YJ,Nat.one_ne_zero,Nat.le_refl]
     rfl
    ·rw [Yk z3] at t5
     rw[Yj z3]
     have k1:(r3.length+1)*16<=Z4:=by unfold Z4;omega
     have k2:r3.length+1<=Z4:=by unfold Z4;omega
     have hd:deep [.cells ((rC (r3++[(⟨4,0⟩:Dir)])).map .d) 0 false] 8 (.sref 0 0 0 (r3.length+1) 2 none)=some (.lst (rC (r3++[(⟨4,0⟩:Dir)])) (r3++[(⟨4,0⟩:Dir)]).length none,[0]):=Ck _ (by simp) _ (by simp) 6 2 none rfl
     simp only[eG,go_sem,Z2 S,Z1 S,zN0,zN1,zN2,zN3,zN4,zI0,zI1,zI2,zI3,reduceCtorEq,Y6 S,ZB,ZC,ZD,ZE,Zq,AK,B8,B5,B4,B3,Option.map_some,Nat.zero_add,Nat.one_mul,Nat.zero_mul,and_self,true_and,show(0:Nat)<1 by decide,t2,t3,t5,QN S,hret,k1,k2,hd]
     rfl
  ·rw [Yk z2] at t5
   rw[Yj z2]
   simp only[Yk z2,Yj z2] at next3
   simp only[eG,go_sem,Z2 S,Z1 S,zN0,zN1,zN2,zN3,zN4,zI0,zI1,zI2,zI3,reduceCtorEq,Y6 S,t2,t3,t5]
   rw[ZU,Z6 (on S _ _ [2,3,5,8] (by decide) rfl) rfl _ _ _ _ _ _ _ _ _ rfl]
   simp only[eG,go_sem,Z2 S,Z1 S,zN0,zN1,zN2,zN3,zN4,zI0,zI1,zI2,zI3,reduceCtorEq,Y6 S,t2,t3,t5]
   refine next3 _ _ ?_
   clear t2 t3 t5 T
   intro T t2 t3 t5
   cases hret:Md.QC p c with
   | false=>
    by_cases z3:r3.length=0
    ·have e3 : r3 = [] := List.length_eq_zero_iff.1 z3
     rw[e3,QK] at t5
     rw[e3,QJ,List.append_nil]
     simp only[eG,go_sem,Z2 S,Z1 S,zN0,zN1,zN2,zN3,zN4,zI0,zI1,zI2,zI3,reduceCtorEq,Y6 S,t2,t3,t5,QN S,hret]
    ·rw [Yk z3] at t5
     rw[Yj z3]
     have hne:r3≠[]:=fun e=>z3 (by rw[e];rfl)
     have hd:deep [.cells ((rC r3).map .d) 0 false] 8 (.sref 0 0 0 r3.length 2 none)=some (.lst (rC r3) r3.length none,[0]):=Ck r3 hne _ rfl 6 2 none rfl
     simp only[eG,go_sem,Z2 S,Z1 S,zN0,zN1,zN2,zN3,zN4,zI0,zI1,zI2,zI3,reduceCtorEq,Y6 S,t2,t3,t5,QN S,hret,hd]
     rfl
   | true=>
    by_cases z3:r3.length=0
    ·have e3 : r3 = [] := List.length_eq_zero_iff.1 z3
     rw[e3,QK] at t5
     rw[e3,QJ,List.append_nil]
     simp only[eG,go_sem,Z2 S,Z1 S,zN0,zN1,zN2,zN3,zN4,zI0,zI1,zI2,zI3,reduceCtorEq,Y6 S,ZB,ZC,ZD,ZE,Zq,AK,B8,B5,B4,B3,Option.map_some,Nat.zero_add,Nat.one_mul,Nat.zero_mul,and_self,true_and,show(0:Nat)<1 by decide,t2,t3,t5,QN S,hret,YJ,Nat.one_ne_zero,Nat.le_refl]
     rfl
    ·rw [Yk z3] at t5
     rw[Yj z3]
     have k1:(r3.length+1)*16<=Z4:=by unfold Z4;omega
     have k2:r3.length+1<=Z4:=by unfold Z4;omega
     have hd:deep [.cells ((rC (r3++[(⟨4,0⟩:Dir)])).map .d) 0 false] 8 (.sref 0 0 0 (r3.length+1) 2 none)=some (.lst (rC (r3++[(⟨4,0⟩:Dir)])) (r3++[(⟨4,0⟩:Dir)]).length none,[0]):=Ck _ (by simp) _ (by simp) 6 2 none rfl
     simp only[eG,go_sem,Z2 S,Z1 S,zN0,zN1,zN2,zN3,zN4,zI0,zI1,zI2,zI3,reduceCtorEq,Y6 S,ZB,ZC,ZD,ZE,Zq,AK,B8,B5,B4,B3,Option.map_some,Nat.zero_add,Nat.one_mul,Nat.zero_mul,and_self,true_and,show(0:Nat)<1 by decide,t2,t3,t5,QN S,hret,k1,k2,hd]
     rfl
theorem TS (dp:Nat)(p_w p_wn p_fu p_r0 p_r1 p_r2 p_r3:Int)(p_ms:List MemT)(p_ls:List Label)(p_is:List Ins)(c_r0 c_r1 c_r2 c_r3:Int)(c_mm c_st:List Int)(c_pc:Int)(c_bf:List Ent)(c_rb:List Int)(c_en:Int)(hi:(⟨p_w,p_wn,p_fu,⟨p_r0,p_r1,p_r2,p_r3⟩,p_ms,p_ls,p_is⟩:Prog).ins.length<1073741824)(hb:(⟨⟨⟨c_r0,c_r1,c_r2,c_r3⟩,c_mm,c_st,c_pc⟩,c_bf,c_rb,c_en⟩:Conf).buf.length<1073741824)(A:List Blk)(nb:Nat):ZX false E (Z5 E fn (dp+6)) 17 A nb (some ([.agg [vi p_w,vi p_wn,vi p_fu,vi p_r0,vi p_r1,vi p_r2,vi p_r3,rD p_ms,rD p_ls,rD p_is],.agg [vi c_r0,vi c_r1,vi c_r2,vi c_r3,rD c_mm,rD c_st,vi c_pc,rD c_bf,rD c_rb,vi c_en]],[]))=some (.made (.d (rD (Md.all ((⟨⟨⟨c_r0,c_r1,c_r2,c_r3⟩,c_mm,c_st,c_pc⟩,c_bf,c_rb,c_en⟩:Conf).state.mem.length:Int) (⟨p_w,p_wn,p_fu,⟨p_r0,p_r1,p_r2,p_r3⟩,p_ms,p_ls,p_is⟩:Prog) (⟨⟨⟨c_r0,c_r1,c_r2,c_r3⟩,c_mm,c_st,c_pc⟩,c_bf,c_rb,c_en⟩:Conf)))) []):=
 Z7.deep (Zbd S dp (⟨p_w,p_wn,p_fu,⟨p_r0,p_r1,p_r2,p_r3⟩,p_ms,p_ls,p_is⟩:Prog) (⟨⟨⟨c_r0,c_r1,c_r2,c_r3⟩,c_mm,c_st,c_pc⟩,c_bf,c_rb,c_en⟩:Conf) hi hb) (np S 17 (by decide)) A nb
end
def Dv (N:Int)(p:Prog)(c:Conf)(d:Dir):Conf×List Obs:=bif Md.Cz N p c d then Md.say N p c d else(Md.Eq,[])
variable {E:Env} {fn:FuncId->Option (Env->cT->cT)}
section
variable (S:Sur E fn)
include S
theorem Nx:E.lives 43 7=none/\E.lives 43 13=none/\E.lives 43 17=none/\E.lives 43 21=none:=⟨off S 43 7 (by decide) rfl,off S 43 13 (by decide) rfl,off S 43 17 (by decide) rfl,off S 43 21 (by decide) rfl⟩
theorem Zau (dp:Nat)(p:Prog)(c:Conf)(d:Dir)(hi:p.ins.length<1073741824)(hl:c.buf.length<1073741823)(hm:c.state.mem.length<1073741824)(hs:c.state.stack.length<1073741823)(hr:c.rsb.length<1073741823)(hg:(F0 (Md.real p c.state.stack c.buf d.n)).length<1073741824)(hz:Md.can (c.state.mem.length:Int) p c d.n=true->(Md.QA p c d.n).kind=2->(Md.ZA c.buf d.n).val=0/\(Md.ZA c.buf d.n).frm= -1)(hz2:Md.QX p c d.n=true->(Md.ZA c.buf d.n).fault=false)(hd:0<=(Md.at_ p (Md.ZA c.buf 0).pc).d/\(Md.at_ p (Md.ZA c.buf 0).pc).d<=3)(hx:Md.QC p c=true->(Md.at_ p (Md.ZA c.buf 0).pc).kind=3->(Md.ZA c.buf 0).fault=false->0<=(Md.ZA c.buf 0).addr/\(Md.ZA c.buf 0).addr<c.state.mem.length)(hy:Md.QC p c=true->(Md.at_ p (Md.ZA c.buf 0).pc).kind=9->(Md.ZA c.buf 0).fault=false->c.state.stack≠[]):Z7 E fn (dp+7) 43 [ZP p,ZY c,.agg (Cl.cells d)] (.tup [ZY (Dv (c.state.mem.length:Int) p c d).1,rD (Dv (c.state.mem.length:Int) p c d).2,vb (Md.Cz (c.state.mem.length:Int) p c d)]):=by
 unfold Z7
 show Zz (Z5 E fn (dp+6+1) 43 [.d (ZP p),.d (ZY c),.d (.agg (Cl.cells d))] [])=_
 rw[Yx,S.Z4f,Yw,Z80,Yq _ _ _ _ _ _ _ _ rfl]
 have hl':c.buf.length<1073741824:=by omega
 have hs':c.state.stack.length<1073741824:=by omega
 have hr':c.rsb.length<1073741824:=by omega
 have cF:=fun(A:List Blk) (nb:Nat)=>Z7.deep (Zb5 S (dp+3) p c d.n hi hl hs' hr) (np S 75 (by decide)) A nb
 have cD:=fun(A:List Blk) (nb:Nat)=>Z7.deep (Zb6 S dp p c d.n hl' hs' hg hz) (np S 76 (by decide)) A nb
 have cA:=fun(A:List Blk) (nb:Nat)=>Z7.deep (Zbe S dp p c d.n hl' hz2) (np S 77 (by decide)) A nb
 have cR:=fun(A:List Blk) (nb:Nat)=>Z7.deep (Zaw S (dp+2) p c hl' hm hs hd hx hy) (np S 78 (by decide)) A nb
 simp only[ZP,YH,ZY,QU] at cF cD cA cR
 by_cases k1:d.kind=1
 ·simp only [eG, go_sem, Z2 S, Z1 S, zN0, zN1, zN2, zN3, zN4, zI0, zI1, zI2, zI3, reduceCtorEq, Nx S, k1, cF, Dv, Md.Cz, Md.say, R3]
  cases hc:Md.Ew p c d.n<;>simp only[cond_true,cond_false]<;>rfl
 by_cases k2:d.kind=2
 ·simp only[eG,go_sem,Z2 S,Z1 S,zN0,zN1,zN2,zN3,zN4,zI0,zI1,zI2,zI3,reduceCtorEq,Nx S,k1,k2,cD,Dv,A0,Md.Cz,Md.say]
 by_cases k3:d.kind=3
 ·simp only[eG,go_sem,Z2 S,Z1 S,zN0,zN1,zN2,zN3,zN4,zI0,zI1,zI2,zI3,reduceCtorEq,Nx S,k1,k2,k3,cA,Dv,MM,Md.Cz,Md.say]
 by_cases k4:d.kind=4
 ·by_cases n0 : d.n = 0
  ·simp only [eG, go_sem, Z2 S, Z1 S, zN0, zN1, zN2, zN3, zN4, zI0, zI1, zI2, zI3, reduceCtorEq, Nx S, k1, k2, k3, k4, n0, cR, Dv, CF, Md.Cz, Md.say]
   cases hc:Md.QC p c<;>simp only[cond_true,cond_false]<;>rfl
  ·simp only[eG,go_sem,Z2 S,Z1 S,zN0,zN1,zN2,zN3,zN4,zI0,zI1,zI2,zI3,reduceCtorEq,Nx S,k1,k2,k3,k4,n0,Dv,Md.Cz,Md.Eq]
 ·simp only[eG,go_sem,Z2 S,Z1 S,zN0,zN1,zN2,zN3,zN4,zI0,zI1,zI2,zI3,reduceCtorEq,Nx S,k1,k2,k3,k4,Dv,Md.Cz,Md.Eq]
theorem Zi2 (dp:Nat)(p_w p_wn p_fu p_r0 p_r1 p_r2 p_r3:Int)(p_ms:List MemT)(p_ls:List Label)(p_is:List Ins)(c_r0 c_r1 c_r2 c_r3:Int)(c_mm c_st:List Int)(c_pc:Int)(c_bf:List Ent)(c_rb:List Int)(c_en d_k d_n:Int)(hi:(⟨p_w,p_wn,p_fu,⟨p_r0,p_r1,p_r2,p_r3⟩,p_ms,p_ls,p_is⟩:Prog).ins.length<1073741824)(hl:(⟨⟨⟨c_r0,c_r1,c_r2,c_r3⟩,c_mm,c_st,c_pc⟩,c_bf,c_rb,c_en⟩:Conf).buf.length<1073741823)(hm:(⟨⟨⟨c_r0,c_r1,c_r2,c_r3⟩,c_mm,c_st,c_pc⟩,c_bf,c_rb,c_en⟩:Conf).state.mem.length<1073741824)(hs:(⟨⟨⟨c_r0,c_r1,c_r2,c_r3⟩,c_mm,c_st,c_pc⟩,c_bf,c_rb,c_en⟩:Conf).state.stack.length<1073741823)(hr:(⟨⟨⟨c_r0,c_r1,c_r2,c_r3⟩,c_mm,c_st,c_pc⟩,c_bf,c_rb,c_en⟩:Conf).rsb.length<1073741823)(hg:(F0 (Md.real (⟨p_w,p_wn,p_fu,⟨p_r0,p_r1,p_r2,p_r3⟩,p_ms,p_ls,p_is⟩:Prog) (⟨⟨⟨c_r0,c_r1,c_r2,c_r3⟩,c_mm,c_st,c_pc⟩,c_bf,c_rb,c_en⟩:Conf).state.stack (⟨⟨⟨c_r0,c_r1,c_r2,c_r3⟩,c_mm,c_st,c_pc⟩,c_bf,c_rb,c_en⟩:Conf).buf (⟨d_k,d_n⟩:Dir).n)).length<1073741824)(hz:Md.can ((⟨⟨⟨c_r0,c_r1,c_r2,c_r3⟩,c_mm,c_st,c_pc⟩,c_bf,c_rb,c_en⟩:Conf).state.mem.length:Int) (⟨p_w,p_wn,p_fu,⟨p_r0,p_r1,p_r2,p_r3⟩,p_ms,p_ls,p_is⟩:Prog) (⟨⟨⟨c_r0,c_r1,c_r2,c_r3⟩,c_mm,c_st,c_pc⟩,c_bf,c_rb,c_en⟩:Conf) (⟨d_k,d_n⟩:Dir).n=true->(Md.QA (⟨p_w,p_wn,p_fu,⟨p_r0,p_r1,p_r2,p_r3⟩,p_ms,p_ls,p_is⟩:Prog) (⟨⟨⟨c_r0,c_r1,c_r2,c_r3⟩,c_mm,c_st,c_pc⟩,c_bf,c_rb,c_en⟩:Conf) (⟨d_k,d_n⟩:Dir).n).kind=2->(Md.ZA (⟨⟨⟨c_r0,c_r1,c_r2,c_r3⟩,c_mm,c_st,c_pc⟩,c_bf,c_rb,c_en⟩:Conf).buf (⟨d_k,d_n⟩:Dir).n).val=0/\(Md.ZA (⟨⟨⟨c_r0,c_r1,c_r2,c_r3⟩,c_mm,c_st,c_pc⟩,c_bf,c_rb,c_en⟩:Conf).buf (⟨d_k,d_n⟩:Dir).n).frm= -1)(hz2:Md.QX (⟨p_w,p_wn,p_fu,⟨p_r0,p_r1,p_r2,p_r3⟩,p_ms,p_ls,p_is⟩:Prog) (⟨⟨⟨c_r0,c_r1,c_r2,c_r3⟩,c_mm,c_st,c_pc⟩,c_bf,c_rb,c_en⟩:Conf) (⟨d_k,d_n⟩:Dir).n=true->(Md.ZA (⟨⟨⟨c_r0,c_r1,c_r2,c_r3⟩,c_mm,c_st,c_pc⟩,c_bf,c_rb,c_en⟩:Conf).buf (⟨d_k,d_n⟩:Dir).n).fault=false)(hd:0<=(Md.at_ (⟨p_w,p_wn,p_fu,⟨p_r0,p_r1,p_r2,p_r3⟩,p_ms,p_ls,p_is⟩:Prog) (Md.ZA (⟨⟨⟨c_r0,c_r1,c_r2,c_r3⟩,c_mm,c_st,c_pc⟩,c_bf,c_rb,c_en⟩:Conf).buf 0).pc).d/\(Md.at_ (⟨p_w,p_wn,p_fu,⟨p_r0,p_r1,p_r2,p_r3⟩,p_ms,p_ls,p_is⟩:Prog) (Md.ZA (⟨⟨⟨c_r0,c_r1,c_r2,c_r3⟩,c_mm,c_st,c_pc⟩,c_bf,c_rb,c_en⟩:Conf).buf 0).pc).d<=3)(hx:Md.QC (⟨p_w,p_wn,p_fu,⟨p_r0,p_r1,p_r2,p_r3⟩,p_ms,p_ls,p_is⟩:Prog) (⟨⟨⟨c_r0,c_r1,c_r2,c_r3⟩,c_mm,c_st,c_pc⟩,c_bf,c_rb,c_en⟩:Conf)=true->(Md.at_ (⟨p_w,p_wn,p_fu,⟨p_r0,p_r1,p_r2,p_r3⟩,p_ms,p_ls,p_is⟩:Prog) (Md.ZA (⟨⟨⟨c_r0,c_r1,c_r2,c_r3⟩,c_mm,c_st,c_pc⟩,c_bf,c_rb,c_en⟩:Conf).buf 0).pc).kind=3->(Md.ZA (⟨⟨⟨c_r0,c_r1,c_r2,c_r3⟩,c_mm,c_st,c_pc⟩,c_bf,c_rb,c_en⟩:Conf).buf 0).fault=false->0<=(Md.ZA (⟨⟨⟨c_r0,c_r1,c_r2,c_r3⟩,c_mm,c_st,c_pc⟩,c_bf,c_rb,c_en⟩:Conf).buf 0).addr/\(Md.ZA (⟨⟨⟨c_r0,c_r1,c_r2,c_r3⟩,c_mm,c_st,c_pc⟩,c_bf,c_rb,c_en⟩:Conf).buf 0).addr<(⟨⟨⟨c_r0,c_r1,c_r2,c_r3⟩,c_mm,c_st,c_pc⟩,c_bf,c_rb,c_en⟩:Conf).state.mem.length)(hy:Md.QC (⟨p_w,p_wn,p_fu,⟨p_r0,p_r1,p_r2,p_r3⟩,p_ms,p_ls,p_is⟩:Prog) (⟨⟨⟨c_r0,c_r1,c_r2,c_r3⟩,c_mm,c_st,c_pc⟩,c_bf,c_rb,c_en⟩:Conf)=true->(Md.at_ (⟨p_w,p_wn,p_fu,⟨p_r0,p_r1,p_r2,p_r3⟩,p_ms,p_ls,p_is⟩:Prog) (Md.ZA (⟨⟨⟨c_r0,c_r1,c_r2,c_r3⟩,c_mm,c_st,c_pc⟩,c_bf,c_rb,c_en⟩:Conf).buf 0).pc).kind=9->(Md.ZA (⟨⟨⟨c_r0,c_r1,c_r2,c_r3⟩,c_mm,c_st,c_pc⟩,c_bf,c_rb,c_en⟩:Conf).buf 0).fault=false->(⟨⟨⟨c_r0,c_r1,c_r2,c_r3⟩,c_mm,c_st,c_pc⟩,c_bf,c_rb,c_en⟩:Conf).state.stack≠[])(A:List Blk)(nb:Nat):ZX false E (Z5 E fn (dp+7)) 43 A nb (some ([.agg [vi p_w,vi p_wn,vi p_fu,vi p_r0,vi p_r1,vi p_r2,vi p_r3,rD p_ms,rD p_ls,rD p_is],.agg [vi c_r0,vi c_r1,vi c_r2,vi c_r3,rD c_mm,rD c_st,vi c_pc,rD c_bf,rD c_rb,vi c_en],.agg [vi d_k,vi d_n]],[]))=some (.made (.d (.tup [ZY (Dv ((⟨⟨⟨c_r0,c_r1,c_r2,c_r3⟩,c_mm,c_st,c_pc⟩,c_bf,c_rb,c_en⟩:Conf).state.mem.length:Int) (⟨p_w,p_wn,p_fu,⟨p_r0,p_r1,p_r2,p_r3⟩,p_ms,p_ls,p_is⟩:Prog) (⟨⟨⟨c_r0,c_r1,c_r2,c_r3⟩,c_mm,c_st,c_pc⟩,c_bf,c_rb,c_en⟩:Conf) (⟨d_k,d_n⟩:Dir)).1,rD (Dv ((⟨⟨⟨c_r0,c_r1,c_r2,c_r3⟩,c_mm,c_st,c_pc⟩,c_bf,c_rb,c_en⟩:Conf).state.mem.length:Int) (⟨p_w,p_wn,p_fu,⟨p_r0,p_r1,p_r2,p_r3⟩,p_ms,p_ls,p_is⟩:Prog) (⟨⟨⟨c_r0,c_r1,c_r2,c_r3⟩,c_mm,c_st,c_pc⟩,c_bf,c_rb,c_en⟩:Conf) (⟨d_k,d_n⟩:Dir)).2,vb (Md.Cz ((⟨⟨⟨c_r0,c_r1,c_r2,c_r3⟩,c_mm,c_st,c_pc⟩,c_bf,c_rb,c_en⟩:Conf).state.mem.length:Int) (⟨p_w,p_wn,p_fu,⟨p_r0,p_r1,p_r2,p_r3⟩,p_ms,p_ls,p_is⟩:Prog) (⟨⟨⟨c_r0,c_r1,c_r2,c_r3⟩,c_mm,c_st,c_pc⟩,c_bf,c_rb,c_en⟩:Conf) (⟨d_k,d_n⟩:Dir))])) []):=
 Z7.deep (Zau S dp (⟨p_w,p_wn,p_fu,⟨p_r0,p_r1,p_r2,p_r3⟩,p_ms,p_ls,p_is⟩:Prog) (⟨⟨⟨c_r0,c_r1,c_r2,c_r3⟩,c_mm,c_st,c_pc⟩,c_bf,c_rb,c_en⟩:Conf) (⟨d_k,d_n⟩:Dir) hi hl hm hs hr hg hz hz2 hd hx hy) (np S 43 (by decide)) A nb
end
end Go.Aug.Mc
namespace Go.Aug.Md
open Go Go.Aug
theorem Tx (a:Int)(k:Nat)(hk:k<=62):∃ r:Nat,r<2^k/\Y9 a ((2^k-1:Nat):Int)=r:=by
 obtain⟨r,h1,h2⟩:=Zee a k hk
 refine⟨r,h1,?_⟩
 have:E8 .and .i64 a ((2^k-1:Nat):Int)=some (.int .i64 (Y9 a ((2^k-1:Nat):Int))):=rfl
 rw[this] at h2
 simpa using h2
theorem Z3o (a:Int):∃ r:Nat,r<2/\Y9 a 1=r:=Tx a 1 (by decide)
theorem Mz (a:Int):∃ r:Nat,r<4/\Y9 a 3=r:=Tx a 2 (by decide)
theorem Zfp (a:Int):∃ r:Nat,r<256/\Y9 a 255=r:=Tx a 8 (by decide)
def kM (l:List Int)(i:Int):Int:=(l[i.toNat]?).getD i
def ZJ (x:Int)(n:Nat):Int:=x.fdiv (2^n)
def YB (x:Int)(n:Nat):Nat:=(Y9 x 255).toNat%n
theorem Zem (x:Int)(n:Nat):(Y9 x 255).tmod (n:Int)=(YB x n:Nat):=by
 obtain⟨r,_,h⟩:=Zfp x
 rw[YB,h,Int.toNat_natCast,<-Int.ofNat_tmod]
theorem NB (x:Int){n:Nat}(h:0<n):YB x n<n:=Nat.mod_lt _ h
def v0:Val:=⟨false,0⟩
def FA (n:Int):Val:=if Y9 n 4=0 then⟨false,Y9 n 3⟩ else⟨true,Y9 n 3⟩
def K2:List Int:=[1,1,2,2,2,3,3,4,5,5,5,6,7,8,9,10,11,1]
def o4:List Int:=[9,10,3,2]
def J3 (x:Int)(n:Nat):Ins:=
 let k:=K2.getD (YB x 18) 0
 let a:=FA (ZJ x 8)
 let b:=FA (ZJ x 11)
 let d:=Y9 (ZJ x 14) 3
 let t:Int:=YB (ZJ x 18) (n+1)
 if k=1 then⟨1,YB (ZJ x 16) 10+1,d,a,b,⟨#[]⟩,0⟩
 else if k=2∨k=3∨k=4 then⟨k,0,d,a,b,⟨#[]⟩,0⟩
 else if k=5 then⟨5,o4.getD (Y9 (ZJ x 16) 3).toNat 0,0,a,b,⟨#[]⟩,t⟩
 else if k=6∨k=8 then⟨k,0,0,v0,v0,⟨#[]⟩,t⟩
 else if k=7 then⟨7,0,0,a,v0,⟨#[]⟩,0⟩
 else⟨k,0,0,v0,v0,⟨#[]⟩,0⟩
def r4:List Int:=[0,0,1,2]
def SD (l:List Int)(n:Nat):Int:=r4.getD (Y9 (ZJ (kM l 1) n) 3).toNat 0
abbrev Q5 (x:Int):Int:=IntKind.i64.wrap x
def Q6 (W pub sec r:Int):Int×Int×Int:=
 if r=1/\Q5 (pub+W)<=2 then(r,Q5 (pub+W),sec) else if r=2/\Q5 (sec+W)<=2 then(r,pub,Q5 (sec+W)) else(0,pub,sec)
def QT (l:List Int)(W:Int):=Q6 W 0 0 (SD l 0)
def QS (l:List Int)(W:Int):=Q6 W (QT l W).2.1 (QT l W).2.2 (SD l 2)
def QR (l:List Int)(W:Int):=Q6 W (QS l W).2.1 (QS l W).2.2 (SD l 4)
def Qk (l:List Int)(W:Int):=Q6 W (QR l W).2.1 (QR l W).2.2 (SD l 6)
def JG (l:List Int)(W:Int):List MemT:=if 0<Y9 (ZJ (kM l 1) 8) 3 then[⟨⟨#[109]⟩,false,if W=1/\Y9 (ZJ (kM l 1) 10) 3=0 then 2 else 1⟩] else[]
def Qv (l:List Int)(W:Int):List MemT:=
 if 0<Y9 (ZJ (kM l 1) 12) 3/\Q5 ((Qk l W).2.2+W)<=3/\(JG l W=[]∨(JG l W).map MemT.n=[1]) then JG l W++[⟨⟨#[115]⟩,true,1⟩] else JG l W
def NM (n:Nat):ByteArray:=⟨#[(48+n).toUInt8]⟩
def G2 (n:Nat):Label:=⟨⟨#[108,(48+n).toUInt8]⟩,n⟩
def nM (l:List Int):Nat:=(Y9 (ZJ (kM l 0) 12) 3).toNat+2
def Z8 (l:List Int):Int:=Y9 (kM l 0) 1+1
def make (l:List Int):Prog:=
 ⟨Z8 l, YB (ZJ (kM l 0) 1) 3 + 1, 6, ⟨(QT l (Z8 l)).1, (QS l (Z8 l)).1, (QR l (Z8 l)).1, (Qk l (Z8 l)).1⟩,
  Qv l (Z8 l),(List.range (nM l+1)).map G2,(List.range (nM l)).map fun i:Nat=>J3 (kM l (i+2)) (nM l)⟩
end Go.Aug.Md
namespace Go.Aug.Md
open Go Go.Aug
set_option linter.unusedSimpArgs false
set_option linter.unusedVariables false
structure Fine (p:Prog):Prop where
 w:J2 p.w=true
 win:1<=p.window/\p.window<=3
 n:p.ins.length<=1000
 ins:∀ x ∈ p.ins,1<=x.kind/\x.kind<=12/\0<=x.d/\x.d<=3/\0<=x.target/\x.target<=p.ins.length/\(x.a.reg=true->0<=x.a.n/\x.a.n<=3)/\(x.b.reg=true->0<=x.b.n/\x.b.n<=3)
theorem Z77 {p:Prog}(pc:Int):(at_ p pc ∈ p.ins/\0<=pc/\pc<p.ins.length)∨at_ p pc=NF:=by
 unfold at_
 by_cases h:0<=pc
 ·rw [if_pos h]
  cases hx:p.ins[pc.toNat]? with
  | none=>exact .inr rfl
  | some x=>
   have:=(List.getElem?_eq_some_iff.1 hx).1
   exact .inl ⟨List.mem_of_getElem? hx,h,by omega⟩
 ·rw[if_neg h];exact .inr rfl
theorem RH {p:Prog}{pc:Int}(h:(at_ p pc).kind≠12):0<=pc/\pc<p.ins.length:=by
 rcases Z77 (p:=p) pc with⟨_,h1⟩ | h1
 ·exact h1
 ·exact absurd (by rw[h1];rfl) h
theorem Fine.at_ {p:Prog}(hp:Fine p)(pc:Int):1<=(Md.at_ p pc).kind/\(Md.at_ p pc).kind<=12/\0<=(Md.at_ p pc).d/\(Md.at_ p pc).d<=3/\0<=(Md.at_ p pc).target/\(Md.at_ p pc).target<=p.ins.length/\((Md.at_ p pc).a.reg=true->0<=(Md.at_ p pc).a.n/\(Md.at_ p pc).a.n<=3)/\((Md.at_ p pc).b.reg=true->0<=(Md.at_ p pc).b.n/\(Md.at_ p pc).b.n<=3):=by
 rcases Z77 (p:=p) pc with⟨h,_⟩ | h
 ·exact hp.ins _ h
 ·rw[h];simp[NF]
theorem MW {n:Int}(h1: -9223372036854775808<=n)(h2:n<=9223372036854775807):Y1 n=n:=YM h1 h2
theorem XX (b:Bool):0<=CS b:=by cases b<;>decide
theorem Z94 (w op a b:Int):0<=EJ w op a b:=by
 unfold EJ
 cases hw:J2 w with
 | false=>exact Int.le_refl _
 | true=>
  simp only[cond_true]
  have m:∀ n,0<=ZR w n:=fun n=>EW w n
  unfold N9
  split
  ·exact m _
  split
  ·exact m _
  split
  ·show 0<=Y9 _ _;rw[<-Zeh hw];exact m _
  split
  ·show 0<=Mk _ _;rw[<-Zeg hw];exact m _
  split
  ·show 0<=Mj _ _;rw[<-Zef hw];exact m _
  split
  ·show 0 <= shl _ _ _
   unfold shl;split
   ·exact Int.le_refl _
   ·exact m _
  split
  ·show 0 <= shr _ _ _
   unfold shr;split
   ·exact Int.le_refl _
   ·rw[<-Z2n hw];exact m _
  split
  ·exact m _
  split
  ·exact XX _
  split
  ·exact XX _
  ·exact Int.le_refl _
theorem Pv (p:Prog):∀(l l':List Ent) (st:List Int),l.map Ent.pc=l'.map Ent.pc->QV p l st=QV p l' st
 | [],[],_,_=>rfl
 | [],_::_,_,h=>by simp at h
 | _::_,[],_,h=>by simp at h
 | e::l,e'::l',st,h=>by
  simp only[List.map_cons,List.cons.injEq] at h
  unfold QV
  rw[h.1]
  split
  ·split
   ·rfl
   ·exact Pv p l l' _ h.2
  ·split
   ·split
    ·rfl
    ·exact Pv p l l' _ h.2
   ·exact Pv p l l' _ h.2
theorem US (p:Prog)(st:List Int){l l':List Ent}{i:Int}(h:(cut l i).map Ent.pc=(cut l' i).map Ent.pc):real p st l i=real p st l' i:=Pv p _ _ _ h
theorem Kx (l:List Ent)(i:Int):(cut l i).map Ent.pc=(l.map Ent.pc).take i.toNat:=by unfold cut;rw[List.map_take]
theorem Za4 {l:List Ent}{i:Nat}{e e':Ent}(h:l[i]? =some e)(hp:e'.pc=e.pc):(l.set i e').map Ent.pc=l.map Ent.pc:=by
 apply List.ext_getElem?
 intro k
 rw[List.getElem?_map,List.getElem?_map]
 by_cases hk:i=k
 ·subst hk
  have hl:=(List.getElem?_eq_some_iff.1 h).1
  rw[List.getElem?_set_self hl,h];simp[hp]
 ·rw[List.getElem?_set_ne hk]
theorem Zah (p:Prog)(st:List Int){l:List Ent}{i:Nat}{e e':Ent}(h:l[i]? =some e)(hp:e'.pc=e.pc)(k:Int):real p st (l.set i e') k=real p st l k:=
 US p st (by rw[Kx,Kx,Za4 h hp])
theorem Zag (p:Prog)(st:List Int)(l:List Ent){m:Nat}{k:Int}(h:k.toNat<=m):real p st (l.take m) k=real p st l k:=
 US p st (by rw[Kx,Kx,List.map_take,List.take_take,Nat.min_eq_left h])
theorem Z1c (p:Prog)(st:List Int)(l r:List Ent){k:Int}(h:k.toNat<=l.length):real p st (l++r) k=real p st l k:=
 US p st (by rw[Kx,Kx,List.map_append,List.take_append_of_le_length (by rw[List.length_map];exact h)])
theorem SA (p:Prog)(hp:Fine p)(Q:Int->Prop)(hQ:∀ pc:Int,0<=pc->pc<(p.ins.length:Int)->Q (pc+1)):∀(l:List Ent) (st:List Int),(∀ x ∈ st,Q x)->∀ r,QV p l st=some r->∀ x ∈ r,Q x
 | [],st,h,r,hr=>by simp[QV] at hr;subst hr;exact h
 | e::l,st,h,r,hr=>by
  unfold QV at hr
  split at hr
  ·rename_i k8
   split at hr
   ·cases hr
   ·refine SA p hp Q hQ l _ ?_ r hr
    obtain⟨a,b⟩:=RH (p:=p) (pc:=e.pc) (by rw[k8];decide)
    have:=hp.n
    intro x hx
    rcases List.mem_append.1 hx with hx | hx
    ·exact h x hx
    ·simp at hx; subst hx
     rw[MW (by omega) (by omega)];exact hQ _ a b
  ·split at hr
   ·split at hr
    ·cases hr
    ·exact SA p hp Q hQ l _ (fun x hx=>h x ((List.dropLast_sublist st).subset hx)) r hr
   ·exact SA p hp Q hQ l _ h r hr
theorem Sv (p:Prog):∀(l:List Ent) (st:List Int) r,QV p l st=some r->r.length<=st.length+l.length
 | [],st,r,hr=>by simp[QV] at hr;subst hr;simp
 | e::l,st,r,hr=>by
  unfold QV at hr
  split at hr
  ·split at hr
   ·cases hr
   ·have:=Sv p l _ r hr;simp at this ⊢;omega
  ·split at hr
   ·split at hr
    ·cases hr
    ·have:=Sv p l _ r hr;simp at this ⊢;omega
   ·have:=Sv p l _ r hr;simp at this ⊢;omega
structure EntOk (N:Int) (p:Prog) (k:Nat) (r:Option (List Int)) (e:Ent):Prop where
 pc:0<=e.pc/\e.pc<=p.ins.length
 nx: -1<=e.next/\e.next<=p.ins.length
 fr: -1<=e.frm/\e.frm<k
 vl:0<=e.val
 ld:(at_ p e.pc).kind=2->e.done=false->e.val=0/\e.frm= -1
 st:(at_ p e.pc).kind=3->e.known=false->e.fault=false
 sk:(at_ p e.pc).kind=3->e.known=true->e.fault=false->0<=e.addr/\e.addr<N
 rt:(at_ p e.pc).kind=9->e.done=true->e.fault=false->∃ l,r=some l/\l≠[]
 cl:(at_ p e.pc).kind=8->e.fault=false->∃ l,r=some l/\l.length<4
 dn:(at_ p e.pc).kind=6∨(at_ p e.pc).kind=8∨(at_ p e.pc).kind=11∨(at_ p e.pc).kind=12->e.done=true
def S6 (p:Prog)(e:Ent):Prop:=(at_ p e.pc).kind=11∨(at_ p e.pc).kind=12
structure Inv (N:Int) (p:Prog) (c:Conf):Prop where
 mem:(c.state.mem.length:Int)=N
 mv:∀ x ∈ c.state.mem,0<=x
 rg:0<=c.state.regs.r0/\0<=c.state.regs.r1/\0<=c.state.regs.r2/\0<=c.state.regs.r3
 buf:(c.buf.length:Int)<=p.window
 rsb:c.rsb.length<=2
 rv:∀ x ∈ c.rsb,0<=x/\x<=p.ins.length
 stk:c.state.stack.length<=4
 sv:∀ x ∈ c.state.stack,0<=x/\x<=p.ins.length
 pc: -1<=c.state.pc/\c.state.pc<=p.ins.length
 last:c.end_=0->c.state.pc= -1->∃ l e,c.buf=l++[e]/\S6 p e
 ent:∀(k:Nat) e,c.buf[k]? =some e->EntOk N p k (real p c.state.stack c.buf (k:Int)) e
section
variable {N:Int} {p:Prog} {c:Conf}
theorem Zg4 (h:0<=c.state.regs.r0/\0<=c.state.regs.r1/\0<=c.state.regs.r2/\0<=c.state.regs.r3)(r:Int):0<=BD c.state.regs r:=by
 unfold BD;split
 ·exact h.1
 ·split
  ·exact h.2.1
  ·split
   ·exact h.2.2.1
   ·exact h.2.2.2
theorem Z17 (p:Prog)(r d:Int)(hd:0<=d):∀ l:List Ent,(∀ e ∈ l,0<=e.val)->0<=(ES p r d l).1
 | [],_=>hd
 | e::l,h=>by
  unfold ES
  cases F5 (at_ p e.pc)&&(at_ p e.pc).d==r with
  | true=>
   cases e.done with
   | true=>exact h e (by simp)
   | false=>exact Int.le_refl _
  | false=>exact Z17 p r d hd l fun x hx=>h x (by simp[hx])
theorem Z2j {l:List Ent}{i:Int}{e:Ent}(h:e ∈ cut l i):e ∈ l:=List.mem_of_mem_take h
theorem Inv.vals (h:Inv N p c){e:Ent}(he:e ∈ c.buf):0<=e.val:=by
 obtain⟨k,hk⟩:=List.getElem?_of_mem he
 exact(h.ent k e hk).vl
theorem Inv.reg (h:Inv N p c)(i r:Int):0<=(CY p c i r).1:=by
 unfold CY Md.reg
 split
 ·exact Int.le_refl _
 ·exact Z17 p r _ (Zg4 h.rg r) _ fun e he=>h.vals (Z2j (List.mem_reverse.1 he))
theorem Inv.val (h:Inv N p c)(i:Int)(v:Val):0<=(YS p c i v).1:=by
 unfold YS Md.val
 cases v.reg with
 | true=>exact h.reg i v.n
 | false=>exact EW _ _
theorem Z31 (p:Prog)(mem:List Int)(a:Int)(hm:∀ x ∈ mem,0<=x):∀ l:List Ent,(∀ e ∈ l,0<=e.val)->0<=(J6 p mem a l).1/\((J6 p mem a l).2.2=true-> -1<=(J6 p mem a l).2.1/\(J6 p mem a l).2.1<l.length)
 | [],_=>by
  unfold J6
  split
  ·exact⟨Int.le_refl _,fun _=>⟨Int.le_refl _,by simp⟩⟩
  ·refine ⟨?_, fun _ => ⟨Int.le_refl _, by simp⟩⟩
   cases hx:mem[a.toNat]? with
   | none=>exact Int.le_refl _
   | some x=>exact hm x (List.mem_of_getElem? hx)
 | e::l,h=>by
  unfold J6
  have ih:=Z31 p mem a hm l fun x hx=>h x (by simp[hx])
  cases Mw p a e with
  | true=>
   cases e.done with
   | true=>exact⟨h e (by simp),fun _=>⟨by simp<;>omega,by simp<;>omega⟩⟩
   | false=>exact⟨Int.le_refl _,fun h=>by simp at h⟩
  | false=>exact⟨ih.1,fun h=>⟨(ih.2 h).1,by have:=(ih.2 h).2;simp;omega⟩⟩
theorem Inv.load (h:Inv N p c){i a:Int}(h0:0<=i):0<=(EX p c i a).1/\((EX p c i a).2.2=true-> -1<=(EX p c i a).2.1/\(EX p c i a).2.1<i):=by
 have:=Z31 p c.state.mem a h.mv (cut c.buf i).reverse fun e he=>h.vals (Z2j (List.mem_reverse.1 he))
 refine⟨this.1,fun hk=> ?_⟩
 obtain⟨a1,a2⟩:=this.2 hk
 refine⟨a1,Int.lt_of_lt_of_le a2 ?_⟩
 rw[List.length_reverse]
 unfold cut
 rw[List.length_take];omega
theorem Inv.real (hp:Fine p)(h:Inv N p c){i:Int}{l:List Int}(hr:real p c.state.stack c.buf i=some l):(∀ x ∈ l,0<=x/\x<=p.ins.length)/\l.length<=7:=by
 refine⟨SA p hp (fun x=>0<=x/\x<=p.ins.length) (fun pc h1 h2=>⟨by omega,by omega⟩) _ _ h.sv _ hr,?_⟩
 have h1:=Sv p _ _ _ hr
 have h2:=h.stk
 have h3:=h.buf
 have h4:=hp.win
 have:(cut c.buf i).length<=c.buf.length:=by unfold cut;rw[List.length_take];omega
 omega
theorem Z37 {l:List Int}(h:l≠[]):G1 l ∈ l:=by
 unfold G1
 rw[List.getLast?_eq_some_getLast h]
 exact List.getLast_mem h
theorem Inv.put (h:Inv N p c){i:Nat}{e e':Ent}(he:c.buf[i]? =some e)(hpc:e'.pc=e.pc)(ho:EntOk N p i (Md.real p c.state.stack c.buf (i:Int)) e'):Inv N p { c with buf:=c.buf.set i e' }:=by
 refine { h with buf:=by simpa using h.buf,last:=fun h1 h2=> ?_,ent:=fun k x hx=> ?_ }
 ·obtain ⟨l, x, hl, hs⟩ := h.last h1 h2
  have hil:=(List.getElem?_eq_some_iff.1 he).1
  rw[hl] at he hil ⊢
  rw[List.length_append,List.length_singleton] at hil
  by_cases hi:i=l.length
  ·subst hi
   rw[List.getElem?_append_right (Nat.le_refl _),Nat.sub_self] at he
   simp at he
   subst he
   refine⟨l,e',?_,?_⟩
   ·rw[List.set_append_right _ _ (Nat.le_refl _),Nat.sub_self];rfl
   ·unfold S6 at hs ⊢;rw[hpc];exact hs
  ·refine ⟨l.set i e', x, ?_, hs⟩
   rw[List.set_append_left _ _ (by omega)]
 ·show EntOk N p k (Md.real p c.state.stack (c.buf.set i e') k) x
  rw[Zah p _ he hpc]
  by_cases hk:i=k
  ·subst hk
   have hx':(c.buf.set i e')[i]? =some x:=hx
   rw[List.getElem?_set_self (List.getElem?_eq_some_iff.1 he).1] at hx'
   simp at hx'
   subst hx'
   exact ho
  ·have hx' : (c.buf.set i e')[k]? = some x := hx
   rw[List.getElem?_set_ne hk] at hx'
   exact h.ent k x hx'
theorem Inv.cut (h:Inv N p c)(m:Nat){pc:Int}(h0:0<=pc)(h1:pc<=p.ins.length):Inv N p { c with buf:=c.buf.take m,state:={ c.state with pc:=pc } }:=by
 refine { h with buf:= ?_,pc:=⟨by show -1<=pc;omega,h1⟩,last:=fun _ h2=> ?_,ent:=fun k x hx=> ?_ }
 ·have := h.buf
  show((c.buf.take m).length:Int)<=_
  rw[List.length_take];omega
 ·have : pc = -1 := h2
  omega
 ·have hx' : (c.buf.take m)[k]? = some x := hx
  rw[List.getElem?_take] at hx'
  split at hx'
  ·show EntOk N p k (Md.real p c.state.stack (c.buf.take m) k) x
   rw[Zag p _ _ (by simp;omega)]
   exact h.ent k x hx'
  ·cases hx'
theorem Inv.goes (h:Inv N p c){i:Nat}{e:Ent}(he:c.buf[i]? =some e){to:Int}(h0:0<=to)(h1:to<=p.ins.length)(ho:∀ nx,-1<=nx->nx<=(p.ins.length:Int)->EntOk N p i (Md.real p c.state.stack c.buf (i:Int)) { e with done:=true,next:=nx }):Inv N p (BC c i e to).1:=by
 unfold BC
 split
 ·exact h.put he rfl (by
   have hn:=(h.ent i e he).nx
   exact ho e.next hn.1 hn.2)
 ·exact(h.put (e':={ e with done:=true,next:=to }) he rfl (ho to (by omega) h1)).cut (i+1) h0 h1
end
end Go.Aug.Md
