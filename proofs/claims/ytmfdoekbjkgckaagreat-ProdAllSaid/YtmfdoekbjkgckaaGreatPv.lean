import Derived.Test.YtmfdoekbjkgckaaGreatMl
import Derived.Test.YtmfdoekbjkgckaaGreatMc12
import Derived.Test.YtmfdoekbjkgckaaGreatPt
import Derived.Test.YtmfdoekbjkgckaaGreatMk4
namespace Go.Aug.Mc
open Go Go.Aug
open Nat renaming reduceLT -> zN0, reduceEqDiff -> zN1, reduceAdd -> zN2, reduceMul -> zN3, reduceLeDiff -> zN4
open Int renaming reduceEq -> zI0, reduceLT -> zI1, reduceLE -> zI2, reduceNeg -> zI3
set_option linter.unusedSimpArgs false
set_option linter.unusedVariables false
set_option maxHeartbeats 40000000
set_option maxRecDepth 200000
variable {E:Env} {fn:FuncId->Option (Env->cT->cT)}
section
variable (S:Sur E fn)
include S
theorem YG:E.lives 17 1=none/\E.lives 17 23=none/\E.lives 17 33=none/\E.lives 17 37=none:=⟨off S 17 1 (by decide) rfl,off S 17 23 (by decide) rfl,off S 17 33 (by decide) rfl,off S 17 37 (by decide) rfl⟩
theorem Zci (dp:Nat)(p:Prog)(c:Conf)(hi:p.ins.length<1073741824)(hg:Md.YE p c<2147483648)(kx:Nat->K)(D:AV×List Blk)(r:List Dir)
  (hx:∀ T,ZE .bot T 2=.ref 0 0 0->ZE .bot T 3=.ref 1 0 0->ZE .bot T 5=QJ 2 r->(kx 0 (mk .bot 61 T) ([.cells ((ZX p).map .d) 0 false,.cells ((YT c).map .d) 0 false]++QH r))=some D):
  ∀(m k f:Nat) (o:List Dir),((k+m:Nat):Int)=max (Md.YE p c) k->m<=f->o.length<8589934592->o.length+m<8589934592->o++(List.range' k m).map (fun n:Nat=>(⟨1,(n:Int)⟩:Dir))=r->
  (CB (Zq E 17) (Z5 E fn (dp+2)) (Z9 8 CB (Zq E 17) (Z5 E fn (dp+2)) kx (Y0 0 [.tmp 4]) f) kx (Y0 0 [.tmp 4]) (mk .bot 61 [(2,.ref 0 0 0),(3,.ref 1 0 0),(5,QJ 2 o),(6,aI k)]) ([.cells ((ZX p).map .d) 0 false,.cells ((YT c).map .d) 0 false]++QH o))=some D:=by
 intro m
 induction m with
 | zero=>
  intro k f o hk _ _ _ hr
  have hr:o=r:=by simpa using hr
  subst hr
  generalize Z9 8 CB _ _ kx _ f=KK
  first | (conv=>lhs;rw[CB]) | rw[CB]
  by_cases h0:o.length=0
  ·have : o = [] := List.length_eq_zero_iff.1 h0
   subst this
   simp only[eG,go_sem,Z2 S,Z1 S,zN0,zN1,zN2,zN3,zN4,zI0,zI1,zI2,zI3,reduceCtorEq,YG S,ZC,ZB,BN S,hi,show ¬(k:Int)<Md.YE p c by omega]
   exact hx _ rfl rfl rfl
  ·rw [Zz h0, Zx h0] at *
   simp only[eG,go_sem,Z2 S,Z1 S,zN0,zN1,zN2,zN3,zN4,zI0,zI1,zI2,zI3,reduceCtorEq,YG S,BN S,hi,show ¬(k:Int)<Md.YE p c by omega]
   exact hx _ rfl rfl rfl
 | succ m ih=>
  intro k f o hk hf ho ho2 hr
  obtain⟨f,rfl⟩:∃ g,f=g+1:=⟨f-1,by omega⟩
  have hkg:(k:Int)<Md.YE p c:=by omega
  have hr':(o++[(⟨1,(k:Int)⟩:Dir)])++(List.range' (k+1) m).map (fun n:Nat=>(⟨1,(n:Int)⟩:Dir))=r:=by
   rw[<-hr,List.range'_succ,List.map_cons,List.append_assoc];rfl
  have:=ih (k+1) f (o++[⟨1,(k:Int)⟩]) (by omega) (by omega) (by simp;omega) (by simp;omega) hr'
  rw[Zz (Qj _ _),Zx (Qj _ _)] at this
  generalize hK:Z9 8 CB _ _ kx _ (f+1)=KK
  first | (conv=>lhs;rw[CB]) | rw[CB]
  by_cases h0:o.length=0
  ·have : o = [] := List.length_eq_zero_iff.1 h0
   subst this
   simp only[eG,go_sem,Z2 S,Z1 S,zN0,zN1,zN2,zN3,zN4,zI0,zI1,zI2,zI3,reduceCtorEq,YG S,ZG,ZH,ZJ,ZK,Z8,Yj,Yz,Yx,Yq,Yk,Option.map_some,Nat.zero_add,Nat.one_mul,Nat.zero_mul,and_self,true_and,wi k (by omega),show(0:Nat)<1 by decide,ZC,ZB,BN S,hi,hkg]
   rw[<-hK,Z7 (on S _ _ [2,3,5,6] (by decide) rfl) rfl _ _ _ _ _ _ _ _ _ rfl]
   simp only[eG,go_sem,Z2 S,Z1 S,zN0,zN1,zN2,zN3,zN4,zI0,zI1,zI2,zI3,reduceCtorEq,YG S]
   exact this
  ·rw [Zz h0, Zx h0]
   have k1:(o.length+1)*16<=Z4:=by unfold Z4;omega
   have k2:o.length+1<=Z4:=by unfold Z4;omega
   simp only[eG,go_sem,Z2 S,Z1 S,zN0,zN1,zN2,zN3,zN4,zI0,zI1,zI2,zI3,reduceCtorEq,YG S,ZG,ZH,ZJ,ZK,Z8,Yj,Yz,Yx,Yq,Yk,Option.map_some,Nat.zero_add,Nat.one_mul,Nat.zero_mul,and_self,true_and,wi k (by omega),show(0:Nat)<1 by decide,BN S,hi,hkg,k1,k2]
   rw[<-hK,Z7 (on S _ _ [2,3,5,6] (by decide) rfl) rfl _ _ _ _ _ _ _ _ _ rfl]
   simp only[eG,go_sem,Z2 S,Z1 S,zN0,zN1,zN2,zN3,zN4,zI0,zI1,zI2,zI3,reduceCtorEq,YG S]
   rw[List.length_append,List.length_singleton] at this
   exact this
theorem Zch (dp:Nat)(p:Prog)(c:Conf)(hb:c.buf.length<1073741824)(kx:Nat->K)(D:AV×List Blk)(r:List Dir)
  (hx:∀ T,ZE .bot T 2=.ref 0 0 0->ZE .bot T 3=.ref 1 0 0->ZE .bot T 5=QJ 2 r->(kx 2 (mk .bot 61 T) ([.cells ((ZX p).map .d) 0 false,.cells ((YT c).map .d) 0 false]++QH r))=some D):
  ∀(m k f:Nat) (o:List Dir),k+m=c.buf.length->m<=f->o.length<8589934592->o.length+m<8589934592->o++((List.range' k m).filter fun n:Nat=>Md.can (c.state.mem.length:Int) p c (n:Int)).map (fun n:Nat=>(⟨2,(n:Int)⟩:Dir))=r->
  (Ax (Zq E 17) (Z5 E fn (dp+5)) (Z9 16 Ax (Zq E 17) (Z5 E fn (dp+5)) kx (Y0 0 [.tmp 4]) f) kx (Y0 0 [.tmp 4]) (mk .bot 61 [(2,.ref 0 0 0),(3,.ref 1 0 0),(5,QJ 2 o),(7,aI k)]) ([.cells ((ZX p).map .d) 0 false,.cells ((YT c).map .d) 0 false]++QH o))=some D:=by
 intro m
 induction m with
 | zero=>
  intro k f o hk _ _ _ hr
  have hr:o=r:=by simpa using hr
  subst hr
  generalize Z9 16 Ax _ _ kx _ f=KK
  first | (conv=>lhs;rw[Ax]) | rw[Ax]
  by_cases h0:o.length=0
  ·have : o = [] := List.length_eq_zero_iff.1 h0
   subst this
   simp only[eG,go_sem,Z2 S,Z1 S,zN0,zN1,zN2,zN3,zN4,zI0,zI1,zI2,zI3,reduceCtorEq,YG S,ZC,ZB,show ¬(k:Int)<c.buf.length by omega]
   exact hx _ rfl rfl rfl
  ·rw [Zz h0, Zx h0] at *
   simp only[eG,go_sem,Z2 S,Z1 S,zN0,zN1,zN2,zN3,zN4,zI0,zI1,zI2,zI3,reduceCtorEq,YG S,show ¬(k:Int)<c.buf.length by omega]
   exact hx _ rfl rfl rfl
 | succ m ih=>
  intro k f o hk hf ho ho2 hr
  obtain⟨f,rfl⟩:∃ g,f=g+1:=⟨f-1,by omega⟩
  have hkg:(k:Int)<c.buf.length:=by omega
  cases hcan:Md.can (c.state.mem.length:Int) p c (k:Int) with
  | false=>
   have hr':o++((List.range' (k+1) m).filter fun n:Nat=>Md.can (c.state.mem.length:Int) p c (n:Int)).map (fun n:Nat=>(⟨2,(n:Int)⟩:Dir))=r:=by
    rw[<-hr,List.range'_succ,List.filter_cons,hcan];rfl
   have:=ih (k+1) f o (by omega) (by omega) ho (by omega) hr'
   generalize hK:Z9 16 Ax _ _ kx _ (f+1)=KK
   first | (conv=>lhs;rw[Ax]) | rw[Ax]
   by_cases h0:o.length=0
   ·have : o = [] := List.length_eq_zero_iff.1 h0
    subst this
    simp only[eG,go_sem,Z2 S,Z1 S,zN0,zN1,zN2,zN3,zN4,zI0,zI1,zI2,zI3,reduceCtorEq,YG S,ZG,ZH,ZJ,ZK,Z8,Yj,Yz,Yx,Yq,Yk,Option.map_some,Nat.zero_add,Nat.one_mul,Nat.zero_mul,and_self,true_and,wi k (by omega),show(0:Nat)<1 by decide,ZC,ZB,JF S,hb,hkg,hcan]
    rw[<-hK,Z7 (on S _ _ [2,3,5,7] (by decide) rfl) rfl _ _ _ _ _ _ _ _ _ rfl]
    simp only[eG,go_sem,Z2 S,Z1 S,zN0,zN1,zN2,zN3,zN4,zI0,zI1,zI2,zI3,reduceCtorEq,YG S]
    assumption
   ·rw [Zz h0, Zx h0] at *
    simp only[eG,go_sem,Z2 S,Z1 S,zN0,zN1,zN2,zN3,zN4,zI0,zI1,zI2,zI3,reduceCtorEq,YG S,ZG,ZH,ZJ,ZK,Z8,Yj,Yz,Yx,Yq,Yk,Option.map_some,Nat.zero_add,Nat.one_mul,Nat.zero_mul,and_self,true_and,wi k (by omega),show(0:Nat)<1 by decide,JF S,hb,hkg,hcan]
    rw[<-hK,Z7 (on S _ _ [2,3,5,7] (by decide) rfl) rfl _ _ _ _ _ _ _ _ _ rfl]
    simp only[eG,go_sem,Z2 S,Z1 S,zN0,zN1,zN2,zN3,zN4,zI0,zI1,zI2,zI3,reduceCtorEq,YG S]
    exact this
  | true=>
   have hr':(o++[(⟨2,(k:Int)⟩:Dir)])++((List.range' (k+1) m).filter fun n:Nat=>Md.can (c.state.mem.length:Int) p c (n:Int)).map (fun n:Nat=>(⟨2,(n:Int)⟩:Dir))=r:=by
    rw[<-hr,List.range'_succ,List.filter_cons,hcan,if_pos rfl,List.map_cons,List.append_assoc];rfl
   have:=ih (k+1) f (o++[⟨2,(k:Int)⟩]) (by omega) (by omega) (by simp;omega) (by simp;omega) hr'
   rw[Zz (Qj _ _),Zx (Qj _ _)] at this
   generalize hK:Z9 16 Ax _ _ kx _ (f+1)=KK
   first | (conv=>lhs;rw[Ax]) | rw[Ax]
   by_cases h0:o.length=0
   ·have : o = [] := List.length_eq_zero_iff.1 h0
    subst this
    simp only[eG,go_sem,Z2 S,Z1 S,zN0,zN1,zN2,zN3,zN4,zI0,zI1,zI2,zI3,reduceCtorEq,YG S,ZG,ZH,ZJ,ZK,Z8,Yj,Yz,Yx,Yq,Yk,Option.map_some,Nat.zero_add,Nat.one_mul,Nat.zero_mul,and_self,true_and,wi k (by omega),show(0:Nat)<1 by decide,ZC,ZB,JF S,hb,hkg,hcan]
    rw[<-hK,Z7 (on S _ _ [2,3,5,7] (by decide) rfl) rfl _ _ _ _ _ _ _ _ _ rfl]
    simp only[eG,go_sem,Z2 S,Z1 S,zN0,zN1,zN2,zN3,zN4,zI0,zI1,zI2,zI3,reduceCtorEq,YG S]
    assumption
   ·rw [Zz h0, Zx h0]
    have k1:(o.length+1)*16<=Z4:=by unfold Z4;omega
    have k2:o.length+1<=Z4:=by unfold Z4;omega
    simp only[eG,go_sem,Z2 S,Z1 S,zN0,zN1,zN2,zN3,zN4,zI0,zI1,zI2,zI3,reduceCtorEq,YG S,ZG,ZH,ZJ,ZK,Z8,Yj,Yz,Yx,Yq,Yk,Option.map_some,Nat.zero_add,Nat.one_mul,Nat.zero_mul,and_self,true_and,wi k (by omega),show(0:Nat)<1 by decide,JF S,hb,hkg,hcan,k1,k2]
    rw[<-hK,Z7 (on S _ _ [2,3,5,7] (by decide) rfl) rfl _ _ _ _ _ _ _ _ _ rfl]
    simp only[eG,go_sem,Z2 S,Z1 S,zN0,zN1,zN2,zN3,zN4,zI0,zI1,zI2,zI3,reduceCtorEq,YG S]
    rw[List.length_append,List.length_singleton] at this
    exact this
theorem Zcg (dp:Nat)(p:Prog)(c:Conf)(hb:c.buf.length<1073741824)(kx:Nat->K)(D:AV×List Blk)(r:List Dir)
  (hx:∀ T,ZE .bot T 2=.ref 0 0 0->ZE .bot T 3=.ref 1 0 0->ZE .bot T 5=QJ 2 r->(kx 4 (mk .bot 61 T) ([.cells ((ZX p).map .d) 0 false,.cells ((YT c).map .d) 0 false]++QH r))=some D):
  ∀(m k f:Nat) (o:List Dir),k+m=c.buf.length->m<=f->o.length<8589934592->o.length+m<8589934592->o++((List.range' k m).filter fun n:Nat=>Md.YU p c (n:Int)).map (fun n:Nat=>(⟨3,(n:Int)⟩:Dir))=r->
  (Aq (Zq E 17) (Z5 E fn (dp+5)) (Z9 26 Aq (Zq E 17) (Z5 E fn (dp+5)) kx (Y0 0 [.tmp 4]) f) kx (Y0 0 [.tmp 4]) (mk .bot 61 [(2,.ref 0 0 0),(3,.ref 1 0 0),(5,QJ 2 o),(8,aI k)]) ([.cells ((ZX p).map .d) 0 false,.cells ((YT c).map .d) 0 false]++QH o))=some D:=by
 intro m
 induction m with
 | zero=>
  intro k f o hk _ _ _ hr
  have hr:o=r:=by simpa using hr
  subst hr
  generalize Z9 26 Aq _ _ kx _ f=KK
  first | (conv=>lhs;rw[Aq]) | rw[Aq]
  by_cases h0:o.length=0
  ·have : o = [] := List.length_eq_zero_iff.1 h0
   subst this
   simp only[eG,go_sem,Z2 S,Z1 S,zN0,zN1,zN2,zN3,zN4,zI0,zI1,zI2,zI3,reduceCtorEq,YG S,ZC,ZB,show ¬(k:Int)<c.buf.length by omega]
   exact hx _ rfl rfl rfl
  ·rw [Zz h0, Zx h0] at *
   simp only[eG,go_sem,Z2 S,Z1 S,zN0,zN1,zN2,zN3,zN4,zI0,zI1,zI2,zI3,reduceCtorEq,YG S,show ¬(k:Int)<c.buf.length by omega]
   exact hx _ rfl rfl rfl
 | succ m ih=>
  intro k f o hk hf ho ho2 hr
  obtain⟨f,rfl⟩:∃ g,f=g+1:=⟨f-1,by omega⟩
  have hkg:(k:Int)<c.buf.length:=by omega
  cases hcan:Md.YU p c (k:Int) with
  | false=>
   have hr':o++((List.range' (k+1) m).filter fun n:Nat=>Md.YU p c (n:Int)).map (fun n:Nat=>(⟨3,(n:Int)⟩:Dir))=r:=by
    rw[<-hr,List.range'_succ,List.filter_cons,hcan];rfl
   have:=ih (k+1) f o (by omega) (by omega) ho (by omega) hr'
   generalize hK:Z9 26 Aq _ _ kx _ (f+1)=KK
   first | (conv=>lhs;rw[Aq]) | rw[Aq]
   by_cases h0:o.length=0
   ·have : o = [] := List.length_eq_zero_iff.1 h0
    subst this
    simp only[eG,go_sem,Z2 S,Z1 S,zN0,zN1,zN2,zN3,zN4,zI0,zI1,zI2,zI3,reduceCtorEq,YG S,ZG,ZH,ZJ,ZK,Z8,Yj,Yz,Yx,Yq,Yk,Option.map_some,Nat.zero_add,Nat.one_mul,Nat.zero_mul,and_self,true_and,wi k (by omega),show(0:Nat)<1 by decide,ZC,ZB,EZ S,hb,hkg,hcan]
    rw[<-hK,Z7 (on S _ _ [2,3,5,8] (by decide) rfl) rfl _ _ _ _ _ _ _ _ _ rfl]
    simp only[eG,go_sem,Z2 S,Z1 S,zN0,zN1,zN2,zN3,zN4,zI0,zI1,zI2,zI3,reduceCtorEq,YG S]
    assumption
   ·rw [Zz h0, Zx h0] at *
    simp only[eG,go_sem,Z2 S,Z1 S,zN0,zN1,zN2,zN3,zN4,zI0,zI1,zI2,zI3,reduceCtorEq,YG S,ZG,ZH,ZJ,ZK,Z8,Yj,Yz,Yx,Yq,Yk,Option.map_some,Nat.zero_add,Nat.one_mul,Nat.zero_mul,and_self,true_and,wi k (by omega),show(0:Nat)<1 by decide,EZ S,hb,hkg,hcan]
    rw[<-hK,Z7 (on S _ _ [2,3,5,8] (by decide) rfl) rfl _ _ _ _ _ _ _ _ _ rfl]
    simp only[eG,go_sem,Z2 S,Z1 S,zN0,zN1,zN2,zN3,zN4,zI0,zI1,zI2,zI3,reduceCtorEq,YG S]
    exact this
  | true=>
   have hr':(o++[(⟨3,(k:Int)⟩:Dir)])++((List.range' (k+1) m).filter fun n:Nat=>Md.YU p c (n:Int)).map (fun n:Nat=>(⟨3,(n:Int)⟩:Dir))=r:=by
    rw[<-hr,List.range'_succ,List.filter_cons,hcan,if_pos rfl,List.map_cons,List.append_assoc];rfl
   have:=ih (k+1) f (o++[⟨3,(k:Int)⟩]) (by omega) (by omega) (by simp;omega) (by simp;omega) hr'
   rw[Zz (Qj _ _),Zx (Qj _ _)] at this
   generalize hK:Z9 26 Aq _ _ kx _ (f+1)=KK
   first | (conv=>lhs;rw[Aq]) | rw[Aq]
   by_cases h0:o.length=0
   ·have : o = [] := List.length_eq_zero_iff.1 h0
    subst this
    simp only[eG,go_sem,Z2 S,Z1 S,zN0,zN1,zN2,zN3,zN4,zI0,zI1,zI2,zI3,reduceCtorEq,YG S,ZG,ZH,ZJ,ZK,Z8,Yj,Yz,Yx,Yq,Yk,Option.map_some,Nat.zero_add,Nat.one_mul,Nat.zero_mul,and_self,true_and,wi k (by omega),show(0:Nat)<1 by decide,ZC,ZB,EZ S,hb,hkg,hcan]
    rw[<-hK,Z7 (on S _ _ [2,3,5,8] (by decide) rfl) rfl _ _ _ _ _ _ _ _ _ rfl]
    simp only[eG,go_sem,Z2 S,Z1 S,zN0,zN1,zN2,zN3,zN4,zI0,zI1,zI2,zI3,reduceCtorEq,YG S]
    assumption
   ·rw [Zz h0, Zx h0]
    have k1:(o.length+1)*16<=Z4:=by unfold Z4;omega
    have k2:o.length+1<=Z4:=by unfold Z4;omega
    simp only[eG,go_sem,Z2 S,Z1 S,zN0,zN1,zN2,zN3,zN4,zI0,zI1,zI2,zI3,reduceCtorEq,YG S,ZG,ZH,ZJ,ZK,Z8,Yj,Yz,Yx,Yq,Yk,Option.map_some,Nat.zero_add,Nat.one_mul,Nat.zero_mul,and_self,true_and,wi k (by omega),show(0:Nat)<1 by decide,EZ S,hb,hkg,hcan,k1,k2]
    rw[<-hK,Z7 (on S _ _ [2,3,5,8] (by decide) rfl) rfl _ _ _ _ _ _ _ _ _ rfl]
    simp only[eG,go_sem,Z2 S,Z1 S,zN0,zN1,zN2,zN3,zN4,zI0,zI1,zI2,zI3,reduceCtorEq,YG S]
    rw[List.length_append,List.length_singleton] at this
    exact this
theorem Zh0 (dp:Nat)(p:Prog)(c:Conf)(hi:p.ins.length<1073741824)(hb:c.buf.length<1073741824):
  Z5 E fn (dp+5+1) 17 [.d (ZD p),.d (ZV c)] []=some (QJ 0 (Md.all (c.state.mem.length:Int) p c),QH (Md.all (c.state.mem.length:Int) p c)):=by
 rw[ZU,S.XW,ZW,Z1f,ZY _ _ _ _ _ _ _ _ rfl]
 have hg:Md.YE p c<2147483648:=by
  unfold Md.YE;split
  ·decide
  ·split
   ·decide
   ·split
    ·omega
    ·decide
 simp only[eG,go_sem,Z2 S,Z1 S,zN0,zN1,zN2,zN3,zN4,zI0,zI1,zI2,zI3,reduceCtorEq,YG S]
 rw[Y2,Z7 (on S _ _ [2,3,5,6] (by decide) rfl) rfl _ _ _ _ _ _ _ _ _ rfl]
 simp only[eG,go_sem,Z2 S,Z1 S,zN0,zN1,zN2,zN3,zN4,zI0,zI1,zI2,zI3,reduceCtorEq,YG S]
 generalize h1:(List.range (Md.YE p c).toNat).map (fun n:Nat=>(⟨1,(n:Int)⟩:Dir))=r1
 generalize h2:r1++((List.range c.buf.length).filter fun n:Nat=>Md.can (c.state.mem.length:Int) p c (n:Int)).map (fun n:Nat=>(⟨2,(n:Int)⟩:Dir))=r2
 generalize h3:r2++((List.range c.buf.length).filter fun n:Nat=>Md.YU p c (n:Int)).map (fun n:Nat=>(⟨3,(n:Int)⟩:Dir))=r3
 have hall:Md.all (c.state.mem.length:Int) p c=r3++(bif Md.YM p c then[⟨4,0⟩] else[]):=by
  unfold Md.all;rw[h1,h2,h3]
 have L1:r1.length<2147483648:=by rw[<-h1,List.length_map,List.length_range];omega
 have L2:r2.length<3221225472:=by
  have:=List.length_filter_le (fun n:Nat=>Md.can (c.state.mem.length:Int) p c (n:Int)) (List.range c.buf.length)
  rw[List.length_range] at this
  rw[<-h2,List.length_append,List.length_map];omega
 have L3:r3.length<4294967296:=by
  have:=List.length_filter_le (fun n:Nat=>Md.YU p c (n:Int)) (List.range c.buf.length)
  rw[List.length_range] at this
  rw[<-h3,List.length_append,List.length_map];omega
 rw[hall]
 have start:=fun(kx:Nat->K) (D:AV×List Blk) hx=>Zci S (dp+3) p c hi hg kx D r1 hx (Md.YE p c).toNat 0 999999999999999999999999999999 [] (by omega) (by omega) (by simp) (by simp;omega) (by rw[List.nil_append,MT];exact h1)
 refine start _ _ ?_
 intro T t2 t3 t5
 have next2:=fun(kx:Nat->K) (D:AV×List Blk) hx=>Zch S dp p c hb kx D r2 hx c.buf.length 0 999999999999999999999999999999 r1 (by omega) (by omega) (by omega) (by omega) (by rw[<-List.range_eq_range'];exact h2)
 have next3:=fun(kx:Nat->K) (D:AV×List Blk) hx=>Zcg S dp p c hb kx D r3 hx c.buf.length 0 999999999999999999999999999999 r2 (by omega) (by omega) (by omega) (by omega) (by rw[<-List.range_eq_range'];exact h3)
 have stop:∀ T,ZE .bot T 2=.ref 0 0 0->ZE .bot T 3=.ref 1 0 0->True:=fun _ _ _=>trivial
 by_cases z1:r1.length=0
 ·have e1 : r1 = [] := List.length_eq_zero_iff.1 z1
  rw[e1,ZC] at t5
  rw[e1,ZB,List.append_nil]
  simp only[e1,ZC,ZB,List.append_nil] at next2
  simp only[eG,go_sem,Z2 S,Z1 S,zN0,zN1,zN2,zN3,zN4,zI0,zI1,zI2,zI3,reduceCtorEq,YG S,t2,t3,t5]
  rw[Y2,Z7 (on S _ _ [2,3,5,7] (by decide) rfl) rfl _ _ _ _ _ _ _ _ _ rfl]
  simp only[eG,go_sem,Z2 S,Z1 S,zN0,zN1,zN2,zN3,zN4,zI0,zI1,zI2,zI3,reduceCtorEq,YG S,t2,t3,t5]
  refine next2 _ _ ?_
  clear t2 t3 t5 T
  intro T t2 t3 t5
  by_cases z2:r2.length=0
  ·have e2 : r2 = [] := List.length_eq_zero_iff.1 z2
   rw[e2,ZC] at t5
   rw[e2,ZB,List.append_nil]
   simp only[e2,ZC,ZB,List.append_nil] at next3
   simp only[eG,go_sem,Z2 S,Z1 S,zN0,zN1,zN2,zN3,zN4,zI0,zI1,zI2,zI3,reduceCtorEq,YG S,t2,t3,t5]
   rw[Y2,Z7 (on S _ _ [2,3,5,8] (by decide) rfl) rfl _ _ _ _ _ _ _ _ _ rfl]
   simp only[eG,go_sem,Z2 S,Z1 S,zN0,zN1,zN2,zN3,zN4,zI0,zI1,zI2,zI3,reduceCtorEq,YG S,t2,t3,t5]
   refine next3 _ _ ?_
   clear t2 t3 t5 T
   intro T t2 t3 t5
   cases hret:Md.YM p c with
   | false=>
    by_cases z3:r3.length=0
    ·have e3 : r3 = [] := List.length_eq_zero_iff.1 z3
     rw[e3,ZC] at t5
     rw[e3,ZB,List.append_nil]
     simp only[go_sem,Z2 S,Z1 S,zN0,zN1,zN2,zN3,zN4,zI0,zI1,zI2,zI3,reduceCtorEq,YG S,Q5,YY,YZ,Q1,Q2,List.getD_cons_zero,List.getD_cons_succ,List.take_succ_cons,List.take_zero,Z8,Option.map_some,ZC,ZB,t2,t3,t5,Q7 S,hret,List.append_nil]
    ·rw [Zz z3] at t5
     rw[Zx z3]
     have hne:r3≠[]:=fun e=>z3 (by rw[e];rfl)
     rw[cond_false,List.append_nil,Zz z3,Zx z3]
     simp only[go_sem,Z2 S,Z1 S,zN0,zN1,zN2,zN3,zN4,zI0,zI1,zI2,zI3,reduceCtorEq,YG S,Q5,YY,YZ,Q1,Q2,List.getD_cons_zero,List.getD_cons_succ,List.take_succ_cons,List.take_zero,Z8,Option.map_some,ZC,ZB,t2,t3,t5,Q7 S,hret]
   | true=>
    by_cases z3:r3.length=0
    ·have e3 : r3 = [] := List.length_eq_zero_iff.1 z3
     rw[e3,ZC] at t5
     rw[e3,ZB,List.append_nil]
     simp only[go_sem,Z2 S,Z1 S,zN0,zN1,zN2,zN3,zN4,zI0,zI1,zI2,zI3,reduceCtorEq,YG S,ZG,ZH,ZJ,ZK,Z8,Yj,Yz,Yx,Yq,Yk,Option.map_some,Nat.zero_add,Nat.one_mul,Nat.zero_mul,and_self,true_and,show(0:Nat)<1 by decide,Q5,YY,YZ,Q1,Q2,List.getD_cons_zero,List.getD_cons_succ,List.take_succ_cons,List.take_zero,Z8,Option.map_some,ZC,ZB,t2,t3,t5,Q7 S,hret]
     rfl
    ·rw [Zz z3] at t5
     rw[Zx z3]
     have k1:(r3.length+1)*16<=Z4:=by unfold Z4;omega
     have k2:r3.length+1<=Z4:=by unfold Z4;omega
     rw[cond_true,Zz (Qj _ _),Zx (Qj _ _),List.length_append,List.length_singleton]
     simp only[go_sem,Z2 S,Z1 S,zN0,zN1,zN2,zN3,zN4,zI0,zI1,zI2,zI3,reduceCtorEq,YG S,ZG,ZH,ZJ,ZK,Z8,Yj,Yz,Yx,Yq,Yk,Option.map_some,Nat.zero_add,Nat.one_mul,Nat.zero_mul,and_self,true_and,show(0:Nat)<1 by decide,Q5,YY,YZ,Q1,Q2,List.getD_cons_zero,List.getD_cons_succ,List.take_succ_cons,List.take_zero,Z8,Option.map_some,ZC,ZB,t2,t3,t5,Q7 S,hret,k1,k2]
  ·rw [Zz z2] at t5
   rw[Zx z2]
   simp only[Zz z2,Zx z2] at next3
   simp only[eG,go_sem,Z2 S,Z1 S,zN0,zN1,zN2,zN3,zN4,zI0,zI1,zI2,zI3,reduceCtorEq,YG S,t2,t3,t5]
   rw[Y2,Z7 (on S _ _ [2,3,5,8] (by decide) rfl) rfl _ _ _ _ _ _ _ _ _ rfl]
   simp only[eG,go_sem,Z2 S,Z1 S,zN0,zN1,zN2,zN3,zN4,zI0,zI1,zI2,zI3,reduceCtorEq,YG S,t2,t3,t5]
   refine next3 _ _ ?_
   clear t2 t3 t5 T
   intro T t2 t3 t5
   cases hret:Md.YM p c with
   | false=>
    by_cases z3:r3.length=0
    ·have e3 : r3 = [] := List.length_eq_zero_iff.1 z3
     rw[e3,ZC] at t5
     rw[e3,ZB,List.append_nil]
     simp only[go_sem,Z2 S,Z1 S,zN0,zN1,zN2,zN3,zN4,zI0,zI1,zI2,zI3,reduceCtorEq,YG S,Q5,YY,YZ,Q1,Q2,List.getD_cons_zero,List.getD_cons_succ,List.take_succ_cons,List.take_zero,Z8,Option.map_some,ZC,ZB,t2,t3,t5,Q7 S,hret,List.append_nil]
    ·rw [Zz z3] at t5
     rw[Zx z3]
     have hne:r3≠[]:=fun e=>z3 (by rw[e];rfl)
     rw[cond_false,List.append_nil,Zz z3,Zx z3]
     simp only[go_sem,Z2 S,Z1 S,zN0,zN1,zN2,zN3,zN4,zI0,zI1,zI2,zI3,reduceCtorEq,YG S,Q5,YY,YZ,Q1,Q2,List.getD_cons_zero,List.getD_cons_succ,List.take_succ_cons,List.take_zero,Z8,Option.map_some,ZC,ZB,t2,t3,t5,Q7 S,hret]
   | true=>
    by_cases z3:r3.length=0
    ·have e3 : r3 = [] := List.length_eq_zero_iff.1 z3
     rw[e3,ZC] at t5
     rw[e3,ZB,List.append_nil]
     simp only[go_sem,Z2 S,Z1 S,zN0,zN1,zN2,zN3,zN4,zI0,zI1,zI2,zI3,reduceCtorEq,YG S,ZG,ZH,ZJ,ZK,Z8,Yj,Yz,Yx,Yq,Yk,Option.map_some,Nat.zero_add,Nat.one_mul,Nat.zero_mul,and_self,true_and,show(0:Nat)<1 by decide,Q5,YY,YZ,Q1,Q2,List.getD_cons_zero,List.getD_cons_succ,List.take_succ_cons,List.take_zero,Z8,Option.map_some,ZC,ZB,t2,t3,t5,Q7 S,hret]
     rfl
    ·rw [Zz z3] at t5
     rw[Zx z3]
     have k1:(r3.length+1)*16<=Z4:=by unfold Z4;omega
     have k2:r3.length+1<=Z4:=by unfold Z4;omega
     rw[cond_true,Zz (Qj _ _),Zx (Qj _ _),List.length_append,List.length_singleton]
     simp only[go_sem,Z2 S,Z1 S,zN0,zN1,zN2,zN3,zN4,zI0,zI1,zI2,zI3,reduceCtorEq,YG S,ZG,ZH,ZJ,ZK,Z8,Yj,Yz,Yx,Yq,Yk,Option.map_some,Nat.zero_add,Nat.one_mul,Nat.zero_mul,and_self,true_and,show(0:Nat)<1 by decide,Q5,YY,YZ,Q1,Q2,List.getD_cons_zero,List.getD_cons_succ,List.take_succ_cons,List.take_zero,Z8,Option.map_some,ZC,ZB,t2,t3,t5,Q7 S,hret,k1,k2]
 ·rw [Zz z1] at t5
  rw[Zx z1]
  simp only[Zz z1,Zx z1] at next2
  simp only[eG,go_sem,Z2 S,Z1 S,zN0,zN1,zN2,zN3,zN4,zI0,zI1,zI2,zI3,reduceCtorEq,YG S,t2,t3,t5]
  rw[Y2,Z7 (on S _ _ [2,3,5,7] (by decide) rfl) rfl _ _ _ _ _ _ _ _ _ rfl]
  simp only[eG,go_sem,Z2 S,Z1 S,zN0,zN1,zN2,zN3,zN4,zI0,zI1,zI2,zI3,reduceCtorEq,YG S,t2,t3,t5]
  refine next2 _ _ ?_
  clear t2 t3 t5 T
  intro T t2 t3 t5
  by_cases z2:r2.length=0
  ·have e2 : r2 = [] := List.length_eq_zero_iff.1 z2
   rw[e2,ZC] at t5
   rw[e2,ZB,List.append_nil]
   simp only[e2,ZC,ZB,List.append_nil] at next3
   simp only[eG,go_sem,Z2 S,Z1 S,zN0,zN1,zN2,zN3,zN4,zI0,zI1,zI2,zI3,reduceCtorEq,YG S,t2,t3,t5]
   rw[Y2,Z7 (on S _ _ [2,3,5,8] (by decide) rfl) rfl _ _ _ _ _ _ _ _ _ rfl]
   simp only[eG,go_sem,Z2 S,Z1 S,zN0,zN1,zN2,zN3,zN4,zI0,zI1,zI2,zI3,reduceCtorEq,YG S,t2,t3,t5]
   refine next3 _ _ ?_
   clear t2 t3 t5 T
   intro T t2 t3 t5
   cases hret:Md.YM p c with
   | false=>
    by_cases z3:r3.length=0
    ·have e3 : r3 = [] := List.length_eq_zero_iff.1 z3
     rw[e3,ZC] at t5
     rw[e3,ZB,List.append_nil]
     simp only[go_sem,Z2 S,Z1 S,zN0,zN1,zN2,zN3,zN4,zI0,zI1,zI2,zI3,reduceCtorEq,YG S,Q5,YY,YZ,Q1,Q2,List.getD_cons_zero,List.getD_cons_succ,List.take_succ_cons,List.take_zero,Z8,Option.map_some,ZC,ZB,t2,t3,t5,Q7 S,hret,List.append_nil]
    ·rw [Zz z3] at t5
     rw[Zx z3]
     have hne:r3≠[]:=fun e=>z3 (by rw[e];rfl)
     rw[cond_false,List.append_nil,Zz z3,Zx z3]
     simp only[go_sem,Z2 S,Z1 S,zN0,zN1,zN2,zN3,zN4,zI0,zI1,zI2,zI3,reduceCtorEq,YG S,Q5,YY,YZ,Q1,Q2,List.getD_cons_zero,List.getD_cons_succ,List.take_succ_cons,List.take_zero,Z8,Option.map_some,ZC,ZB,t2,t3,t5,Q7 S,hret]
   | true=>
    by_cases z3:r3.length=0
    ·have e3 : r3 = [] := List.length_eq_zero_iff.1 z3
     rw[e3,ZC] at t5
     rw[e3,ZB,List.append_nil]
     simp only[go_sem,Z2 S,Z1 S,zN0,zN1,zN2,zN3,zN4,zI0,zI1,zI2,zI3,reduceCtorEq,YG S,ZG,ZH,ZJ,ZK,Z8,Yj,Yz,Yx,Yq,Yk,Option.map_some,Nat.zero_add,Nat.one_mul,Nat.zero_mul,and_self,true_and,show(0:Nat)<1 by decide,Q5,YY,YZ,Q1,Q2,List.getD_cons_zero,List.getD_cons_succ,List.take_succ_cons,List.take_zero,Z8,Option.map_some,ZC,ZB,t2,t3,t5,Q7 S,hret]
     rfl
    ·rw [Zz z3] at t5
     rw[Zx z3]
     have k1:(r3.length+1)*16<=Z4:=by unfold Z4;omega
     have k2:r3.length+1<=Z4:=by unfold Z4;omega
     rw[cond_true,Zz (Qj _ _),Zx (Qj _ _),List.length_append,List.length_singleton]
     simp only[go_sem,Z2 S,Z1 S,zN0,zN1,zN2,zN3,zN4,zI0,zI1,zI2,zI3,reduceCtorEq,YG S,ZG,ZH,ZJ,ZK,Z8,Yj,Yz,Yx,Yq,Yk,Option.map_some,Nat.zero_add,Nat.one_mul,Nat.zero_mul,and_self,true_and,show(0:Nat)<1 by decide,Q5,YY,YZ,Q1,Q2,List.getD_cons_zero,List.getD_cons_succ,List.take_succ_cons,List.take_zero,Z8,Option.map_some,ZC,ZB,t2,t3,t5,Q7 S,hret,k1,k2]
  ·rw [Zz z2] at t5
   rw[Zx z2]
   simp only[Zz z2,Zx z2] at next3
   simp only[eG,go_sem,Z2 S,Z1 S,zN0,zN1,zN2,zN3,zN4,zI0,zI1,zI2,zI3,reduceCtorEq,YG S,t2,t3,t5]
   rw[Y2,Z7 (on S _ _ [2,3,5,8] (by decide) rfl) rfl _ _ _ _ _ _ _ _ _ rfl]
   simp only[eG,go_sem,Z2 S,Z1 S,zN0,zN1,zN2,zN3,zN4,zI0,zI1,zI2,zI3,reduceCtorEq,YG S,t2,t3,t5]
   refine next3 _ _ ?_
   clear t2 t3 t5 T
   intro T t2 t3 t5
   cases hret:Md.YM p c with
   | false=>
    by_cases z3:r3.length=0
    ·have e3 : r3 = [] := List.length_eq_zero_iff.1 z3
     rw[e3,ZC] at t5
     rw[e3,ZB,List.append_nil]
     simp only[go_sem,Z2 S,Z1 S,zN0,zN1,zN2,zN3,zN4,zI0,zI1,zI2,zI3,reduceCtorEq,YG S,Q5,YY,YZ,Q1,Q2,List.getD_cons_zero,List.getD_cons_succ,List.take_succ_cons,List.take_zero,Z8,Option.map_some,ZC,ZB,t2,t3,t5,Q7 S,hret,List.append_nil]
    ·rw [Zz z3] at t5
     rw[Zx z3]
     have hne:r3≠[]:=fun e=>z3 (by rw[e];rfl)
     rw[cond_false,List.append_nil,Zz z3,Zx z3]
     simp only[go_sem,Z2 S,Z1 S,zN0,zN1,zN2,zN3,zN4,zI0,zI1,zI2,zI3,reduceCtorEq,YG S,Q5,YY,YZ,Q1,Q2,List.getD_cons_zero,List.getD_cons_succ,List.take_succ_cons,List.take_zero,Z8,Option.map_some,ZC,ZB,t2,t3,t5,Q7 S,hret]
   | true=>
    by_cases z3:r3.length=0
    ·have e3 : r3 = [] := List.length_eq_zero_iff.1 z3
     rw[e3,ZC] at t5
     rw[e3,ZB,List.append_nil]
     simp only[go_sem,Z2 S,Z1 S,zN0,zN1,zN2,zN3,zN4,zI0,zI1,zI2,zI3,reduceCtorEq,YG S,ZG,ZH,ZJ,ZK,Z8,Yj,Yz,Yx,Yq,Yk,Option.map_some,Nat.zero_add,Nat.one_mul,Nat.zero_mul,and_self,true_and,show(0:Nat)<1 by decide,Q5,YY,YZ,Q1,Q2,List.getD_cons_zero,List.getD_cons_succ,List.take_succ_cons,List.take_zero,Z8,Option.map_some,ZC,ZB,t2,t3,t5,Q7 S,hret]
     rfl
    ·rw [Zz z3] at t5
     rw[Zx z3]
     have k1:(r3.length+1)*16<=Z4:=by unfold Z4;omega
     have k2:r3.length+1<=Z4:=by unfold Z4;omega
     rw[cond_true,Zz (Qj _ _),Zx (Qj _ _),List.length_append,List.length_singleton]
     simp only[go_sem,Z2 S,Z1 S,zN0,zN1,zN2,zN3,zN4,zI0,zI1,zI2,zI3,reduceCtorEq,YG S,ZG,ZH,ZJ,ZK,Z8,Yj,Yz,Yx,Yq,Yk,Option.map_some,Nat.zero_add,Nat.one_mul,Nat.zero_mul,and_self,true_and,show(0:Nat)<1 by decide,Q5,YY,YZ,Q1,Q2,List.getD_cons_zero,List.getD_cons_succ,List.take_succ_cons,List.take_zero,Z8,Option.map_some,ZC,ZB,t2,t3,t5,Q7 S,hret,k1,k2]
end
theorem HP {A:List Blk}{j v:Nat}{r:List Dir}(hA:A[j]? =some (.cells ((rC r).map .d) v false))(h0:r.length≠0):deep A 8 (.sref j v 0 r.length 2 none)=some (rD r,[j]):=
 Z8l (α:=Dir) (fun e=>h0 (by rw[e];rfl)) hA 6 none
variable {E:Env} {fn:FuncId->Option (Env->cT->cT)}
section
variable (S:Sur E fn)
include S
theorem MX:E.lives 16 1=none/\E.lives 16 13=none:=⟨off S 16 1 (by decide) rfl,off S 16 13 (by decide) rfl⟩
theorem QU:E.lives 4 1=none/\E.lives 4 23=none/\E.lives 4 35=none:=⟨off S 4 1 (by decide) rfl,off S 4 23 (by decide) rfl,off S 4 35 (by decide) rfl⟩
theorem Zj3 (dp:Nat)(l:List Dir)(e:Dir)(hl:l.length<1000000)(kx:Nat->K)(hx:∀ T A,Zw (kx 0 (mk .bot 17 T) A)=some (vb false)):
  ∀(m k f:Nat),k+m=l.length->m<=f->
  Zw (NH (Zq E 16) (Z5 E fn dp) (Z9 6 NH (Zq E 16) (Z5 E fn dp) kx (Y0 0 [.tmp 4]) f) kx (Y0 0 [.tmp 4]) (mk .bot 17 [(3,.ref 0 0 0),(7,.d (rD l)),(8,aI l.length),(9,aI k)]) [.cells [.d (vi e.kind),.d (vi e.n)] 0 false])=some (vb (decide (e ∈ l.drop k))):=by
 intro m
 induction m with
 | zero=>
  intro k f hk _
  obtain rfl:k=l.length:=by omega
  generalize Z9 6 NH _ _ kx _ f=KK
  rw[NH,List.drop_length,decide_eq_false List.not_mem_nil]
  simp only[eG,go_sem,Z2 S,Z1 S,zN0,zN1,zN2,zN3,zN4,zI0,zI1,zI2,zI3,reduceCtorEq,MX S,Int.lt_irrefl]
  exact hx _ _
 | succ m ih=>
  intro k f hk hf
  obtain⟨f,rfl⟩:∃ g,f=g+1:=⟨f-1,by omega⟩
  obtain⟨d,hd⟩:=QB (show k<l.length by omega)
  have hkl:(k:Int)<l.length:=by omega
  have next:=ih (k+1) f (by omega) (by omega)
  generalize hK:Z9 6 NH _ _ kx _ (f+1)=KK
  rw[NH,BK hd]
  by_cases h:d=e
  ·subst h
   rw[decide_eq_true List.mem_cons_self]
   simp only[eG,go_sem,Z2 S,Z1 S,zN0,zN1,zN2,zN3,zN4,zI0,zI1,zI2,zI3,reduceCtorEq,MX S,hkl,Zv hd,NX]
  ·have hne:decide (e ∈ d::l.drop (k+1))=decide (e ∈ l.drop (k+1)):=by
    rw[decide_eq_decide,List.mem_cons]
    exact⟨fun h'=>h'.resolve_left fun h''=>h h''.symm,.inr⟩
   rw[hne]
   simp only[eG,go_sem,Z2 S,Z1 S,zN0,zN1,zN2,zN3,zN4,zI0,zI1,zI2,zI3,reduceCtorEq,MX S,hkl,Zv hd,NX,eq_false h,wi k (by omega)]
   rw[<-hK,Z7 (on S _ _ [3,7,8,9] (by decide) rfl) rfl _ _ _ _ _ _ _ _ _ rfl]
   simp only[eG,go_sem,Z2 S,Z1 S,zN0,zN1,zN2,zN3,zN4,zI0,zI1,zI2,zI3,reduceCtorEq,MX S]
   exact next
theorem WG (dp:Nat)(l:List Dir)(e:Dir)(hl:l.length<1000000):Z6 E fn (dp+1) 16 [rD l,.agg (Cl.cells e)] (vb (decide (e ∈ l))):=by
 unfold Z6
 show Zw (Z5 E fn (dp+1) 16 [.d (rD l),.d (.agg (Cl.cells e))] [])=_
 rw[ZU,S.Z67,ZW,Zaf,ZY _ _ _ _ _ _ _ _ rfl]
 simp only[eG,go_sem,Z2 S,Z1 S,zN0,zN1,zN2,zN3,zN4,zI0,zI1,zI2,zI3,reduceCtorEq,MX S]
 rw[Y2,Z7 (on S _ _ [3,7,8,9] (by decide) rfl) rfl _ _ _ _ _ _ _ _ _ rfl]
 simp only[eG,go_sem,Z2 S,Z1 S,zN0,zN1,zN2,zN3,zN4,zI0,zI1,zI2,zI3,reduceCtorEq,MX S]
 have go:=fun(kx:Nat->K) hx=>Zj3 S dp l e hl kx hx l.length 0 999999999999999999999999999999 (by omega) (by omega)
 simp only[Int.cast_ofNat_Int,List.drop_zero] at go
 refine go _ ?_
 intro T A
 simp only[eG,go_sem,Z2 S,Z1 S,zN0,zN1,zN2,zN3,zN4,zI0,zI1,zI2,zI3,reduceCtorEq,MX S]
omit S in
theorem Znc (A:List Blk)(s bytes i v o l z:Nat)(k:Option Nat)(new:List AV):J4 A s bytes (.sref i v o l z k) new 0=some .same:=by
 unfold J4
 rw[if_pos rfl]
theorem TX (dp:Nat){p:Prog}(hp:Md.Fine p)(hN:Zj p.mems<=1000){c:Conf}(hI:Md.Inv (Zj p.mems) p c)(A:List Blk)(nb:Nat)(us:List Nat):
  Y1 true E (Z5 E fn (dp+6)) 17 A nb (some ([ZD p,ZV c],us))=some (.made (QJ nb (Md.all (Zj p.mems) p c)) (QH (Md.all (Zj p.mems) p c))):=by
 obtain⟨a1,a2,_⟩:=Nj hp hI hN ⟨0,0⟩
 refine Z3m ?_ A nb us
 unfold JZ
 rw[np S 17 (by decide)]
 have h:=Zh0 S dp p c (by omega) (by omega)
 have hm:(c.state.mem.length:Int)=Zj p.mems:=hI.mem
 rw[hm] at h
 exact h
theorem Zg3 (dp:Nat){p:Prog}(hp:Md.Fine p)(hN:Zj p.mems<=1000){x y:Conf}(hIx:Md.Inv (Zj p.mems) p x)(hIy:Md.Inv (Zj p.mems) p y)(L L1 L2:List Dir)(hL1:Md.all (Zj p.mems) p x=L1)(hL2:Md.all (Zj p.mems) p y=L2)(hLl:L.length<1000000)(l1:L1.length<1000000)(l2:L2.length<1000000)
  (hs:L.Pairwise Md.YA) (hm:∀ d ∈ L,d ∈ L1∨d ∈ L2) (kx:Nat->K) (D:Option (AV×List Blk))
  (hx:∀ T,ZE .bot T 9=.ref 0 0 0->ZE .bot T 12=.ref 1 0 0->ZE .bot T 13=.ref 2 0 0->ZE .bot T 14=.d (rD L)->ZE .bot T 15=.fn (.func 16) []->kx 0 (mk .bot 135 T) [.cells ((ZX p).map .d) 0 false,.cells ((YT x).map .d) 0 false,.cells ((YT y).map .d) 0 false]=D):
  ∀(m k f:Nat),k+m=L.length->m<=f->
  Kj (Zq E 4) (Z5 E fn (dp+12)) (Z9 16 Kj (Zq E 4) (Z5 E fn (dp+12)) kx (Y0 0 [.tmp 8]) f) kx (Y0 0 [.tmp 8]) (mk .bot 135 [(9,.ref 0 0 0),(12,.ref 1 0 0),(13,.ref 2 0 0),(14,.d (rD L)),(15,.fn (.func 16) []),(41,.d (rD L)),(42,aI L.length),(43,aI k)]) [.cells ((ZX p).map .d) 0 false,.cells ((YT x).map .d) 0 false,.cells ((YT y).map .d) 0 false]=D:=by
 intro m
 induction m with
 | zero=>
  intro k f hk _
  obtain rfl:k=L.length:=by omega
  generalize Z9 16 Kj _ _ kx _ f=KK
  first | (conv=>lhs;rw[Kj]) | rw[Kj]
  simp only[eG,go_sem,Z2 S,Z1 S,zN0,zN1,zN2,zN3,zN4,zI0,zI1,zI2,zI3,reduceCtorEq,QU S,Int.lt_irrefl]
  exact hx _ rfl rfl rfl rfl rfl
 | succ m ih=>
  intro k f hk hf
  obtain⟨f,rfl⟩:∃ g,f=g+1:=⟨f-1,by omega⟩
  obtain⟨d,hd⟩:=QB (show k<L.length by omega)
  have hkl:(k:Int)<L.length:=by omega
  have o1:=fun(A:List Blk) (nb:Nat) (us:List Nat)=>TX S (dp+6) hp hN hIx A nb us
  have o2:=fun(A:List Blk) (nb:Nat) (us:List Nat)=>TX S (dp+6) hp hN hIy A nb us
  rw[hL1] at o1
  rw[hL2] at o2
  have cH1:=fun(A:List Blk) (nb:Nat) (us:List Nat)=>Z6.flat (WG S (dp+11) L1 d l1) (np S 16 (by decide)) rfl A nb us
  have cH2:=fun(A:List Blk) (nb:Nat) (us:List Nat)=>Z6.flat (WG S (dp+11) L2 d l2) (np S 16 (by decide)) rfl A nb us
  have next:=ih (k+1) f (by omega) (by omega)
  simp only[ZD,ZX,ZV,YT,Z0h] at o1 o2 cH1 cH2
  generalize hK:Z9 16 Kj _ _ kx _ (f+1)=KK
  first | (conv=>lhs;rw[Kj]) | rw[Kj]
  by_cases he:d ∈ L1
  ·have z1 : L1.length ≠ 0 := fun h => by rw [List.length_eq_zero_iff.1 h] at he; cases he
   rw[decide_eq_true he] at cH1
   simp only[Zz z1,Zx z1] at o1
   by_cases hk0:k=0
   ·subst hk0
    simp only[eG,go_sem,Z2 S,Z1 S,zN0,zN1,zN2,zN3,zN4,zI0,zI1,zI2,zI3,reduceCtorEq,QU S,hkl,Zv hd,o1,YR,HP,z1,ne_eq,not_false_eq_true,cH1,cH2,Bool.not_false,Bool.not_true,gt_iff_lt,ge_iff_le,wi 0 (by omega),show ¬(0:Int)<((0:Nat):Int) by decide]
    rw[<-hK,Z7 (on S _ _ [9,12,13,14,15,41,42,43] (by decide) rfl) rfl _ _ _ _ _ _ _ _ _ rfl]
    simp only[eG,go_sem,Z2 S,Z1 S,zN0,zN1,zN2,zN3,zN4,zI0,zI1,zI2,zI3,reduceCtorEq,QU S]
    exact next
   ·have hk1 : (0 : Int) < k := by omega
    obtain⟨b,hb⟩:=QB (show k-1<L.length by omega)
    have hlt:Md.YA b d:=by
     obtain⟨hi,rfl⟩:=List.getElem?_eq_some_iff.1 hb
     obtain⟨hj,rfl⟩:=List.getElem?_eq_some_iff.1 hd
     exact List.pairwise_iff_getElem.1 hs _ _ hi hj (by omega)
    have wk:IntKind.i64.wrap ((k:Int)-1)=((k-1:Nat):Int):=by rw[YX (by omega) (by omega)];omega
    have q1:¬d.kind<b.kind:=by unfold Md.YA at hlt;omega
    by_cases hq:b.kind=d.kind
    ·have q2 : ¬ d.n <= b.n := by unfold Md.YA at hlt; omega
     simp only[eG,go_sem,Z2 S,Z1 S,zN0,zN1,zN2,zN3,zN4,zI0,zI1,zI2,zI3,reduceCtorEq,QU S,hkl,Zv hd,o1,YR,HP,z1,ne_eq,not_false_eq_true,cH1,cH2,Bool.not_false,Bool.not_true,gt_iff_lt,ge_iff_le,wi k (by omega),hk1,wk,Zv hb,q1,eq_true hq,q2]
     rw[<-hK,Z7 (on S _ _ [9,12,13,14,15,41,42,43] (by decide) rfl) rfl _ _ _ _ _ _ _ _ _ rfl]
     simp only[eG,go_sem,Z2 S,Z1 S,zN0,zN1,zN2,zN3,zN4,zI0,zI1,zI2,zI3,reduceCtorEq,QU S]
     exact next
    ·simp only [eG, go_sem, Z2 S, Z1 S, zN0, zN1, zN2, zN3, zN4, zI0, zI1, zI2, zI3, reduceCtorEq, QU S, hkl, Zv hd, o1, YR, HP, z1, ne_eq, not_false_eq_true, cH1, cH2, Bool.not_false, Bool.not_true, gt_iff_lt, ge_iff_le, wi k (by omega), hk1, wk, Zv hb, q1, eq_false hq]
     rw[<-hK,Z7 (on S _ _ [9,12,13,14,15,41,42,43] (by decide) rfl) rfl _ _ _ _ _ _ _ _ _ rfl]
     simp only[eG,go_sem,Z2 S,Z1 S,zN0,zN1,zN2,zN3,zN4,zI0,zI1,zI2,zI3,reduceCtorEq,QU S]
     exact next
  ·have he2 : d ∈ L2 := (hm d (List.mem_of_getElem? hd)).resolve_left he
   have z2:L2.length≠0:=fun h=>by rw[List.length_eq_zero_iff.1 h] at he2;cases he2
   rw[decide_eq_false he] at cH1
   rw[decide_eq_true he2] at cH2
   simp only[Zz z2,Zx z2] at o2
   by_cases z1:L1.length=0
   ·have e1 : L1 = [] := List.length_eq_zero_iff.1 z1
    subst e1
    simp only[ZC,ZB] at o1
    simp only[VP] at cH1
    by_cases hk0:k=0
    ·subst hk0
     simp only[eG,go_sem,Z2 S,Z1 S,zN0,zN1,zN2,zN3,zN4,zI0,zI1,zI2,zI3,reduceCtorEq,QU S,hkl,Zv hd,o1,o2,YR,HP,z2,ne_eq,not_false_eq_true,cH1,cH2,Bool.not_false,Bool.not_true,gt_iff_lt,ge_iff_le,wi 0 (by omega),show ¬(0:Int)<((0:Nat):Int) by decide]
     rw[<-hK,Z7 (on S _ _ [9,12,13,14,15,41,42,43] (by decide) rfl) rfl _ _ _ _ _ _ _ _ _ rfl]
     simp only[eG,go_sem,Z2 S,Z1 S,zN0,zN1,zN2,zN3,zN4,zI0,zI1,zI2,zI3,reduceCtorEq,QU S]
     exact next
    ·have hk1 : (0 : Int) < k := by omega
     obtain⟨b,hb⟩:=QB (show k-1<L.length by omega)
     have hlt:Md.YA b d:=by
      obtain⟨hi,rfl⟩:=List.getElem?_eq_some_iff.1 hb
      obtain⟨hj,rfl⟩:=List.getElem?_eq_some_iff.1 hd
      exact List.pairwise_iff_getElem.1 hs _ _ hi hj (by omega)
     have wk:IntKind.i64.wrap ((k:Int)-1)=((k-1:Nat):Int):=by rw[YX (by omega) (by omega)];omega
     have q1:¬d.kind<b.kind:=by unfold Md.YA at hlt;omega
     by_cases hq:b.kind=d.kind
     ·have q2 : ¬ d.n <= b.n := by unfold Md.YA at hlt; omega
      simp only[eG,go_sem,Z2 S,Z1 S,zN0,zN1,zN2,zN3,zN4,zI0,zI1,zI2,zI3,reduceCtorEq,QU S,hkl,Zv hd,o1,o2,YR,HP,z2,ne_eq,not_false_eq_true,cH1,cH2,Bool.not_false,Bool.not_true,gt_iff_lt,ge_iff_le,wi k (by omega),hk1,wk,Zv hb,q1,eq_true hq,q2]
      rw[<-hK,Z7 (on S _ _ [9,12,13,14,15,41,42,43] (by decide) rfl) rfl _ _ _ _ _ _ _ _ _ rfl]
      simp only[eG,go_sem,Z2 S,Z1 S,zN0,zN1,zN2,zN3,zN4,zI0,zI1,zI2,zI3,reduceCtorEq,QU S]
      exact next
     ·simp only [eG, go_sem, Z2 S, Z1 S, zN0, zN1, zN2, zN3, zN4, zI0, zI1, zI2, zI3, reduceCtorEq, QU S, hkl, Zv hd, o1, o2, YR, HP, z2, ne_eq, not_false_eq_true, cH1, cH2, Bool.not_false, Bool.not_true, gt_iff_lt, ge_iff_le, wi k (by omega), hk1, wk, Zv hb, q1, eq_false hq]
      rw[<-hK,Z7 (on S _ _ [9,12,13,14,15,41,42,43] (by decide) rfl) rfl _ _ _ _ _ _ _ _ _ rfl]
      simp only[eG,go_sem,Z2 S,Z1 S,zN0,zN1,zN2,zN3,zN4,zI0,zI1,zI2,zI3,reduceCtorEq,QU S]
      exact next
   ·simp only [Zz z1, Zx z1] at o1
    by_cases hk0:k=0
    ·subst hk0
     simp only[eG,go_sem,Z2 S,Z1 S,zN0,zN1,zN2,zN3,zN4,zI0,zI1,zI2,zI3,reduceCtorEq,QU S,hkl,Zv hd,o1,o2,YR,HP,z1,z2,ne_eq,not_false_eq_true,cH1,cH2,Bool.not_false,Bool.not_true,gt_iff_lt,ge_iff_le,wi 0 (by omega),show ¬(0:Int)<((0:Nat):Int) by decide]
     rw[<-hK,Z7 (on S _ _ [9,12,13,14,15,41,42,43] (by decide) rfl) rfl _ _ _ _ _ _ _ _ _ rfl]
     simp only[eG,go_sem,Z2 S,Z1 S,zN0,zN1,zN2,zN3,zN4,zI0,zI1,zI2,zI3,reduceCtorEq,QU S]
     exact next
    ·have hk1 : (0 : Int) < k := by omega
     obtain⟨b,hb⟩:=QB (show k-1<L.length by omega)
     have hlt:Md.YA b d:=by
      obtain⟨hi,rfl⟩:=List.getElem?_eq_some_iff.1 hb
      obtain⟨hj,rfl⟩:=List.getElem?_eq_some_iff.1 hd
      exact List.pairwise_iff_getElem.1 hs _ _ hi hj (by omega)
     have wk:IntKind.i64.wrap ((k:Int)-1)=((k-1:Nat):Int):=by rw[YX (by omega) (by omega)];omega
     have q1:¬d.kind<b.kind:=by unfold Md.YA at hlt;omega
     by_cases hq:b.kind=d.kind
     ·have q2 : ¬ d.n <= b.n := by unfold Md.YA at hlt; omega
      simp only[eG,go_sem,Z2 S,Z1 S,zN0,zN1,zN2,zN3,zN4,zI0,zI1,zI2,zI3,reduceCtorEq,QU S,hkl,Zv hd,o1,o2,YR,HP,z1,z2,ne_eq,not_false_eq_true,cH1,cH2,Bool.not_false,Bool.not_true,gt_iff_lt,ge_iff_le,wi k (by omega),hk1,wk,Zv hb,q1,eq_true hq,q2]
      rw[<-hK,Z7 (on S _ _ [9,12,13,14,15,41,42,43] (by decide) rfl) rfl _ _ _ _ _ _ _ _ _ rfl]
      simp only[eG,go_sem,Z2 S,Z1 S,zN0,zN1,zN2,zN3,zN4,zI0,zI1,zI2,zI3,reduceCtorEq,QU S]
      exact next
     ·simp only [eG, go_sem, Z2 S, Z1 S, zN0, zN1, zN2, zN3, zN4, zI0, zI1, zI2, zI3, reduceCtorEq, QU S, hkl, Zv hd, o1, o2, YR, HP, z1, z2, ne_eq, not_false_eq_true, cH1, cH2, Bool.not_false, Bool.not_true, gt_iff_lt, ge_iff_le, wi k (by omega), hk1, wk, Zv hb, q1, eq_false hq]
      rw[<-hK,Z7 (on S _ _ [9,12,13,14,15,41,42,43] (by decide) rfl) rfl _ _ _ _ _ _ _ _ _ rfl]
      simp only[eG,go_sem,Z2 S,Z1 S,zN0,zN1,zN2,zN3,zN4,zI0,zI1,zI2,zI3,reduceCtorEq,QU S]
      exact next
theorem Zg2 (dp:Nat)(x y:Conf)(L M:List Dir)(hLl:L.length<1000000)(hMl:M.length<1000000)(hm:∀ d ∈ M,d ∈ L)(kx:Nat->K)(D:Option (AV×List Blk))
  (hx:∀ T,ZE .bot T 12=.ref 0 0 0->ZE .bot T 13=.ref 1 0 0->ZE .bot T 14=.d (rD L)->kx 2 (mk .bot 135 T) [.cells ((YT x).map .d) 0 false,.cells ((YT y).map .d) 0 false,.cells ((rC M).map .d) 0 false]=D):
  ∀(m k f:Nat),k+m=M.length->m<=f->
  F8 (Zq E 4) (Z5 E fn (dp+12)) (Z9 28 F8 (Zq E 4) (Z5 E fn (dp+12)) kx (Y0 0 [.tmp 8]) f) kx (Y0 0 [.tmp 8]) (mk .bot 135 [(12,.ref 0 0 0),(13,.ref 1 0 0),(14,.d (rD L)),(15,.fn (.func 16) []),(108,.sref 2 0 0 M.length 2 none),(109,aI M.length),(110,aI k)]) [.cells ((YT x).map .d) 0 false,.cells ((YT y).map .d) 0 false,.cells ((rC M).map .d) 0 false]=D:=by
 intro m
 induction m with
 | zero=>
  intro k f hk _
  obtain rfl:k=M.length:=by omega
  generalize Z9 28 F8 _ _ kx _ f=KK
  first | (conv=>lhs;rw[F8]) | rw[F8]
  simp only[eG,go_sem,Z2 S,Z1 S,zN0,zN1,zN2,zN3,zN4,zI0,zI1,zI2,zI3,reduceCtorEq,QU S,Int.lt_irrefl]
  exact hx _ rfl rfl rfl
 | succ m ih=>
  intro k f hk hf
  obtain⟨f,rfl⟩:∃ g,f=g+1:=⟨f-1,by omega⟩
  obtain⟨d,hd⟩:=QB (show k<M.length by omega)
  have hkl:(k:Int)<M.length:=by omega
  have hd1:=Rw hd
  have hd2:=HA (List.getElem?_eq_some_iff.1 hd).1
  have cH:=fun(A:List Blk) (nb:Nat) (us:List Nat)=>Z6.flat (WG S (dp+11) L d hLl) (np S 16 (by decide)) rfl A nb us
  rw[decide_eq_true (hm d (List.mem_of_getElem? hd))] at cH
  have next:=ih (k+1) f (by omega) (by omega)
  simp only[Z0h] at cH
  generalize hK:Z9 28 F8 _ _ kx _ (f+1)=KK
  first | (conv=>lhs;rw[F8]) | rw[F8]
  simp only[YT] at next ⊢
  have hk0:(0:Int)<=k:=by omega
  simp only[eG,go_sem,Z2 S,Z1 S,zN0,zN1,zN2,zN3,zN4,zI0,zI1,zI2,zI3,reduceCtorEq,QU S,hkl,hk0,Nat.zero_add,hd1,hd2,YR,cH,Bool.not_true,Int.toNat_natCast,wi k (by omega)]
  rw[<-hK,Z7 (on S _ _ [12,13,14,15,108,109,110] (by decide) rfl) rfl _ _ _ _ _ _ _ _ _ rfl]
  simp only[eG,go_sem,Z2 S,Z1 S,zN0,zN1,zN2,zN3,zN4,zI0,zI1,zI2,zI3,reduceCtorEq,QU S]
  exact next
theorem Zfg (ha:E.prim 15=some MM)(hS:fn 31=some fun _ _ _ xs A=>FB 32 xs A)(dp:Nat)(m l w:List Int)(how:Int):Z5 E fn (dp+13) 4 [.d (rD m),.d (rD l),aI how,.d (rD w)] []=some (YB true,[]):=by
 have hp:=Zif m
 have hN:=Zig m
 have hml:=Zid m
 have hil:=Zip m
 obtain⟨s,s',hSt,o1,o2⟩:=Zdj S (dp+7) (Md.make m) (Zic m) hml l how
 obtain⟨x,y,hT,hIx,hIy⟩:=Zdi S (dp+3) hp hil hml hN s s' (o1.inv hp) (o2.inv hp) w
 have cS:=fun(A:List Blk) (nb:Nat)=>Z6.deep hSt (np S 9 (by decide)) A nb
 have cT:=fun(A:List Blk) (nb:Nat)=>Z6.deep hT (np S 10 (by decide)) A nb
 have cB:=fun(A:List Blk) (nb:Nat)=>Zdg S hS (dp+1) hp hil hml hN hIx hIy A nb
 have la:=PZ hp hil hIx
 have lb:=PZ hp hil hIy
 have hLl:(Hj (Zj (Md.make m).mems) (Md.make m) x y).length<1000000:=by
  have:=Zlo (J2 (Md.all (Zj (Md.make m).mems) (Md.make m) x++Md.all (Zj (Md.make m).mems) (Md.make m) y))
  rw[Rj,List.length_append] at this
  unfold Hj
  omega
 have r1:=fun(A:List Blk) (nb:Nat) (us:List Nat)=>TX S (dp+6) hp hN hIx A nb us
 have r2:=fun(A:List Blk) (nb:Nat) (us:List Nat)=>TX S (dp+6) hp hN hIy A nb us
 have hsrt:=Z9e (Zj (Md.make m).mems) (Md.make m) x y
 have hmem:=Z4e (Zj (Md.make m).mems) (Md.make m) x y
 have z1:(Md.all (Zj (Md.make m).mems) (Md.make m) x=[])↔¬x.end_=0:=by
  constructor
  ·intro h he
   exact Md.Za1 hp hIx he h
  ·intro he
   exact Md.Z86 he
 have z2:(Md.all (Zj (Md.make m).mems) (Md.make m) y=[])↔¬y.end_=0:=by
  constructor
  ·intro h he
   exact Md.Za1 hp hIy he h
  ·intro he
   exact Md.Z86 he
 generalize hL1:Md.all (Zj (Md.make m).mems) (Md.make m) x=L1 at *
 generalize hL2:Md.all (Zj (Md.make m).mems) (Md.make m) y=L2 at *
 generalize hLL:Hj (Zj (Md.make m).mems) (Md.make m) x y=L at *
 have go:=fun(kx:Nat->K) (D:Option (AV×List Blk)) hx=>Zg3 S dp hp hN hIx hIy L L1 L2 hL1 hL2 hLl (by omega) (by omega) hsrt (fun d hd=>(hmem d).1 hd) kx D hx L.length 0 999999999999999999999999999999 (by omega) (by omega)
 have go2:=fun(kx:Nat->K) (D:Option (AV×List Blk)) hx=>Zg2 S dp x y L (L1++L2) hLl (by rw[List.length_append];omega) (fun d hd=>(hmem d).2 (List.mem_append.1 hd)) kx D hx (L1++L2).length 0 999999999999999999999999999999 (by omega) (by rw[List.length_append];omega)
 simp only[Int.cast_ofNat_Int] at go go2
 simp only[ZD,ZX,A4,R9,ZV,YT] at cS cT cB r1 r2
 show Z5 E fn (dp+12+1) 4 [.d (rD m),.d (rD l),aI how,.d (rD w)] []=_
 rw[ZU,S.Z68,ZW,Zag,ZY _ _ _ _ _ _ _ _ rfl]
 simp only[eG,go_sem,Z2 S,Z1 S,zN0,zN1,zN2,zN3,zN4,zI0,zI1,zI2,zI3,reduceCtorEq,QU S,Zm8 S,cS,cT,cB]
 rw[Y2,Z7 (on S _ _ [9,12,13,14,15,41,42,43] (by decide) rfl) rfl _ _ _ _ _ _ _ _ _ rfl]
 simp only[eG,go_sem,Z2 S,Z1 S,zN0,zN1,zN2,zN3,zN4,zI0,zI1,zI2,zI3,reduceCtorEq,QU S]
 refine go _ _ ?_
 intro T t9 t12 t13 t14 t15
 clear go
 by_cases n1:L1.length=0
 ·have e1 : L1 = [] := List.length_eq_zero_iff.1 n1
  subst e1
  simp only[ZC,ZB,List.nil_append] at r1 go2
  by_cases n2:L2.length=0
  ·have e2 : L2 = [] := List.length_eq_zero_iff.1 n2
   subst e2
   have eL:L=[]:=List.eq_nil_iff_forall_not_mem.2 fun d hd=>by rcases(hmem d).1 hd with h | h<;>cases h
   subst eL
   simp only[ZC,ZB] at r2
   simp only[VP] at t14
   have x0:=z1.1 rfl
   have y0:=z2.1 rfl
   simp only[ZX,YT]
   simp only[eG,go_sem,Z2 S,Z1 S,zN0,zN1,zN2,zN3,zN4,zI0,zI1,zI2,zI3,reduceCtorEq,QU S,t9,t12,t13,t14,t15,r1,r2]
   rw[Y2,Z7 (on S _ _ [12,13,14,15,108,109,110] (by decide) rfl) rfl _ _ _ _ _ _ _ _ _ rfl]
   simp only[eG,go_sem,Z2 S,Z1 S,zN0,zN1,zN2,zN3,zN4,zI0,zI1,zI2,zI3,reduceCtorEq,QU S,t12,t13,t14,t15]
   generalize Z9 28 F8 _ _ _ _ _=KK
   first | (conv=>lhs;rw[F8]) | rw[F8]
   simp only[show(([]:List Dir).length)=0 from rfl,show((0:Nat):Int)=0 from rfl]
   simp only[eG,go_sem,Z2 S,Z1 S,zN0,zN1,zN2,zN3,zN4,zI0,zI1,zI2,zI3,reduceCtorEq,QU S,Int.lt_irrefl,eq_false x0,eq_false y0,V3 ha,show((0:Nat):Int)=0 from rfl]
  ·have e2:L≠[]:=fun e=>by
    subst e
    cases L2 with
    | nil=>exact n2 rfl
    | cons a q=>cases (hmem a).2 (.inr (List.mem_cons_self ..))
   have n3:L.length≠0:=fun h=>e2 (List.length_eq_zero_iff.1 h)
   have m3:¬(L.length:Int)=0:=by omega
   have x0:=z1.1 rfl
   have y0:y.end_=0:=Decidable.byContradiction fun h=>n2 (by rw[z2.2 h];rfl)
   simp only[Zz n2,Zx n2] at r2
   simp only[ZX,YT]
   simp only[eG,go_sem,Z2 S,Z1 S,zN0,zN1,zN2,zN3,zN4,zI0,zI1,zI2,zI3,reduceCtorEq,QU S,t9,t12,t13,t14,t15,r1,r2,PA,Hz,Nat.le_refl,true_and,SS n2 (by show _<=_;unfold Z4;omega) (by show _<=_;unfold Z4;omega)]
   rw[Y2,Z7 (on S _ _ [12,13,14,15,108,109,110] (by decide) rfl) rfl _ _ _ _ _ _ _ _ _ rfl]
   simp only[eG,go_sem,Z2 S,Z1 S,zN0,zN1,zN2,zN3,zN4,zI0,zI1,zI2,zI3,reduceCtorEq,QU S,t12,t13,t14,t15]
   refine go2 _ _ ?_
   intro T t12 t13 t14
   simp only[YT]
   simp only[eG,go_sem,Z2 S,Z1 S,zN0,zN1,zN2,zN3,zN4,zI0,zI1,zI2,zI3,reduceCtorEq,QU S,t12,t13,t14,eq_false x0,eq_true y0,eq_false m3,V3 ha]
 ·have e2:L≠[]:=fun e=>by
   subst e
   cases L1 with
   | nil=>exact n1 rfl
   | cons a q=>cases (hmem a).2 (.inl (List.mem_cons_self ..))
  have n3:L.length≠0:=fun h=>e2 (List.length_eq_zero_iff.1 h)
  have m3:¬(L.length:Int)=0:=by omega
  have x0:x.end_=0:=Decidable.byContradiction fun h=>n1 (by rw[z1.2 h];rfl)
  simp only[Zz n1,Zx n1] at r1
  by_cases n2:L2.length=0
  ·have e2 : L2 = [] := List.length_eq_zero_iff.1 n2
   subst e2
   simp only[ZC,ZB,List.append_nil] at r2 go2
   simp only[ZX,YT]
   simp only[eG,go_sem,Z2 S,Z1 S,zN0,zN1,zN2,zN3,zN4,zI0,zI1,zI2,zI3,reduceCtorEq,QU S,t9,t12,t13,t14,t15,r1,r2,PA,Hz,Nat.le_refl,true_and,Znc]
   rw[Y2,Z7 (on S _ _ [12,13,14,15,108,109,110] (by decide) rfl) rfl _ _ _ _ _ _ _ _ _ rfl]
   simp only[eG,go_sem,Z2 S,Z1 S,zN0,zN1,zN2,zN3,zN4,zI0,zI1,zI2,zI3,reduceCtorEq,QU S,t12,t13,t14,t15]
   refine go2 _ _ ?_
   intro T t12 t13 t14
   simp only[YT]
   simp only[eG,go_sem,Z2 S,Z1 S,zN0,zN1,zN2,zN3,zN4,zI0,zI1,zI2,zI3,reduceCtorEq,QU S,t12,t13,t14,eq_true x0,eq_false m3,V3 ha]
  ·simp only [Zz n2, Zx n2] at r2
   have k3:=fun(A:List Blk) (hA:A[3]? =some (.cells ((rC L1).map .d) 0 false))=>Z9v (A:=A) (s:=L2) hA n2 (by show _<=_;unfold Z4;omega) (by show _<=_;unfold Z4;omega)
   simp only[ZX,YT]
   simp only[eG,go_sem,Z2 S,Z1 S,zN0,zN1,zN2,zN3,zN4,zI0,zI1,zI2,zI3,reduceCtorEq,QU S,t9,t12,t13,t14,t15,r1,r2,PA,Hz,Nat.le_refl,true_and,k3]
   rw[Y2,Z7 (on S _ _ [12,13,14,15,108,109,110] (by decide) rfl) rfl _ _ _ _ _ _ _ _ _ rfl]
   simp only[eG,go_sem,Z2 S,Z1 S,zN0,zN1,zN2,zN3,zN4,zI0,zI1,zI2,zI3,reduceCtorEq,QU S,t12,t13,t14,t15]
   simp only[List.length_append] at go2
   refine go2 _ _ ?_
   intro T t12 t13 t14
   simp only[YT]
   simp only[eG,go_sem,Z2 S,Z1 S,zN0,zN1,zN2,zN3,zN4,zI0,zI1,zI2,zI3,reduceCtorEq,QU S,t12,t13,t14,eq_true x0,eq_false m3,V3 ha]
end
end Go.Aug.Mc
