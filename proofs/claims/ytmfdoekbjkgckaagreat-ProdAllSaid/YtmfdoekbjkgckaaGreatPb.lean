import Derived.Test.YtmfdoekbjkgckaaGreatMc53
import Derived.Test.YtmfdoekbjkgckaaGreatMc12
import Derived.Test.YtmfdoekbjkgckaaGreatEvPc
import Derived.Test.YtmfdoekbjkgckaaGreatPa
import Derived.Test.YtmfdoekbjkgckaaGreatSo
namespace Go.Aug.Mc
open Go Go.Aug
open Nat renaming reduceLT -> zN0, reduceEqDiff -> zN1, reduceAdd -> zN2, reduceMul -> zN3, reduceLeDiff -> zN4
open Int renaming reduceEq -> zI0, reduceLT -> zI1, reduceLE -> zI2, reduceNeg -> zI3
set_option linter.unusedSimpArgs false
set_option linter.unusedVariables false
set_option maxHeartbeats 40000000
set_option maxRecDepth 200000
variable {E:Env} {fn:FuncId->Option (Env->cT->cT)}
section
variable (S:Sur E fn)
include S
theorem YF:E.lives 30 1=none/\E.lives 30 25=none/\E.lives 30 37=none/\E.lives 30 43=none:=⟨off S 30 1 (by decide) rfl,off S 30 25 (by decide) rfl,off S 30 37 (by decide) rfl,off S 30 43 (by decide) rfl⟩
theorem Zhb (dp:Nat)(p:Prog)(c:Conf)(hi:p.ins.length<1073741824)(hg:Md.YE p c<2147483648)(kx:Nat->K)(D:AV×List Blk)(r:List Dir)
  (hx:∀ T,ZE .bot T 2=.ref 0 0 0->ZE .bot T 3=.ref 1 0 0->ZE .bot T 5=QJ 2 r->(kx 0 (mk .bot 61 T) ([.cells ((ZX p).map .d) 0 false,.cells ((YT c).map .d) 0 false]++QH r))=some D):
  ∀(m k f:Nat) (o:List Dir),((k+m:Nat):Int)=max (Md.YE p c) k->m<=f->o.length<8589934592->o.length+m<8589934592->o++(List.range' k m).map (fun n:Nat=>(⟨1,(n:Int)⟩:Dir))=r->
  (K7 (Zq E 30) (Z5 E fn (dp+2)) (Z9 8 K7 (Zq E 30) (Z5 E fn (dp+2)) kx (Y0 0 [.tmp 4]) f) kx (Y0 0 [.tmp 4]) (mk .bot 61 [(2,.ref 0 0 0),(3,.ref 1 0 0),(5,QJ 2 o),(11,aI (Md.YE p c)),(12,aI k)]) ([.cells ((ZX p).map .d) 0 false,.cells ((YT c).map .d) 0 false]++QH o))=some D:=by
 intro m
 induction m with
 | zero=>
  intro k f o hk _ _ _ hr
  have hr:o=r:=by simpa using hr
  subst hr
  generalize Z9 8 K7 _ _ kx _ f=KK
  first | (conv=>lhs;rw[K7]) | rw[K7]
  by_cases h0:o.length=0
  ·have : o = [] := List.length_eq_zero_iff.1 h0
   subst this
   simp only[eG,go_sem,Z2 S,Z1 S,zN0,zN1,zN2,zN3,zN4,zI0,zI1,zI2,zI3,reduceCtorEq,YF S,ZC,ZB,show ¬(k:Int)<Md.YE p c by omega]
   exact hx _ rfl rfl rfl
  ·rw [Zz h0, Zx h0] at *
   simp only[eG,go_sem,Z2 S,Z1 S,zN0,zN1,zN2,zN3,zN4,zI0,zI1,zI2,zI3,reduceCtorEq,YF S,show ¬(k:Int)<Md.YE p c by omega]
   exact hx _ rfl rfl rfl
 | succ m ih=>
  intro k f o hk hf ho ho2 hr
  obtain⟨f,rfl⟩:∃ g,f=g+1:=⟨f-1,by omega⟩
  have hkg:(k:Int)<Md.YE p c:=by omega
  have hr':(o++[(⟨1,(k:Int)⟩:Dir)])++(List.range' (k+1) m).map (fun n:Nat=>(⟨1,(n:Int)⟩:Dir))=r:=by
   rw[<-hr,List.range'_succ,List.map_cons,List.append_assoc];rfl
  have:=ih (k+1) f (o++[⟨1,(k:Int)⟩]) (by omega) (by omega) (by simp;omega) (by simp;omega) hr'
  rw[Zz (Qj _ _),Zx (Qj _ _)] at this
  generalize hK:Z9 8 K7 _ _ kx _ (f+1)=KK
  first | (conv=>lhs;rw[K7]) | rw[K7]
  by_cases h0:o.length=0
  ·have : o = [] := List.length_eq_zero_iff.1 h0
   subst this
   simp only[eG,go_sem,Z2 S,Z1 S,zN0,zN1,zN2,zN3,zN4,zI0,zI1,zI2,zI3,reduceCtorEq,YF S,ZG,ZH,ZJ,ZK,Z8,Yj,Yz,Yx,Yq,Yk,Option.map_some,Nat.zero_add,Nat.one_mul,Nat.zero_mul,and_self,true_and,wi k (by omega),show(0:Nat)<1 by decide,ZC,ZB,hkg]
   rw[<-hK,Z7 (on S _ _ [2,3,5,11,12] (by decide) rfl) rfl _ _ _ _ _ _ _ _ _ rfl]
   simp only[eG,go_sem,Z2 S,Z1 S,zN0,zN1,zN2,zN3,zN4,zI0,zI1,zI2,zI3,reduceCtorEq,YF S]
   exact this
  ·rw [Zz h0, Zx h0]
   have k1:(o.length+1)*16<=Z4:=by unfold Z4;omega
   have k2:o.length+1<=Z4:=by unfold Z4;omega
   simp only[eG,go_sem,Z2 S,Z1 S,zN0,zN1,zN2,zN3,zN4,zI0,zI1,zI2,zI3,reduceCtorEq,YF S,ZG,ZH,ZJ,ZK,Z8,Yj,Yz,Yx,Yq,Yk,Option.map_some,Nat.zero_add,Nat.one_mul,Nat.zero_mul,and_self,true_and,wi k (by omega),show(0:Nat)<1 by decide,hkg,k1,k2]
   rw[<-hK,Z7 (on S _ _ [2,3,5,11,12] (by decide) rfl) rfl _ _ _ _ _ _ _ _ _ rfl]
   simp only[eG,go_sem,Z2 S,Z1 S,zN0,zN1,zN2,zN3,zN4,zI0,zI1,zI2,zI3,reduceCtorEq,YF S]
   rw[List.length_append,List.length_singleton] at this
   exact this
theorem Zha (dp:Nat)(p:Prog)(c:Conf)(hm:p.mems.length<1073741824)(hb:c.buf.length<1073741824)(kx:Nat->K)(D:AV×List Blk)(r:List Dir)
  (hx:∀ T,ZE .bot T 2=.ref 0 0 0->ZE .bot T 3=.ref 1 0 0->ZE .bot T 5=QJ 2 r->(kx 2 (mk .bot 61 T) ([.cells ((ZX p).map .d) 0 false,.cells ((YT c).map .d) 0 false]++QH r))=some D):
  ∀(m k f:Nat) (o:List Dir),k+m=c.buf.length->m<=f->o.length<8589934592->o.length+m<8589934592->o++((List.range' k m).filter fun n:Nat=>Md.can (Zj p.mems) p c (n:Int)).map (fun n:Nat=>(⟨2,(n:Int)⟩:Dir))=r->
  (F9 (Zq E 30) (Z5 E fn (dp+9)) (Z9 18 F9 (Zq E 30) (Z5 E fn (dp+9)) kx (Y0 0 [.tmp 4]) f) kx (Y0 0 [.tmp 4]) (mk .bot 61 [(2,.ref 0 0 0),(3,.ref 1 0 0),(5,QJ 2 o),(23,aI c.buf.length),(24,aI k)]) ([.cells ((ZX p).map .d) 0 false,.cells ((YT c).map .d) 0 false]++QH o))=some D:=by
 intro m
 induction m with
 | zero=>
  intro k f o hk _ _ _ hr
  have hr:o=r:=by simpa using hr
  subst hr
  generalize Z9 18 F9 _ _ kx _ f=KK
  first | (conv=>lhs;rw[F9]) | rw[F9]
  by_cases h0:o.length=0
  ·have : o = [] := List.length_eq_zero_iff.1 h0
   subst this
   simp only[eG,go_sem,Z2 S,Z1 S,zN0,zN1,zN2,zN3,zN4,zI0,zI1,zI2,zI3,reduceCtorEq,YF S,ZC,ZB,show ¬(k:Int)<c.buf.length by omega]
   exact hx _ rfl rfl rfl
  ·rw [Zz h0, Zx h0] at *
   simp only[eG,go_sem,Z2 S,Z1 S,zN0,zN1,zN2,zN3,zN4,zI0,zI1,zI2,zI3,reduceCtorEq,YF S,show ¬(k:Int)<c.buf.length by omega]
   exact hx _ rfl rfl rfl
 | succ m ih=>
  intro k f o hk hf ho ho2 hr
  obtain⟨f,rfl⟩:∃ g,f=g+1:=⟨f-1,by omega⟩
  have hkg:(k:Int)<c.buf.length:=by omega
  cases hcan:Md.can (Zj p.mems) p c (k:Int) with
  | false=>
   have hr':o++((List.range' (k+1) m).filter fun n:Nat=>Md.can (Zj p.mems) p c (n:Int)).map (fun n:Nat=>(⟨2,(n:Int)⟩:Dir))=r:=by
    rw[<-hr,List.range'_succ,List.filter_cons,hcan];rfl
   have:=ih (k+1) f o (by omega) (by omega) ho (by omega) hr'
   generalize hK:Z9 18 F9 _ _ kx _ (f+1)=KK
   first | (conv=>lhs;rw[F9]) | rw[F9]
   by_cases h0:o.length=0
   ·have : o = [] := List.length_eq_zero_iff.1 h0
    subst this
    simp only[eG,go_sem,Z2 S,Z1 S,zN0,zN1,zN2,zN3,zN4,zI0,zI1,zI2,zI3,reduceCtorEq,YF S,ZG,ZH,ZJ,ZK,Z8,Yj,Yz,Yx,Yq,Yk,Option.map_some,Nat.zero_add,Nat.one_mul,Nat.zero_mul,and_self,true_and,wi k (by omega),show(0:Nat)<1 by decide,ZC,ZB,V7 S,hm,hb,hkg,hcan]
    rw[<-hK,Z7 (on S _ _ [2,3,5,23,24] (by decide) rfl) rfl _ _ _ _ _ _ _ _ _ rfl]
    simp only[eG,go_sem,Z2 S,Z1 S,zN0,zN1,zN2,zN3,zN4,zI0,zI1,zI2,zI3,reduceCtorEq,YF S]
    assumption
   ·rw [Zz h0, Zx h0] at *
    simp only[eG,go_sem,Z2 S,Z1 S,zN0,zN1,zN2,zN3,zN4,zI0,zI1,zI2,zI3,reduceCtorEq,YF S,ZG,ZH,ZJ,ZK,Z8,Yj,Yz,Yx,Yq,Yk,Option.map_some,Nat.zero_add,Nat.one_mul,Nat.zero_mul,and_self,true_and,wi k (by omega),show(0:Nat)<1 by decide,V7 S,hm,hb,hkg,hcan]
    rw[<-hK,Z7 (on S _ _ [2,3,5,23,24] (by decide) rfl) rfl _ _ _ _ _ _ _ _ _ rfl]
    simp only[eG,go_sem,Z2 S,Z1 S,zN0,zN1,zN2,zN3,zN4,zI0,zI1,zI2,zI3,reduceCtorEq,YF S]
    exact this
  | true=>
   have hr':(o++[(⟨2,(k:Int)⟩:Dir)])++((List.range' (k+1) m).filter fun n:Nat=>Md.can (Zj p.mems) p c (n:Int)).map (fun n:Nat=>(⟨2,(n:Int)⟩:Dir))=r:=by
    rw[<-hr,List.range'_succ,List.filter_cons,hcan,if_pos rfl,List.map_cons,List.append_assoc];rfl
   have:=ih (k+1) f (o++[⟨2,(k:Int)⟩]) (by omega) (by omega) (by simp;omega) (by simp;omega) hr'
   rw[Zz (Qj _ _),Zx (Qj _ _)] at this
   generalize hK:Z9 18 F9 _ _ kx _ (f+1)=KK
   first | (conv=>lhs;rw[F9]) | rw[F9]
   by_cases h0:o.length=0
   ·have : o = [] := List.length_eq_zero_iff.1 h0
    subst this
    simp only[eG,go_sem,Z2 S,Z1 S,zN0,zN1,zN2,zN3,zN4,zI0,zI1,zI2,zI3,reduceCtorEq,YF S,ZG,ZH,ZJ,ZK,Z8,Yj,Yz,Yx,Yq,Yk,Option.map_some,Nat.zero_add,Nat.one_mul,Nat.zero_mul,and_self,true_and,wi k (by omega),show(0:Nat)<1 by decide,ZC,ZB,V7 S,hm,hb,hkg,hcan]
    rw[<-hK,Z7 (on S _ _ [2,3,5,23,24] (by decide) rfl) rfl _ _ _ _ _ _ _ _ _ rfl]
    simp only[eG,go_sem,Z2 S,Z1 S,zN0,zN1,zN2,zN3,zN4,zI0,zI1,zI2,zI3,reduceCtorEq,YF S]
    assumption
   ·rw [Zz h0, Zx h0]
    have k1:(o.length+1)*16<=Z4:=by unfold Z4;omega
    have k2:o.length+1<=Z4:=by unfold Z4;omega
    simp only[eG,go_sem,Z2 S,Z1 S,zN0,zN1,zN2,zN3,zN4,zI0,zI1,zI2,zI3,reduceCtorEq,YF S,ZG,ZH,ZJ,ZK,Z8,Yj,Yz,Yx,Yq,Yk,Option.map_some,Nat.zero_add,Nat.one_mul,Nat.zero_mul,and_self,true_and,wi k (by omega),show(0:Nat)<1 by decide,V7 S,hm,hb,hkg,hcan,k1,k2]
    rw[<-hK,Z7 (on S _ _ [2,3,5,23,24] (by decide) rfl) rfl _ _ _ _ _ _ _ _ _ rfl]
    simp only[eG,go_sem,Z2 S,Z1 S,zN0,zN1,zN2,zN3,zN4,zI0,zI1,zI2,zI3,reduceCtorEq,YF S]
    rw[List.length_append,List.length_singleton] at this
    exact this
theorem Zh9 (dp:Nat)(p:Prog)(c:Conf)(hm:p.mems.length<1073741824)(hb:c.buf.length<1073741824)(kx:Nat->K)(D:AV×List Blk)(r:List Dir)
  (hx:∀ T,ZE .bot T 2=.ref 0 0 0->ZE .bot T 3=.ref 1 0 0->ZE .bot T 5=QJ 2 r->(kx 4 (mk .bot 61 T) ([.cells ((ZX p).map .d) 0 false,.cells ((YT c).map .d) 0 false]++QH r))=some D):
  ∀(m k f:Nat) (o:List Dir),k+m=c.buf.length->m<=f->o.length<8589934592->o.length+m<8589934592->o++((List.range' k m).filter fun n:Nat=>Md.YU p c (n:Int)).map (fun n:Nat=>(⟨3,(n:Int)⟩:Dir))=r->
  (F7 (Zq E 30) (Z5 E fn (dp+9)) (Z9 30 F7 (Zq E 30) (Z5 E fn (dp+9)) kx (Y0 0 [.tmp 4]) f) kx (Y0 0 [.tmp 4]) (mk .bot 61 [(2,.ref 0 0 0),(3,.ref 1 0 0),(5,QJ 2 o),(39,aI c.buf.length),(40,aI k)]) ([.cells ((ZX p).map .d) 0 false,.cells ((YT c).map .d) 0 false]++QH o))=some D:=by
 intro m
 induction m with
 | zero=>
  intro k f o hk _ _ _ hr
  have hr:o=r:=by simpa using hr
  subst hr
  generalize Z9 30 F7 _ _ kx _ f=KK
  first | (conv=>lhs;rw[F7]) | rw[F7]
  by_cases h0:o.length=0
  ·have : o = [] := List.length_eq_zero_iff.1 h0
   subst this
   simp only[eG,go_sem,Z2 S,Z1 S,zN0,zN1,zN2,zN3,zN4,zI0,zI1,zI2,zI3,reduceCtorEq,YF S,ZC,ZB,show ¬(k:Int)<c.buf.length by omega]
   exact hx _ rfl rfl rfl
  ·rw [Zz h0, Zx h0] at *
   simp only[eG,go_sem,Z2 S,Z1 S,zN0,zN1,zN2,zN3,zN4,zI0,zI1,zI2,zI3,reduceCtorEq,YF S,show ¬(k:Int)<c.buf.length by omega]
   exact hx _ rfl rfl rfl
 | succ m ih=>
  intro k f o hk hf ho ho2 hr
  obtain⟨f,rfl⟩:∃ g,f=g+1:=⟨f-1,by omega⟩
  have hkg:(k:Int)<c.buf.length:=by omega
  cases hcan:Md.YU p c (k:Int) with
  | false=>
   have hr':o++((List.range' (k+1) m).filter fun n:Nat=>Md.YU p c (n:Int)).map (fun n:Nat=>(⟨3,(n:Int)⟩:Dir))=r:=by
    rw[<-hr,List.range'_succ,List.filter_cons,hcan];rfl
   have:=ih (k+1) f o (by omega) (by omega) ho (by omega) hr'
   generalize hK:Z9 30 F7 _ _ kx _ (f+1)=KK
   first | (conv=>lhs;rw[F7]) | rw[F7]
   by_cases h0:o.length=0
   ·have : o = [] := List.length_eq_zero_iff.1 h0
    subst this
    simp only[eG,go_sem,Z2 S,Z1 S,zN0,zN1,zN2,zN3,zN4,zI0,zI1,zI2,zI3,reduceCtorEq,YF S,ZG,ZH,ZJ,ZK,Z8,Yj,Yz,Yx,Yq,Yk,Option.map_some,Nat.zero_add,Nat.one_mul,Nat.zero_mul,and_self,true_and,wi k (by omega),show(0:Nat)<1 by decide,ZC,ZB,V6 S,hb,hkg,hcan]
    rw[<-hK,Z7 (on S _ _ [2,3,5,39,40] (by decide) rfl) rfl _ _ _ _ _ _ _ _ _ rfl]
    simp only[eG,go_sem,Z2 S,Z1 S,zN0,zN1,zN2,zN3,zN4,zI0,zI1,zI2,zI3,reduceCtorEq,YF S]
    assumption
   ·rw [Zz h0, Zx h0] at *
    simp only[eG,go_sem,Z2 S,Z1 S,zN0,zN1,zN2,zN3,zN4,zI0,zI1,zI2,zI3,reduceCtorEq,YF S,ZG,ZH,ZJ,ZK,Z8,Yj,Yz,Yx,Yq,Yk,Option.map_some,Nat.zero_add,Nat.one_mul,Nat.zero_mul,and_self,true_and,wi k (by omega),show(0:Nat)<1 by decide,V6 S,hb,hkg,hcan]
    rw[<-hK,Z7 (on S _ _ [2,3,5,39,40] (by decide) rfl) rfl _ _ _ _ _ _ _ _ _ rfl]
    simp only[eG,go_sem,Z2 S,Z1 S,zN0,zN1,zN2,zN3,zN4,zI0,zI1,zI2,zI3,reduceCtorEq,YF S]
    exact this
  | true=>
   have hr':(o++[(⟨3,(k:Int)⟩:Dir)])++((List.range' (k+1) m).filter fun n:Nat=>Md.YU p c (n:Int)).map (fun n:Nat=>(⟨3,(n:Int)⟩:Dir))=r:=by
    rw[<-hr,List.range'_succ,List.filter_cons,hcan,if_pos rfl,List.map_cons,List.append_assoc];rfl
   have:=ih (k+1) f (o++[⟨3,(k:Int)⟩]) (by omega) (by omega) (by simp;omega) (by simp;omega) hr'
   rw[Zz (Qj _ _),Zx (Qj _ _)] at this
   generalize hK:Z9 30 F7 _ _ kx _ (f+1)=KK
   first | (conv=>lhs;rw[F7]) | rw[F7]
   by_cases h0:o.length=0
   ·have : o = [] := List.length_eq_zero_iff.1 h0
    subst this
    simp only[eG,go_sem,Z2 S,Z1 S,zN0,zN1,zN2,zN3,zN4,zI0,zI1,zI2,zI3,reduceCtorEq,YF S,ZG,ZH,ZJ,ZK,Z8,Yj,Yz,Yx,Yq,Yk,Option.map_some,Nat.zero_add,Nat.one_mul,Nat.zero_mul,and_self,true_and,wi k (by omega),show(0:Nat)<1 by decide,ZC,ZB,V6 S,hb,hkg,hcan]
    rw[<-hK,Z7 (on S _ _ [2,3,5,39,40] (by decide) rfl) rfl _ _ _ _ _ _ _ _ _ rfl]
    simp only[eG,go_sem,Z2 S,Z1 S,zN0,zN1,zN2,zN3,zN4,zI0,zI1,zI2,zI3,reduceCtorEq,YF S]
    assumption
   ·rw [Zz h0, Zx h0]
    have k1:(o.length+1)*16<=Z4:=by unfold Z4;omega
    have k2:o.length+1<=Z4:=by unfold Z4;omega
    simp only[eG,go_sem,Z2 S,Z1 S,zN0,zN1,zN2,zN3,zN4,zI0,zI1,zI2,zI3,reduceCtorEq,YF S,ZG,ZH,ZJ,ZK,Z8,Yj,Yz,Yx,Yq,Yk,Option.map_some,Nat.zero_add,Nat.one_mul,Nat.zero_mul,and_self,true_and,wi k (by omega),show(0:Nat)<1 by decide,V6 S,hb,hkg,hcan,k1,k2]
    rw[<-hK,Z7 (on S _ _ [2,3,5,39,40] (by decide) rfl) rfl _ _ _ _ _ _ _ _ _ rfl]
    simp only[eG,go_sem,Z2 S,Z1 S,zN0,zN1,zN2,zN3,zN4,zI0,zI1,zI2,zI3,reduceCtorEq,YF S]
    rw[List.length_append,List.length_singleton] at this
    exact this
theorem Zh1 (dp:Nat)(p:Prog)(c:Conf)(hi:p.ins.length<1073741824)(hm:p.mems.length<1073741824)(hb:c.buf.length<1073741824):
  Z5 E fn (dp+9+1) 30 [.d (ZD p),.d (ZV c)] []=some (QJ 0 (Md.all (Zj p.mems) p c),QH (Md.all (Zj p.mems) p c)):=by
 rw[ZU,S.Z7s,ZW,Zc0,ZY _ _ _ _ _ _ _ _ rfl]
 have hg:Md.YE p c<2147483648:=by
  unfold Md.YE;split
  ·decide
  ·split
   ·decide
   ·split
    ·omega
    ·decide
 simp only[eG,go_sem,Z2 S,Z1 S,zN0,zN1,zN2,zN3,zN4,zI0,zI1,zI2,zI3,reduceCtorEq,YF S,Zmh S,hi]
 rw[Y2,Z7 (on S _ _ [2,3,5,11,12] (by decide) rfl) rfl _ _ _ _ _ _ _ _ _ rfl]
 simp only[eG,go_sem,Z2 S,Z1 S,zN0,zN1,zN2,zN3,zN4,zI0,zI1,zI2,zI3,reduceCtorEq,YF S]
 generalize h1:(List.range (Md.YE p c).toNat).map (fun n:Nat=>(⟨1,(n:Int)⟩:Dir))=r1
 generalize h2:r1++((List.range c.buf.length).filter fun n:Nat=>Md.can (Zj p.mems) p c (n:Int)).map (fun n:Nat=>(⟨2,(n:Int)⟩:Dir))=r2
 generalize h3:r2++((List.range c.buf.length).filter fun n:Nat=>Md.YU p c (n:Int)).map (fun n:Nat=>(⟨3,(n:Int)⟩:Dir))=r3
 have hall:Md.all (Zj p.mems) p c=r3++(bif Md.YM p c then[⟨4,0⟩] else[]):=by
  unfold Md.all;rw[h1,h2,h3]
 have L1:r1.length<2147483648:=by rw[<-h1,List.length_map,List.length_range];omega
 have L2:r2.length<3221225472:=by
  have:=List.length_filter_le (fun n:Nat=>Md.can (Zj p.mems) p c (n:Int)) (List.range c.buf.length)
  rw[List.length_range] at this
  rw[<-h2,List.length_append,List.length_map];omega
 have L3:r3.length<4294967296:=by
  have:=List.length_filter_le (fun n:Nat=>Md.YU p c (n:Int)) (List.range c.buf.length)
  rw[List.length_range] at this
  rw[<-h3,List.length_append,List.length_map];omega
 rw[hall]
 have start:=fun(kx:Nat->K) (D:AV×List Blk) hx=>Zhb S (dp+7) p c hi hg kx D r1 hx (Md.YE p c).toNat 0 999999999999999999999999999999 [] (by omega) (by omega) (by simp) (by simp;omega) (by rw[List.nil_append,MT];exact h1)
 refine start _ _ ?_
 intro T t2 t3 t5
 have next2:=fun(kx:Nat->K) (D:AV×List Blk) hx=>Zha S dp p c hm hb kx D r2 hx c.buf.length 0 999999999999999999999999999999 r1 (by omega) (by omega) (by omega) (by omega) (by rw[<-List.range_eq_range'];exact h2)
 have next3:=fun(kx:Nat->K) (D:AV×List Blk) hx=>Zh9 S dp p c hm hb kx D r3 hx c.buf.length 0 999999999999999999999999999999 r2 (by omega) (by omega) (by omega) (by omega) (by rw[<-List.range_eq_range'];exact h3)
 have stop:∀ T,ZE .bot T 2=.ref 0 0 0->ZE .bot T 3=.ref 1 0 0->True:=fun _ _ _=>trivial
 by_cases z1:r1.length=0
 ·have e1 : r1 = [] := List.length_eq_zero_iff.1 z1
  rw[e1,ZC] at t5
  rw[e1,ZB,List.append_nil]
  simp only[e1,ZC,ZB,List.append_nil] at next2
  simp only[eG,go_sem,Z2 S,Z1 S,zN0,zN1,zN2,zN3,zN4,zI0,zI1,zI2,zI3,reduceCtorEq,YF S,t2,t3,t5]
  rw[Y2,Z7 (on S _ _ [2,3,5,23,24] (by decide) rfl) rfl _ _ _ _ _ _ _ _ _ rfl]
  simp only[eG,go_sem,Z2 S,Z1 S,zN0,zN1,zN2,zN3,zN4,zI0,zI1,zI2,zI3,reduceCtorEq,YF S,t2,t3,t5]
  refine next2 _ _ ?_
  clear t2 t3 t5 T
  intro T t2 t3 t5
  by_cases z2:r2.length=0
  ·have e2 : r2 = [] := List.length_eq_zero_iff.1 z2
   rw[e2,ZC] at t5
   rw[e2,ZB,List.append_nil]
   simp only[e2,ZC,ZB,List.append_nil] at next3
   simp only[eG,go_sem,Z2 S,Z1 S,zN0,zN1,zN2,zN3,zN4,zI0,zI1,zI2,zI3,reduceCtorEq,YF S,t2,t3,t5]
   rw[Y2,Z7 (on S _ _ [2,3,5,39,40] (by decide) rfl) rfl _ _ _ _ _ _ _ _ _ rfl]
   simp only[eG,go_sem,Z2 S,Z1 S,zN0,zN1,zN2,zN3,zN4,zI0,zI1,zI2,zI3,reduceCtorEq,YF S,t2,t3,t5]
   refine next3 _ _ ?_
   clear t2 t3 t5 T
   intro T t2 t3 t5
   cases hret:Md.YM p c with
   | false=>
    by_cases z3:r3.length=0
    ·have e3 : r3 = [] := List.length_eq_zero_iff.1 z3
     rw[e3,ZC] at t5
     rw[e3,ZB,List.append_nil]
     simp only[go_sem,Z2 S,Z1 S,zN0,zN1,zN2,zN3,zN4,zI0,zI1,zI2,zI3,reduceCtorEq,YF S,Q5,YY,YZ,Q1,Q2,List.getD_cons_zero,List.getD_cons_succ,List.take_succ_cons,List.take_zero,Z8,Option.map_some,ZC,ZB,t2,t3,t5,CR S,hret,List.append_nil]
    ·rw [Zz z3] at t5
     rw[Zx z3]
     have hne:r3≠[]:=fun e=>z3 (by rw[e];rfl)
     rw[cond_false,List.append_nil,Zz z3,Zx z3]
     simp only[go_sem,Z2 S,Z1 S,zN0,zN1,zN2,zN3,zN4,zI0,zI1,zI2,zI3,reduceCtorEq,YF S,Q5,YY,YZ,Q1,Q2,List.getD_cons_zero,List.getD_cons_succ,List.take_succ_cons,List.take_zero,Z8,Option.map_some,ZC,ZB,t2,t3,t5,CR S,hret]
   | true=>
    by_cases z3:r3.length=0
    ·have e3 : r3 = [] := List.length_eq_zero_iff.1 z3
     rw[e3,ZC] at t5
     rw[e3,ZB,List.append_nil]
     simp only[go_sem,Z2 S,Z1 S,zN0,zN1,zN2,zN3,zN4,zI0,zI1,zI2,zI3,reduceCtorEq,YF S,ZG,ZH,ZJ,ZK,Z8,Yj,Yz,Yx,Yq,Yk,Option.map_some,Nat.zero_add,Nat.one_mul,Nat.zero_mul,and_self,true_and,show(0:Nat)<1 by decide,Q5,YY,YZ,Q1,Q2,List.getD_cons_zero,List.getD_cons_succ,List.take_succ_cons,List.take_zero,Z8,Option.map_some,ZC,ZB,t2,t3,t5,CR S,hret]
     rfl
    ·rw [Zz z3] at t5
     rw[Zx z3]
     have k1:(r3.length+1)*16<=Z4:=by unfold Z4;omega
     have k2:r3.length+1<=Z4:=by unfold Z4;omega
     rw[cond_true,Zz (Qj _ _),Zx (Qj _ _),List.length_append,List.length_singleton]
     simp only[go_sem,Z2 S,Z1 S,zN0,zN1,zN2,zN3,zN4,zI0,zI1,zI2,zI3,reduceCtorEq,YF S,ZG,ZH,ZJ,ZK,Z8,Yj,Yz,Yx,Yq,Yk,Option.map_some,Nat.zero_add,Nat.one_mul,Nat.zero_mul,and_self,true_and,show(0:Nat)<1 by decide,Q5,YY,YZ,Q1,Q2,List.getD_cons_zero,List.getD_cons_succ,List.take_succ_cons,List.take_zero,Z8,Option.map_some,ZC,ZB,t2,t3,t5,CR S,hret,k1,k2]
  ·rw [Zz z2] at t5
   rw[Zx z2]
   simp only[Zz z2,Zx z2] at next3
   simp only[eG,go_sem,Z2 S,Z1 S,zN0,zN1,zN2,zN3,zN4,zI0,zI1,zI2,zI3,reduceCtorEq,YF S,t2,t3,t5]
   rw[Y2,Z7 (on S _ _ [2,3,5,39,40] (by decide) rfl) rfl _ _ _ _ _ _ _ _ _ rfl]
   simp only[eG,go_sem,Z2 S,Z1 S,zN0,zN1,zN2,zN3,zN4,zI0,zI1,zI2,zI3,reduceCtorEq,YF S,t2,t3,t5]
   refine next3 _ _ ?_
   clear t2 t3 t5 T
   intro T t2 t3 t5
   cases hret:Md.YM p c with
   | false=>
    by_cases z3:r3.length=0
    ·have e3 : r3 = [] := List.length_eq_zero_iff.1 z3
     rw[e3,ZC] at t5
     rw[e3,ZB,List.append_nil]
     simp only[go_sem,Z2 S,Z1 S,zN0,zN1,zN2,zN3,zN4,zI0,zI1,zI2,zI3,reduceCtorEq,YF S,Q5,YY,YZ,Q1,Q2,List.getD_cons_zero,List.getD_cons_succ,List.take_succ_cons,List.take_zero,Z8,Option.map_some,ZC,ZB,t2,t3,t5,CR S,hret,List.append_nil]
    ·rw [Zz z3] at t5
     rw[Zx z3]
     have hne:r3≠[]:=fun e=>z3 (by rw[e];rfl)
     rw[cond_false,List.append_nil,Zz z3,Zx z3]
     simp only[go_sem,Z2 S,Z1 S,zN0,zN1,zN2,zN3,zN4,zI0,zI1,zI2,zI3,reduceCtorEq,YF S,Q5,YY,YZ,Q1,Q2,List.getD_cons_zero,List.getD_cons_succ,List.take_succ_cons,List.take_zero,Z8,Option.map_some,ZC,ZB,t2,t3,t5,CR S,hret]
   | true=>
    by_cases z3:r3.length=0
    ·have e3 : r3 = [] := List.length_eq_zero_iff.1 z3
     rw[e3,ZC] at t5
     rw[e3,ZB,List.append_nil]
     simp only[go_sem,Z2 S,Z1 S,zN0,zN1,zN2,zN3,zN4,zI0,zI1,zI2,zI3,reduceCtorEq,YF S,ZG,ZH,ZJ,ZK,Z8,Yj,Yz,Yx,Yq,Yk,Option.map_some,Nat.zero_add,Nat.one_mul,Nat.zero_mul,and_self,true_and,show(0:Nat)<1 by decide,Q5,YY,YZ,Q1,Q2,List.getD_cons_zero,List.getD_cons_succ,List.take_succ_cons,List.take_zero,Z8,Option.map_some,ZC,ZB,t2,t3,t5,CR S,hret]
     rfl
    ·rw [Zz z3] at t5
     rw[Zx z3]
     have k1:(r3.length+1)*16<=Z4:=by unfold Z4;omega
     have k2:r3.length+1<=Z4:=by unfold Z4;omega
     rw[cond_true,Zz (Qj _ _),Zx (Qj _ _),List.length_append,List.length_singleton]
     simp only[go_sem,Z2 S,Z1 S,zN0,zN1,zN2,zN3,zN4,zI0,zI1,zI2,zI3,reduceCtorEq,YF S,ZG,ZH,ZJ,ZK,Z8,Yj,Yz,Yx,Yq,Yk,Option.map_some,Nat.zero_add,Nat.one_mul,Nat.zero_mul,and_self,true_and,show(0:Nat)<1 by decide,Q5,YY,YZ,Q1,Q2,List.getD_cons_zero,List.getD_cons_succ,List.take_succ_cons,List.take_zero,Z8,Option.map_some,ZC,ZB,t2,t3,t5,CR S,hret,k1,k2]
 ·rw [Zz z1] at t5
  rw[Zx z1]
  simp only[Zz z1,Zx z1] at next2
  simp only[eG,go_sem,Z2 S,Z1 S,zN0,zN1,zN2,zN3,zN4,zI0,zI1,zI2,zI3,reduceCtorEq,YF S,t2,t3,t5]
  rw[Y2,Z7 (on S _ _ [2,3,5,23,24] (by decide) rfl) rfl _ _ _ _ _ _ _ _ _ rfl]
  simp only[eG,go_sem,Z2 S,Z1 S,zN0,zN1,zN2,zN3,zN4,zI0,zI1,zI2,zI3,reduceCtorEq,YF S,t2,t3,t5]
  refine next2 _ _ ?_
  clear t2 t3 t5 T
  intro T t2 t3 t5
  by_cases z2:r2.length=0
  ·have e2 : r2 = [] := List.length_eq_zero_iff.1 z2
   rw[e2,ZC] at t5
   rw[e2,ZB,List.append_nil]
   simp only[e2,ZC,ZB,List.append_nil] at next3
   simp only[eG,go_sem,Z2 S,Z1 S,zN0,zN1,zN2,zN3,zN4,zI0,zI1,zI2,zI3,reduceCtorEq,YF S,t2,t3,t5]
   rw[Y2,Z7 (on S _ _ [2,3,5,39,40] (by decide) rfl) rfl _ _ _ _ _ _ _ _ _ rfl]
   simp only[eG,go_sem,Z2 S,Z1 S,zN0,zN1,zN2,zN3,zN4,zI0,zI1,zI2,zI3,reduceCtorEq,YF S,t2,t3,t5]
   refine next3 _ _ ?_
   clear t2 t3 t5 T
   intro T t2 t3 t5
   cases hret:Md.YM p c with
   | false=>
    by_cases z3:r3.length=0
    ·have e3 : r3 = [] := List.length_eq_zero_iff.1 z3
     rw[e3,ZC] at t5
     rw[e3,ZB,List.append_nil]
     simp only[go_sem,Z2 S,Z1 S,zN0,zN1,zN2,zN3,zN4,zI0,zI1,zI2,zI3,reduceCtorEq,YF S,Q5,YY,YZ,Q1,Q2,List.getD_cons_zero,List.getD_cons_succ,List.take_succ_cons,List.take_zero,Z8,Option.map_some,ZC,ZB,t2,t3,t5,CR S,hret,List.append_nil]
    ·rw [Zz z3] at t5
     rw[Zx z3]
     have hne:r3≠[]:=fun e=>z3 (by rw[e];rfl)
     rw[cond_false,List.append_nil,Zz z3,Zx z3]
     simp only[go_sem,Z2 S,Z1 S,zN0,zN1,zN2,zN3,zN4,zI0,zI1,zI2,zI3,reduceCtorEq,YF S,Q5,YY,YZ,Q1,Q2,List.getD_cons_zero,List.getD_cons_succ,List.take_succ_cons,List.take_zero,Z8,Option.map_some,ZC,ZB,t2,t3,t5,CR S,hret]
   | true=>
    by_cases z3:r3.length=0
    ·have e3 : r3 = [] := List.length_eq_zero_iff.1 z3
     rw[e3,ZC] at t5
     rw[e3,ZB,List.append_nil]
     simp only[go_sem,Z2 S,Z1 S,zN0,zN1,zN2,zN3,zN4,zI0,zI1,zI2,zI3,reduceCtorEq,YF S,ZG,ZH,ZJ,ZK,Z8,Yj,Yz,Yx,Yq,Yk,Option.map_some,Nat.zero_add,Nat.one_mul,Nat.zero_mul,and_self,true_and,show(0:Nat)<1 by decide,Q5,YY,YZ,Q1,Q2,List.getD_cons_zero,List.getD_cons_succ,List.take_succ_cons,List.take_zero,Z8,Option.map_some,ZC,ZB,t2,t3,t5,CR S,hret]
     rfl
    ·rw [Zz z3] at t5
     rw[Zx z3]
     have k1:(r3.length+1)*16<=Z4:=by unfold Z4;omega
     have k2:r3.length+1<=Z4:=by unfold Z4;omega
     rw[cond_true,Zz (Qj _ _),Zx (Qj _ _),List.length_append,List.length_singleton]
     simp only[go_sem,Z2 S,Z1 S,zN0,zN1,zN2,zN3,zN4,zI0,zI1,zI2,zI3,reduceCtorEq,YF S,ZG,ZH,ZJ,ZK,Z8,Yj,Yz,Yx,Yq,Yk,Option.map_some,Nat.zero_add,Nat.one_mul,Nat.zero_mul,and_self,true_and,show(0:Nat)<1 by decide,Q5,YY,YZ,Q1,Q2,List.getD_cons_zero,List.getD_cons_succ,List.take_succ_cons,List.take_zero,Z8,Option.map_some,ZC,ZB,t2,t3,t5,CR S,hret,k1,k2]
  ·rw [Zz z2] at t5
   rw[Zx z2]
   simp only[Zz z2,Zx z2] at next3
   simp only[eG,go_sem,Z2 S,Z1 S,zN0,zN1,zN2,zN3,zN4,zI0,zI1,zI2,zI3,reduceCtorEq,YF S,t2,t3,t5]
   rw[Y2,Z7 (on S _ _ [2,3,5,39,40] (by decide) rfl) rfl _ _ _ _ _ _ _ _ _ rfl]
   simp only[eG,go_sem,Z2 S,Z1 S,zN0,zN1,zN2,zN3,zN4,zI0,zI1,zI2,zI3,reduceCtorEq,YF S,t2,t3,t5]
   refine next3 _ _ ?_
   clear t2 t3 t5 T
   intro T t2 t3 t5
   cases hret:Md.YM p c with
   | false=>
    by_cases z3:r3.length=0
    ·have e3 : r3 = [] := List.length_eq_zero_iff.1 z3
     rw[e3,ZC] at t5
     rw[e3,ZB,List.append_nil]
     simp only[go_sem,Z2 S,Z1 S,zN0,zN1,zN2,zN3,zN4,zI0,zI1,zI2,zI3,reduceCtorEq,YF S,Q5,YY,YZ,Q1,Q2,List.getD_cons_zero,List.getD_cons_succ,List.take_succ_cons,List.take_zero,Z8,Option.map_some,ZC,ZB,t2,t3,t5,CR S,hret,List.append_nil]
    ·rw [Zz z3] at t5
     rw[Zx z3]
     have hne:r3≠[]:=fun e=>z3 (by rw[e];rfl)
     rw[cond_false,List.append_nil,Zz z3,Zx z3]
     simp only[go_sem,Z2 S,Z1 S,zN0,zN1,zN2,zN3,zN4,zI0,zI1,zI2,zI3,reduceCtorEq,YF S,Q5,YY,YZ,Q1,Q2,List.getD_cons_zero,List.getD_cons_succ,List.take_succ_cons,List.take_zero,Z8,Option.map_some,ZC,ZB,t2,t3,t5,CR S,hret]
   | true=>
    by_cases z3:r3.length=0
    ·have e3 : r3 = [] := List.length_eq_zero_iff.1 z3
     rw[e3,ZC] at t5
     rw[e3,ZB,List.append_nil]
     simp only[go_sem,Z2 S,Z1 S,zN0,zN1,zN2,zN3,zN4,zI0,zI1,zI2,zI3,reduceCtorEq,YF S,ZG,ZH,ZJ,ZK,Z8,Yj,Yz,Yx,Yq,Yk,Option.map_some,Nat.zero_add,Nat.one_mul,Nat.zero_mul,and_self,true_and,show(0:Nat)<1 by decide,Q5,YY,YZ,Q1,Q2,List.getD_cons_zero,List.getD_cons_succ,List.take_succ_cons,List.take_zero,Z8,Option.map_some,ZC,ZB,t2,t3,t5,CR S,hret]
     rfl
    ·rw [Zz z3] at t5
     rw[Zx z3]
     have k1:(r3.length+1)*16<=Z4:=by unfold Z4;omega
     have k2:r3.length+1<=Z4:=by unfold Z4;omega
     rw[cond_true,Zz (Qj _ _),Zx (Qj _ _),List.length_append,List.length_singleton]
     simp only[go_sem,Z2 S,Z1 S,zN0,zN1,zN2,zN3,zN4,zI0,zI1,zI2,zI3,reduceCtorEq,YF S,ZG,ZH,ZJ,ZK,Z8,Yj,Yz,Yx,Yq,Yk,Option.map_some,Nat.zero_add,Nat.one_mul,Nat.zero_mul,and_self,true_and,show(0:Nat)<1 by decide,Q5,YY,YZ,Q1,Q2,List.getD_cons_zero,List.getD_cons_succ,List.take_succ_cons,List.take_zero,Z8,Option.map_some,ZC,ZB,t2,t3,t5,CR S,hret,k1,k2]
end
end Go.Aug.Mc
namespace Go.Aug
open Go
set_option linter.unusedSimpArgs false
section
variable {α:Type} [Cl α] [Cl1 α]
theorem Zna {A:List Blk}{s bytes j v:Nat}{out l2:List α}(hA:A[j]? =some (.cells ((rC out).map .d) v false))(hs:s=Cl.n α)(hp:0<Cl.n α)(h0:l2.length≠0)(h1:(out.length+l2.length)*bytes<=Z4)(h2:out.length+l2.length<=Z4):
  J4 A s bytes (.sref j v 0 out.length s none) ((rC l2).map .d) l2.length=some (.turn j (.cells ((rC (out++l2)).map .d) (v+1) false) (.sref j (v+1) 0 (out.length+l2.length) s none)):=by
 subst hs
 have e:(rC (out++l2)).map AV.d=(rC out).map .d++(rC l2).map .d:=by rw[EN,List.map_append]
 obtain⟨m,hm⟩:∃ m,l2.length=m+1:=⟨l2.length-1,by omega⟩
 rw[Sw,if_neg h0,if_neg (by rw[MV];simp;exact⟨by omega,by omega⟩),hA,e]
 have hl:((rC out).map AV.d).length=out.length*Cl.n α:=by rw[List.length_map,QS]
 have hlt:¬0+(out.length+l2.length)*Cl.n α<=((rC out).map AV.d).length:=by
  rw[hl,hm,Nat.add_mul,Nat.add_mul];omega
 simp only[ne_eq,not_true_eq_false,false_or]
 rw[if_neg (by omega),if_neg (by simp),if_neg hlt]
 exact if_pos ⟨trivial,hl.symm⟩
end
end Go.Aug
namespace Go.Aug
open Go
set_option linter.unusedSimpArgs false
section
variable {α:Type} [Cl α] [Cl1 α]
end
end Go.Aug
namespace Go.Aug.Mc
open Go Go.Aug
open Nat renaming reduceLT -> zN0, reduceEqDiff -> zN1, reduceAdd -> zN2, reduceMul -> zN3, reduceLeDiff -> zN4
open Int renaming reduceEq -> zI0, reduceLT -> zI1, reduceLE -> zI2, reduceNeg -> zI3
set_option linter.unusedSimpArgs false
set_option linter.unusedVariables false
set_option maxHeartbeats 40000000
set_option maxRecDepth 200000
def FE (d:Dir):Int×Int:=(d.kind,d.n)
def NT (x:Int×Int):Dir:=⟨x.1,x.2⟩
def J2 (l:List Dir):List Dir:=(J5 (l.map FE)).map NT
theorem Z2a (l:List Dir):(J2 l).Perm l:=by
 have:=(Rk (l.map FE)).map NT
 rw[List.map_map,show NT ∘ FE=id from rfl,List.map_id] at this
 exact this
theorem Rj (l:List Dir):(J2 l).length=l.length:=(Z2a l).length_eq
theorem Z90 (l:List (Int×Int)):AD l=(rC (l.map NT)).map AV.d:=by
 induction l with
 | nil=>rfl
 | cons x l ih=>
  show aI x.1::aI x.2::AD l=_
  rw[ih];rfl
theorem Z3k:∀ l,KF (AD l)=some l
 | []=>rfl
 | x::l=>by
  show(KF (AD l)).map ((x.1,x.2):: ·)=_
  rw[Z3k l];rfl
theorem Zdl (l:List Dir):(rC l).map AV.d=AD (l.map FE):=by
 rw[Z90,List.map_map,show NT ∘ FE=id from rfl,List.map_id]
theorem Zd0 (g:FuncId)(l:List Dir)(hl:l.length<=Z4):FB g [.sref 0 0 0 l.length 2 none,.fn (.func g) []] [.cells ((rC l).map .d) 0 false]=some (JH,[.cells ((rC (J2 l)).map .d) 0 false]):=by
 have hn:((rC l).map AV.d).length=l.length*2:=by rw[List.length_map,QS];rfl
 have hg:GM g (.fn (.func g) [])=true:=Nat.beq_refl g
 have hb:(Nat.beq 0 0&&Nat.ble (0+l.length*2) ((rC l).map AV.d).length&&Nat.ble l.length Z4)=true:=by
  rw[hn,Nat.zero_add]
  simp only[Bool.and_eq_true]
  exact⟨⟨rfl,Nat.ble_eq_true_of_le (Nat.le_refl _)⟩,Nat.ble_eq_true_of_le hl⟩
 show(bif GM g (.fn (.func g) [])&&Nat.beq 2 2 then W5 0 0 0 l.length [Blk.cells ((rC l).map .d) 0 false] (some (Blk.cells ((rC l).map .d) 0 false)) else none)=_
 rw[hg]
 show(bif (Nat.beq 0 0&&Nat.ble (0+l.length*2) ((rC l).map AV.d).length&&Nat.ble l.length Z4) then Tz 0 0 0 ((rC l).map AV.d) [Blk.cells ((rC l).map .d) 0 false] (KF ((((rC l).map AV.d).drop 0).take (l.length*2))) else none)=_
 rw[hb,cond_true,List.drop_zero,List.take_of_length_le (by omega),Zdl,Z3k]
 show some (JH,[Blk.cells (splice (AD (l.map FE)) 0 (AD (J5 (l.map FE)))) 0 false])=_
 have:splice (AD (l.map FE)) 0 (AD (J5 (l.map FE)))=AD (J5 (l.map FE)):=by
  unfold splice
  rw[List.take_zero,List.nil_append,List.drop_of_length_le (by rw[SC,SC,(Rk _).length_eq,Nat.zero_add];exact Nat.le_refl _),List.append_nil]
 rw[this,Z90]
 rfl
theorem Z5v:∀ cs:List DV,(cs.map AV.d).flatMap (YV 8)=[]
 | []=>rfl
 | _::cs=>Z5v cs
theorem Z35 {A:List Blk}{i v:Nat}{cs:List DV}{ro:Bool}(hA:A[i]? =some (.cells (cs.map .d) v ro)):Q8 A 0 100000 [i] []=[i]:=by
 have hi:i<A.length:=(List.getElem?_eq_some_iff.1 hA).1
 have hb:(Nat.blt i 0 || Yv i [] || !Nat.blt i A.length)=false:=by
  have h1:Nat.blt i A.length=true:=Nat.ble_eq_true_of_le hi
  have h0:Nat.blt i 0=false:=by
   cases hq:Nat.blt i 0 with
   | false=>rfl
   | true=>exact absurd (Nat.le_of_ble_eq_true hq) (by omega)
  rw[h1,h0];rfl
 show(bif Nat.blt i 0 || Yv i [] || !Nat.blt i A.length then Q8 A 0 99999 [] [] else Q8 A 0 99999 ([]++C7 A[i]?) ([]++[i]))=_
 rw[hb,cond_false,hA]
 show Q8 A 0 99999 ([]++(cs.map AV.d).flatMap (YV 8)) [i]=_
 rw[Z5v]
 exact Zkk _ _ _ _
theorem Zmy {call:cT}{g:FuncId}{A:List Blk}{i v o len sz:Nat}{k:Option Nat}{cs cs':List DV}{v':Nat}{x:AV}(fs:List AV)(hfs:fs=[]∨∃ h,fs=[.fn (.func h) []])(hA:A[i]? =some (.cells (cs.map .d) v false))
  (hc:call g (.sref 0 0 o len sz k::fs) [.cells (cs.map .d) 0 false]=some (x,[.cells (cs'.map .d) v' false])):
  F1 call g (.sref i v o len sz k::fs) A (Q8 A 0 100000 ((.sref i v o len sz k::fs).flatMap (YV 8)) [])=some (.turned (QR [i] [v] A.length 8 x) (A.set i (.cells (cs'.map .d) (v+v') false))):=by
 have hr:((AV.sref i v o len sz k::fs).flatMap (YV 8))=[i]:=by
  rcases hfs with rfl | ⟨h,rfl⟩<;>rfl
 rw[hr,Z35 hA,F0]
 have hv:YD A [i]=[v]:=by rw[Fq,hA,Fk];rfl
 have hs:spot A 0 [i] i v=some (0,0):=by
  rw[YY,if_neg (by omega),hA]
  show W3 0 v (some (.cells (cs.map .d) v false)) (QM [i] i)=_
  have:QM [i] i=some 0:=by
   show(bif Nat.beq i i then some 0 else _)=_
   rw[Nat.beq_refl];rfl
  rw[this,YZ,if_pos rfl]
 have ha:(AV.sref i v o len sz k::fs).map (Yw A 0 [i] 8)=.sref 0 0 o len sz k::fs:=by
  have e1:Yw A 0 [i] 8 (.sref i v o len sz k)=.sref 0 0 o len sz k:=by
   show(match spot A 0 [i] i v with | some p=>AV.sref p.1 p.2 o len sz k | none=>.bot)=_
   rw[hs]
  rcases hfs with rfl | ⟨h,rfl⟩
  ·show [Yw A 0 [i] 8 (.sref i v o len sz k)] = _
   rw[e1]
  ·show [Yw A 0 [i] 8 (.sref i v o len sz k), Yw A 0 [i] 8 (.fn (.func h) [])] = _
   rw[e1];rfl
 have hh:Y9 A 0 [i]=[.cells (cs.map .d) 0 false]:=by
  show(A.take 0).map _++[AG A 0 [i] false (A.getD i .free)]=_
  have:A.getD i .free=.cells (cs.map .d) v false:=by rw[List.getD_eq_getElem?_getD,hA];rfl
  rw[this]
  show[Blk.cells ((cs.map AV.d).map (Yw A 0 [i] 8)) 0 false]=_
  rw[List.map_map,Zdr]
 rw[hv,ha,hh,hc,FU]
 have hi:i<A.length:=(List.getElem?_eq_some_iff.1 hA).1
 show(bif true&&(true&&true) then some (Done.turned (QR [i] [v] A.length 8 x) (BF [i] [v] A.length A [i] [v] [.cells (cs'.map .d) v' false]++[])) else none)=_
 rw[List.append_nil]
 show some (Done.turned (QR [i] [v] A.length 8 x) (BF [i] [v] A.length (A.set i (JW [i] [v] A.length v (.cells (cs'.map .d) v' false))) [] [] []))=_
 rw[FC,Fv,Fz]
theorem Z0x {call:cT}{g:FuncId}{A:List Blk}{i v o len sz:Nat}{k:Option Nat}{cs cs':List DV}{v':Nat}{x:AV}(fs:List AV)(hfs:fs=[]∨∃ h,fs=[.fn (.func h) []])(hA:A[i]? =some (.cells (cs.map .d) v false))
  (hc:call g (.sref 0 0 o len sz k::fs) [.cells (cs.map .d) 0 false]=some (x,[.cells (cs'.map .d) v' false])):
  F1 call g (.sref i v o len sz k::fs) A [i]=some (.turned (QR [i] [v] A.length 8 x) (A.set i (.cells (cs'.map .d) (v+v') false))):=by
 have hr:((AV.sref i v o len sz k::fs).flatMap (YV 8))=[i]:=by
  rcases hfs with rfl | ⟨h,rfl⟩<;>rfl
 have:=Zmy (k:=k) (len:=len) (sz:=sz) (o:=o) fs hfs hA hc
 rw[hr,Z35 hA] at this
 exact this
theorem Z0y {call:cT}{g:FuncId}{A:List Blk}{y z:DV}(fs:List AV)(hc:call g (.d y::fs) []=some (.d z,[]))(hfs:fs.map (Yw A 0 [] 8)=fs:=by rfl):F1 call g (.d y::fs) A []=some (.turned (.d z) A):=by
 rw[F0]
 show HX A [] [] (call g (.d y::fs.map (Yw A 0 [] 8)) [])=_
 rw[hfs,hc]
 show some (Done.turned (.d z) (A++[]))=_
 rw[List.append_nil]
theorem Hz (r:List Dir):((rC r).map AV.d).take (r.length*2)=(rC r).map AV.d:=List.take_of_length_le (by rw[List.length_map,QS];exact Nat.le_refl _)
theorem PA (r:List Dir):((rC r).map AV.d).length=r.length*2:=by rw[List.length_map,QS];rfl
theorem Z9v {A:List Blk}{i v:Nat}{r s:List Dir}(hA:A[i]? =some (.cells ((rC r).map .d) v false))(h0:s.length≠0)(h1:(r.length+s.length)*16<=Z4)(h2:r.length+s.length<=Z4):
  J4 A 2 16 (.sref i v 0 r.length 2 none) ((rC s).map .d) s.length=some (.turn i (.cells ((rC (r++s)).map .d) (v+1) false) (.sref i (v+1) 0 (r.length+s.length) 2 none)):=
 Zna (s:=2) (bytes:=16) hA rfl (by decide) h0 h1 h2
theorem SS {A:List Blk}{s:List Dir}(h0:s.length≠0)(h1:s.length*16<=Z4)(h2:s.length<=Z4):
  J4 A 2 16 (.d (.lst [] 0 (some 0))) ((rC s).map .d) s.length=some (.fresh ((rC s).map .d) s.length):=by
 unfold J4
 rw[if_neg h0]
 show(if 0<0+s.length/\([]:List DV).length=0*2/\(0+s.length)*16<=Z4/\0+s.length<=Z4 then some (App.fresh ([]++(rC s).map AV.d) (0+s.length)) else none)=_
 rw[Nat.zero_add,if_pos ⟨by omega,rfl,h1,h2⟩,List.nil_append]
theorem PJ {A:List Blk}{i v:Nat}{F Z:List Dir}{k:Option Nat}(hA:A[i]? =some (.cells ((rC (F++Z)).map .d) v false))(h0:F.length≠0):deep A 8 (.sref i v 0 F.length 2 k)=some (.lst (rC F) F.length k,[i]):=by
 have hl:((rC F).map AV.d).length=F.length*2:=by rw[List.length_map,QS];rfl
 have hc:cellsAt A i v 0=some ((rC (F++Z)).map .d):=by simp[cellsAt,hA]
 rw[Q6,if_neg h0,hc,EN,List.map_append]
 show(if F.length*2<=((rC F).map AV.d++(rC Z).map AV.d).length then _ else _)=_
 rw[if_pos (by rw[List.length_append,hl];omega),<-hl,List.take_left,GC]
 rfl
theorem Z3m {E:Env}{call:cT}{g:FuncId}{ds:List DV}{α:Type} [Cl α] [Cl1 α] {l:List α}(hr:JZ E call g ds=some (QJ 0 l,QH l))(A:List Blk)(nb:Nat)(us:List Nat):Y1 true E call g A nb (some (ds,us))=some (.made (QJ nb l) (QH l)):=by
 simp only[Y1,hr,GY,cond_true]
 cases l with
 | nil=>
  show(bif D3 us || true then some (Done.made (QJ nb ([]:List α)) (QH ([]:List α))) else _)=_
  rw[Bool.or_true];rfl
 | cons a l=>
  have h1:CE [.cells ((rC (a::l)).map .d) 0 false] nb 6 (.sref 0 0 0 (a::l).length (Cl.n α) none) [] []=some (.sref nb 0 0 (a::l).length (Cl.n α) none,[.cells ((rC (a::l)).map .d) 0 false],[0]):=by
   unfold CE
   simp only[List.getElem?_cons_zero,Zij]
   exact if_pos ⟨trivial,trivial,Znl _⟩
  show Kv A us (CE [.cells ((rC (a::l)).map .d) 0 false] nb 6 (.sref 0 0 0 (a::l).length (Cl.n α) none) [] [])=_
  rw[h1]
  have hf:GR [.cells ((rC (a::l)).map .d) 0 false]=true:=by
   show(((rC (a::l)).map AV.d).all _&&true)=true
   rw[Bool.and_true,List.all_map]
   exact Wq (a::l)
  show(bif D3 us || (true&&GR [.cells ((rC (a::l)).map .d) 0 false]) then _ else _)=_
  rw[hf,Bool.and_true,Bool.or_true]
  rfl
theorem Zd5 (tm:List AV)(i v o len s:Nat)(k:Option Nat)(hi mx:Opd)(h1:look tm hi=aI len)(h2:look tm mx=aI len)(h0:len≠0):GU tm (.sref i v o len s k) none (some hi) (some mx) s=some (.sref i v o len s (some len)):=by
 have hb:A7 len tm none (some hi) (some mx)=some (0,len,len):=by
  rw[Vq]
  show AX len none (some (look tm hi)) (some (look tm mx))=_
  rw[h1,h2]
  unfold AX
  simp[DP]
 unfold GU
 simp only[hb]
 simp[HV]
theorem Zd4 (tm:List AV)(k:Option Nat)(s:Nat)(hi mx:Opd)(h1:look tm hi=aI (0:Nat))(h2:look tm mx=aI (0:Nat)):GU tm (.d (.lst [] 0 k)) none (some hi) (some mx) s=some (.d (.lst [] 0 (some 0))):=by
 have hb:A7 0 tm none (some hi) (some mx)=some (0,0,0):=by
  rw[Vq]
  show AX 0 none (some (look tm hi)) (some (look tm mx))=_
  rw[h1,h2]
  unfold AX
  simp[DP]
 unfold GU
 simp only[hb]
 simp
variable {E:Env} {fn:FuncId->Option (Env->cT->cT)}
section
variable (S:Sur E fn)
include S
theorem Zlu (dp m:Nat)(h0:m≠0)(k:Option Nat)(cs:List DV):Z5 E fn (dp+1) 33 [.sref 0 0 0 m 2 k] [.cells (cs.map .d) 0 false]=some (.sref 0 0 0 m 2 (some m),[.cells (cs.map .d) 0 false]):=by
 rw[ZU,S.XU,ZW,Z1d,ZY _ _ _ _ _ _ _ _ rfl]
 simp only[go_sem,Z2 S,Z1 S,zN0,zN1,zN2,zN3,zN4,zI0,zI1,zI2,zI3,reduceCtorEq,Q5,YY,YZ,Q1,Q2,List.getD_cons_zero,List.getD_cons_succ,List.take_succ_cons,List.take_zero,Z8,Option.map_some,Zd5,h0,ne_eq,not_false_eq_true]
theorem Z3w (dp:Nat)(p:Prog)(c:Conf)(hi:p.ins.length<1073741824)(hm:p.mems.length<1073741824)(hb:c.buf.length<1073741824)(A:List Blk)(nb:Nat)(us:List Nat):
  Y1 true E (Z5 E fn (dp+10)) 30 A nb (some ([ZD p,ZV c],us))=some (.made (QJ nb (Md.all (Zj p.mems) p c)) (QH (Md.all (Zj p.mems) p c))):=by
 refine Z3m ?_ A nb us
 unfold JZ
 rw[np S 30 (by decide)]
 exact Zh1 S dp p c hi hm hb
omit S in
theorem Z0f (r:List Dir)(h0:r.length≠0):(Aj (J2 r)).length≠0:=by
 have hne:J2 r≠[]:=fun e=>h0 (by rw[<-Rj,e];rfl)
 cases hq:J2 r with
 | nil=>exact absurd hq hne
 | cons a l=>exact Nat.succ_ne_zero _
theorem Zi2 (dp:Nat)(hS:fn 31=some fun _ _ _ xs A=>FB 32 xs A):
  Z5 E fn (dp+10) 31 [.d (.lst [] 0 (some 0)),.fn (.func 32) []] []=some (.d (.tup []),[])/\
  Z5 E fn (dp+10) 34 [.d (.lst [] 0 (some 0))] []=some (.d (.lst [] 0 (some 0)),[])/\
  Z5 E fn (dp+10) 33 [.d (.lst [] 0 (some 0))] []=some (.d (.lst [] 0 (some 0)),[]):=by
 refine⟨?_,?_,?_⟩
 ·rw [show dp + 10 = (dp + 9) + 1 from rfl, ZU, hS, ZW]
  show(bif GM 32 (.fn (.func 32) []) then some (JH,[]) else none)=_
  rw[show GM 32 (.fn (.func 32) [])=true from Nat.beq_refl _];rfl
 ·rw [show dp + 10 = (dp + 9) + 1 from rfl, ZU, S.XT, ZW, Z1c, ZY _ _ _ _ _ _ _ _ rfl]
  simp only[go_sem,Z2 S,Z1 S,zN0,zN1,zN2,zN3,zN4,zI0,zI1,zI2,zI3,reduceCtorEq,Q5,YY,YZ,Q1,Q2,List.getD_cons_zero,List.getD_cons_succ,List.take_succ_cons,List.take_zero,Z8,Option.map_some,show((0:Nat):Int)<2 by decide]
 ·rw [show dp + 10 = (dp + 9) + 1 from rfl, ZU, S.XU, ZW, Z1d, ZY _ _ _ _ _ _ _ _ rfl]
  simp only[go_sem,Z2 S,Z1 S,zN0,zN1,zN2,zN3,zN4,zI0,zI1,zI2,zI3,reduceCtorEq,Q5,YY,YZ,Q1,Q2,List.getD_cons_zero,List.getD_cons_succ,List.take_succ_cons,List.take_zero,Z8,Option.map_some,Zd4]
theorem VW (dp:Nat)(hS:fn 31=some fun _ _ _ xs A=>FB 32 xs A)(r:List Dir)(h0:r.length≠0)(hl:r.length<1073741824)(A:List Blk)(i v:Nat):
  (A[i]? =some (.cells ((rC r).map .d) v false)->F1 (Z5 E fn (dp+10)) 31 [.sref i v 0 r.length 2 none,.fn (.func 32) []] A [i]=some (.turned JH (A.set i (.cells ((rC (J2 r)).map .d) (v+0) false))))/\
  (A[i]? =some (.cells ((rC (J2 r)).map .d) v false)->F1 (Z5 E fn (dp+10)) 34 [.sref i v 0 r.length 2 none] A [i]=some (.turned (.sref i (v+0) 0 (Aj (J2 r)).length 2 none) (A.set i (.cells ((rC (Aj (J2 r)++List.replicate (r.length-(Aj (J2 r)).length) d0)).map .d) (v+0) false))))/\
  (A[i]? =some (.cells ((rC (Aj (J2 r)++List.replicate (r.length-(Aj (J2 r)).length) d0)).map .d) v false)->F1 (Z5 E fn (dp+10)) 33 [.sref i v 0 (Aj (J2 r)).length 2 none] A [i]=some (.turned (.sref i (v+0) 0 (Aj (J2 r)).length 2 (some (Aj (J2 r)).length)) (A.set i (.cells ((rC (Aj (J2 r)++List.replicate (r.length-(Aj (J2 r)).length) d0)).map .d) (v+0) false)))):=by
 have hne:J2 r≠[]:=fun e=>h0 (by rw[<-Rj,e];rfl)
 have hF:(Aj (J2 r)).length≠0:=by
  cases hq:J2 r with
  | nil=>exact absurd hq hne
  | cons a l=>exact Nat.succ_ne_zero _
 refine⟨fun hA=> ?_,fun hA=> ?_,fun hA=> ?_⟩
 ·have h1:Z5 E fn (dp+9+1) 31 [.sref 0 0 0 r.length 2 none,.fn (.func 32) []] [.cells ((rC r).map .d) 0 false]=some (JH,[.cells ((rC (J2 r)).map .d) 0 false]):=by
   rw[ZU,hS,ZW]
   exact Zd0 _ r (by unfold Z4;omega)
  have h2:=Z0x (v:=v) (i:=i) [.fn (.func 32) []] (.inr ⟨_,rfl⟩) hA h1
  exact h2
 ·have := Zli S (dp + 9) (J2 r) (by rw [Rj]; exact hl) hne
  rw[Rj] at this
  have h2:=Z0x (v:=v) (i:=i) [] (.inl rfl) hA this
  exact h2
 ·exact Z0x [] (.inl rfl) hA (Zlu S (dp+9) _ hF none _)
theorem Zfe (dp:Nat)(p:Prog)(a b:Conf)(hS:fn 31=some fun _ _ _ xs A=>FB 32 xs A)(hi:p.ins.length<1073741824)(hm:p.mems.length<1073741824)(ha:a.buf.length<1073741824)(hb:b.buf.length<1073741824)(hla:(Md.all (Zj p.mems) p a).length<1000000)(hlb:(Md.all (Zj p.mems) p b).length<1000000):Z6 E fn (dp+11) 11 [ZD p,ZV a,ZV b] (rD (Aj (J2 (Md.all (Zj p.mems) p a++Md.all (Zj p.mems) p b)))):=by
 unfold Z6
 show Zw (Z5 E fn (dp+10+1) 11 [.d (ZD p),.d (ZV a),.d (ZV b)] [])=_
 rw[ZU,S.Z7h,ZW,Zbp,ZY _ _ _ _ _ _ _ _ rfl]
 have o1:=fun A nb us=>Z3w S dp p a hi hm ha A nb us
 have o2:=fun A nb us=>Z3w S dp p b hi hm hb A nb us
 generalize Md.all (Zj p.mems) p a=r1 at *
 generalize Md.all (Zj p.mems) p b=r2 at *
 simp only[ZD,ZX,ZV,YT] at o1 o2
 by_cases z1:r1.length=0
 ·have e1 : r1 = [] := List.length_eq_zero_iff.1 z1
  subst e1
  by_cases z2:r2.length=0
  ·have e2 : r2 = [] := List.length_eq_zero_iff.1 z2
   subst e2
   simp only[ZC,ZB] at o1 o2
   obtain⟨q1,q2,q3⟩:=Zi2 S dp hS
   have b1:=fun(A:List Blk)=>Z0y (A:=A) [.fn (.func 32) []] q1
   have b2:=fun(A:List Blk)=>Z0y (A:=A) [] q2
   have b3:=fun(A:List Blk)=>Z0y (A:=A) [] q3
   simp only[eG,go_sem,Z2 S,Z1 S,zN0,zN1,zN2,zN3,zN4,zI0,zI1,zI2,zI3,reduceCtorEq,o1,o2,Az _ _ _ _ _ _ _ 31 _ (by rw[Z1 S];rfl),Az _ _ _ _ _ _ _ 34 _ (by rw[Z1 S];rfl),Az _ _ _ _ _ _ _ 33 _ (by rw[Z1 S];rfl),b1,b2,b3]
   rfl
  ·simp only [ZC, ZB] at o1
   simp only[Zz z2,Zx z2] at o2
   have q:=fun(A:List Blk) (i v:Nat)=> @VW E fn S dp hS r2 z2 (by omega) A i v
   have q1:=fun A i v=>(q A i v).1
   have q2:=fun A i v=>(q A i v).2.1
   have q3:=fun A i v=>(q A i v).2.2
   clear q
   rw[List.nil_append]
   have hF:=Z0f r2 z2
   generalize hFF:Aj (J2 r2)=F at *
   have dp8:=fun(A:List Blk) (i v:Nat)=> @PJ A i v F (List.replicate (r2.length-F.length) d0) (some F.length)
   obtain⟨k1,k2⟩:r2.length*16<=Z4/\r2.length<=Z4:=by unfold Z4;omega
   simp only[eG,go_sem,Z2 S,Z1 S,zN0,zN1,zN2,zN3,zN4,zI0,zI1,zI2,zI3,reduceCtorEq,o1,o2,PA,Hz,Nat.le_refl,true_and,SS,z2,k1,k2,ne_eq,not_false_eq_true,Az _ _ _ _ _ _ _ 31 _ (by rw[Z1 S];rfl),Az _ _ _ _ _ _ _ 34 _ (by rw[Z1 S];rfl),Az _ _ _ _ _ _ _ 33 _ (by rw[Z1 S];rfl),q1,q2,q3,Nat.add_zero,dp8,hF]
   rfl
 ·by_cases z2 : r2.length = 0
  ·have e2 : r2 = [] := List.length_eq_zero_iff.1 z2
   subst e2
   simp only[ZC,ZB] at o2
   simp only[Zz z1,Zx z1] at o1
   have q:=fun(A:List Blk) (i v:Nat)=> @VW E fn S dp hS r1 z1 (by omega) A i v
   have q1:=fun A i v=>(q A i v).1
   have q2:=fun A i v=>(q A i v).2.1
   have q3:=fun A i v=>(q A i v).2.2
   clear q
   rw[List.append_nil]
   have hF:=Z0f r1 z1
   generalize hFF:Aj (J2 r1)=F at *
   have dp8:=fun(A:List Blk) (i v:Nat)=> @PJ A i v F (List.replicate (r1.length-F.length) d0) (some F.length)
   simp only[eG,go_sem,Z2 S,Z1 S,zN0,zN1,zN2,zN3,zN4,zI0,zI1,zI2,zI3,reduceCtorEq,o1,o2,PA,Hz,Nat.le_refl,true_and,z1,ne_eq,not_false_eq_true,Az _ _ _ _ _ _ _ 31 _ (by rw[Z1 S];rfl),Az _ _ _ _ _ _ _ 34 _ (by rw[Z1 S];rfl),Az _ _ _ _ _ _ _ 33 _ (by rw[Z1 S];rfl),q1,q2,q3,Nat.add_zero,dp8,hF]
   rfl
  ·simp only [Zz z1, Zx z1] at o1
   simp only[Zz z2,Zx z2] at o2
   have q:=fun(A:List Blk) (i v:Nat)=> @VW E fn S dp hS (r1++r2) (by rw[List.length_append];omega) (by rw[List.length_append];omega) A i v
   have q1:=fun A i v=>(q A i v).1
   have q2:=fun A i v=>(q A i v).2.1
   have q3:=fun A i v=>(q A i v).2.2
   rw[List.length_append] at q1 q2 q3
   clear q
   have hF:=Z0f (r1++r2) (by rw[List.length_append];omega)
   generalize hFF:Aj (J2 (r1++r2))=F at *
   have dp8:=fun(A:List Blk) (i v:Nat)=> @PJ A i v F (List.replicate (r1.length+r2.length-F.length) d0) (some F.length)
   obtain⟨k1,k2⟩:(r1.length+r2.length)*16<=Z4/\r1.length+r2.length<=Z4:=by unfold Z4;omega
   simp only[eG,go_sem,Z2 S,Z1 S,zN0,zN1,zN2,zN3,zN4,zI0,zI1,zI2,zI3,reduceCtorEq,o1,o2,PA,Hz,Nat.le_refl,true_and,Z9v,z2,k1,k2,ne_eq,not_false_eq_true,Az _ _ _ _ _ _ _ 31 _ (by rw[Z1 S];rfl),Az _ _ _ _ _ _ _ 34 _ (by rw[Z1 S];rfl),Az _ _ _ _ _ _ _ 33 _ (by rw[Z1 S];rfl),q1,q2,q3,Nat.add_zero,dp8,hF]
   rfl
end
end Go.Aug.Mc
