import Derived.Test.YthnhboimcidhgaaGreatDoorMc51
import Derived.Test.YthnhboimcidhgaaGreatDoorMc35
import Derived.Test.YthnhboimcidhgaaGreatDoorMc3
import Derived.Test.YthnhboimcidhgaaGreatDoorBr
namespace Go.Aug.Mc
open Go Go.Aug
open Nat renaming reduceLT -> zN0, reduceEqDiff -> zN1, reduceAdd -> zN2, reduceMul -> zN3, reduceLeDiff -> zN4
open Int renaming reduceEq -> zI0, reduceLT -> zI1, reduceLE -> zI2, reduceNeg -> zI3
set_option linter.unusedSimpArgs false
set_option linter.unusedVariables false
set_option maxHeartbeats 40000000
set_option maxRecDepth 200000
theorem Zq8 {p:Prog}{c:Conf}{g:Int}(hl:c.buf.length<1073741823)(hm:c.state.mem.length<1073741824)(hs:c.state.stack.length<1073741824)(hr:c.rsb.length<1073741823):
  (Md.BK p c g).state.mem.length<1073741824/\(Md.BK p c g).state.stack.length<1073741824/\(Md.BK p c g).buf.length<1073741824/\(Md.BK p c g).rsb.length<1073741824:=by
 refine⟨hm,hs,?_,?_⟩
 ·show (c.buf ++ [(Md.Qx p c g).1]).length < _
  rw[List.length_append,List.length_singleton];omega
 ·show (Md.Qx p c g).2.length < _
  unfold Md.Qx
  simp only
  split
  ·show c.rsb.length<_;omega
  split
  ·show c.rsb.length<_;omega
  split
  ·show c.rsb.length<_;omega
  split
  ·show (Md.push c.rsb _).length < _
   unfold Md.push
   rw[List.length_drop,List.length_append,List.length_singleton];omega
  split
  ·split
   ·show c.rsb.length<_;omega
   ·show c.rsb.dropLast.length < _
    rw[List.length_dropLast];omega
  split
  ·show c.rsb.length<_;omega
  ·show c.rsb.length<_;omega
variable {E:Env} {fn:FuncId->Option (Env->cT->cT)}
section
variable (S:Sur E fn)
include S
theorem TA:E.lives 46 7=none/\E.lives 46 13=none/\E.lives 46 17=none/\E.lives 46 21=none:=⟨off S 46 7 (by decide) rfl,off S 46 13 (by decide) rfl,off S 46 17 (by decide) rfl,off S 46 21 (by decide) rfl⟩
theorem Zlb (dp:Nat)(p:Prog)(c:Conf)(d:Dir)(hi:p.ins.length<1073741824)(hp:p.mems.length<1073741824)(hl:c.buf.length<1073741823)(hm:c.state.mem.length<1073741824)(hs:c.state.stack.length<1073741823)(hr:c.rsb.length<1073741823)(hg:(B6 (Md.real p c.state.stack c.buf d.n)).length<1073741824)(hd:0<=(Md.at_ p (Md.ZP c.buf 0).pc).d/\(Md.at_ p (Md.ZP c.buf 0).pc).d<=3):Z6 E fn (dp+11) 46 [Zw p,ZS c,.agg (Cl.cells d)] (.tup [ZS (A6 (Zz p.mems) p c d).1,rD (A6 (Zz p.mems) p c d).2,vb (Md.Q0 (Zz p.mems) p c d)]):=by
 unfold Z6
 show Z7 (Z4 E fn (dp+10+1) 46 [.d (Zw p),.d (ZS c),.d (.agg (Cl.cells d))] [])=_
 rw[ZD,S.Zbh,ZG,Zgu,ZC _ _ _ _ _ _ _ _ rfl]
 have hl':c.buf.length<1073741824:=by omega
 have hs':c.state.stack.length<1073741824:=by omega
 have hr':c.rsb.length<1073741824:=by omega
 cases hcan:Md.Q0 (Zz p.mems) p c d with
 | false=>simp only[eG,go_sem,Z3 S,Z2 S,zN0,zN1,zN2,zN3,zN4,zI0,zI1,zI2,zI3,reduceCtorEq,TA S,U7 S,hi,hp,hl',hcan,Bool.not_false,A6,Md.B1]
 | true=>
  have hsay:A6 (Zz p.mems) p c d=Md.say (Zz p.mems) p c d:=by unfold A6;rw[hcan];rfl
  rw[hsay]
  have cF:=fun(A:List Blk) (nb:Nat)=>Z6.deep (Zkx S (dp+4) p c d.n hi hl hm hs' hr) (np S 91 (by decide)) A nb
  have cD:=fun(A:List Blk) (nb:Nat)=>Z6.deep (Zl7 S dp p c d.n hp hm hs' hl' hr' hg) (np S 88 (by decide)) A nb
  have cA:=fun(A:List Blk) (nb:Nat)=>Z6.deep (Zla S (dp+2) p c d.n hp hm hs' hl' hr') (np S 89 (by decide)) A nb
  have cR:=fun(A:List Blk) (nb:Nat)=>Z6.deep (Zji S (dp+5) p c hl hm hs hr' hd) (np S 90 (by decide)) A nb
  have hdd:=hcan
  obtain⟨dk,dn⟩:=d
  simp only at cF cD cA cR hcan hg
  by_cases k1:dk=1
  ·subst k1
   have hc:Md.BC p c dn=true:=by simpa [Md.Q0] using hcan
   have hF:H1 p c dn=Md.BK p c dn:=by unfold H1;rw[hc];rfl
   obtain⟨f1,f2,f3,f4⟩:=Zq8 (p:=p) (c:=c) (g:=dn) hl hm hs' hr
   rw[hF,hc] at cF
   have e1:Md.say (Zz p.mems) p c ⟨1,dn⟩=(Md.BK p c dn,[]):=rfl
   rw[e1]
   generalize Md.BK p c dn=X at *
   simp only[Zw,Y3,ZS,Jq,GQ,CU,List.cons_append,List.nil_append] at cF
   simp only[eG,go_sem,Z3 S,Z2 S,zN0,zN1,zN2,zN3,zN4,zI0,zI1,zI2,zI3,reduceCtorEq,TA S,U7 S,hi,hp,hl',hcan,Bool.not_true,cF,X7 S,f1,f2,f3,f4]
  by_cases k2:dk=2
  ·subst k2
   have hc:Md.can (Zz p.mems) p c dn=true:=by simpa [Md.Q0] using hcan
   have hF:JV (Zz p.mems) p c dn=Md.JU (Zz p.mems) p c dn:=by unfold JV;rw[hc];rfl
   rw[hF,hc] at cD
   have e1:Md.say (Zz p.mems) p c ⟨2,dn⟩=Md.JU (Zz p.mems) p c dn:=rfl
   rw[e1]
   generalize Md.JU (Zz p.mems) p c dn=X at *
   simp only[Zw,Y3,ZS,Jq,GQ,CU,List.cons_append,List.nil_append] at cD
   simp only[eG,go_sem,Z3 S,Z2 S,zN0,zN1,zN2,zN3,zN4,zI0,zI1,zI2,zI3,reduceCtorEq,TA S,U7 S,hi,hp,hl',hcan,Bool.not_true,cD]
  by_cases k3:dk=3
  ·subst k3
   have hc:Md.Q8 p c dn=true:=by simpa [Md.Q0] using hcan
   have hF:EH (Zz p.mems) p c dn=Md.EG (Zz p.mems) p c dn:=by unfold EH;rw[hc];rfl
   rw[hF,hc] at cA
   have e1:Md.say (Zz p.mems) p c ⟨3,dn⟩=Md.EG (Zz p.mems) p c dn:=rfl
   rw[e1]
   generalize Md.EG (Zz p.mems) p c dn=X at *
   simp only[Zw,Y3,ZS,Jq,GQ,CU,List.cons_append,List.nil_append] at cA
   simp only[eG,go_sem,Z3 S,Z2 S,zN0,zN1,zN2,zN3,zN4,zI0,zI1,zI2,zI3,reduceCtorEq,TA S,U7 S,hi,hp,hl',hcan,Bool.not_true,cA]
  have h4:dk=4/\dn=0/\Md.QC p c=true:=by
   simp[Md.Q0,k1,k2,k3] at hcan
   exact⟨hcan.1.1,hcan.1.2,hcan.2⟩
  obtain⟨k4,n0,hc⟩:=h4
  subst k4
  have hF:QT p c=Md.QS p c:=by unfold QT;rw[hc];rfl
  rw[hF,hc] at cR
  have e1:Md.say (Zz p.mems) p c ⟨4,dn⟩=(Md.QS p c,[]):=rfl
  rw[e1]
  generalize Md.QS p c=X at *
  simp only[Zw,Y3,ZS,Jq,GQ,CU,List.cons_append,List.nil_append] at cR
  simp only[eG,go_sem,Z3 S,Z2 S,zN0,zN1,zN2,zN3,zN4,zI0,zI1,zI2,zI3,reduceCtorEq,TA S,U7 S,hi,hp,hl',hcan,Bool.not_true,cR]
end
theorem S6 (k:K)(tm:List AV)(A:List Blk):H4 [] k tm A=k tm A:=id rfl
theorem Z53 (a b:Obs):(decide (a.kind=b.kind)&&decide (a.at_=b.at_))=decide (a=b):=by
 cases a;cases b
 rw[Bool.eq_iff_iff]
 simp only[Bool.and_eq_true,decide_eq_true_eq,Obs.mk.injEq]
theorem Z54 (a b:Dir):(decide (a.kind=b.kind)&&decide (a.n=b.n))=decide (a=b):=by
 cases a;cases b
 rw[Bool.eq_iff_iff]
 simp only[Bool.and_eq_true,decide_eq_true_eq,Dir.mk.injEq]
variable {E:Env} {fn:FuncId->Option (Env->cT->cT)}
section
variable (S:Sur E fn)
include S
theorem MQ:E.lives 47 1=none/\E.lives 47 7=none/\E.lives 47 17=none:=⟨off S 47 1 (by decide) rfl,off S 47 7 (by decide) rfl,off S 47 17 (by decide) rfl⟩
theorem MR:E.lives 22 1=none/\E.lives 22 7=none/\E.lives 22 17=none:=⟨off S 22 1 (by decide) rfl,off S 22 7 (by decide) rfl,off S 22 17 (by decide) rfl⟩
theorem MS:E.lives 21 1=none/\E.lives 21 7=none/\E.lives 21 17=none:=⟨off S 21 1 (by decide) rfl,off S 21 7 (by decide) rfl,off S 21 17 (by decide) rfl⟩
theorem Zof (dp:Nat)(a b:List Int)(hl:a.length<1073741824)(hab:a.length=b.length)(kx:Nat->K)(hx:∀ T,Z7 (kx 0 (mk .bot 26 T) [])=some (vb true)):∀ m k f,k+m=a.length->m<=f->
  Z7 (R8 (Zj E 47) (Z4 E fn dp) (Z9 10 R8 (Zj E 47) (Z4 E fn dp) kx (ZY 0 [.tmp 4]) f) kx (ZY 0 [.tmp 4]) (mk .bot 26 [(0,.d (rD a)),(1,.d (rD b)),(5,aI k)]) [])=
  some (vb (decide (a.drop k=b.drop k))):=by
 intro m
 induction m with
 | zero=>
  intro k f hk _
  obtain rfl:k=a.length:=by omega
  generalize Z9 10 R8 _ _ kx _ f=KK
  rw[R8,show a.drop a.length=[] from List.drop_length,show b.drop a.length=[] by rw[hab];exact List.drop_length]
  simp only[eG,go_sem,Z3 S,Z2 S,zN0,zN1,zN2,zN3,zN4,zI0,zI1,zI2,zI3,reduceCtorEq,MQ S,Int.lt_irrefl]
  exact hx _
 | succ m ih=>
  intro k f hk hf
  obtain⟨e,he⟩:=YK (show k<a.length by omega)
  obtain⟨e',he'⟩:=YK (show k<b.length by omega)
  obtain⟨f,rfl⟩:∃ g,f=g+1:=⟨f-1,by omega⟩
  generalize hK:Z9 10 R8 _ _ kx _ (f+1)=KK
  rw[R8,Aj he,Aj he']
  by_cases h:e=e'
  ·subst h
   simp only[eG,go_sem,Z3 S,Z2 S,zN0,zN1,zN2,zN3,zN4,zI0,zI1,zI2,zI3,reduceCtorEq,MQ S,show(k:Int)<a.length by omega,Zx he,Zx he',wi k (by omega),S6]
   rw[<-hK,Z8 (on S _ _ [0,1,5] (by decide) rfl) rfl _ _ _ _ _ _ _ _ _ rfl]
   simp only[eG,go_sem,Z3 S,Z2 S,zN0,zN1,zN2,zN3,zN4,zI0,zI1,zI2,zI3,reduceCtorEq,MQ S]
   have:=ih (k+1) f (by omega) (by omega)
   simp only[List.cons.injEq,true_and]
   exact this
  ·simp only [eG, go_sem, Z3 S, Z2 S, zN0, zN1, zN2, zN3, zN4, zI0, zI1, zI2, zI3, reduceCtorEq, MQ S, show (k : Int) < a.length by omega, Zx he, Zx he', wi k (by omega), S6, eq_false h]
   simp[h]
theorem Zkn (dp:Nat)(a b:List Int)(hl:a.length<1073741824):Z6 E fn (dp+1) 47 [rD a,rD b] (vb (decide (a=b))):=by
 unfold Z6
 show Z7 (Z4 E fn (dp+1) 47 [.d (rD a),.d (rD b)] [])=_
 rw[ZD,S.Zar,ZG,Zg4,ZC _ _ _ _ _ _ _ _ rfl]
 by_cases hab:a.length=b.length
 ·simp only [eG, go_sem, Z3 S, Z2 S, zN0, zN1, zN2, zN3, zN4, zI0, zI1, zI2, zI3, reduceCtorEq, MQ S, hab, not_true_eq_false]
  rw[Y7,Z8 (on S _ _ [0,1,5] (by decide) rfl) rfl _ _ _ _ _ _ _ _ _ rfl]
  simp only[eG,go_sem,Z3 S,Z2 S,zN0,zN1,zN2,zN3,zN4,zI0,zI1,zI2,zI3,reduceCtorEq,MQ S]
  refine Zof S dp a b hl hab _ ?_ a.length 0 _ (by omega) (by omega)
  intro T
  simp only[eG,go_sem,Z3 S,Z2 S,zN0,zN1,zN2,zN3,zN4,zI0,zI1,zI2,zI3,reduceCtorEq,MQ S]
 ·have hne : ¬ a = b := fun e => hab (by rw [e])
  simp only[eG,go_sem,Z3 S,Z2 S,zN0,zN1,zN2,zN3,zN4,zI0,zI1,zI2,zI3,reduceCtorEq,MQ S,show ¬((a.length:Int)=b.length) by omega,not_false_eq_true,eq_false hne]
theorem Zsi (dp:Nat)(a b:List Int)(hl:a.length<1073741824)(A:List Blk)(nb:Nat)(us:List Nat):Zv false E (Z4 E fn (dp+1)) 47 A nb (some ([rD a,rD b],us))=some (.made (.d (vb (decide (a=b)))) []):=
 Z6.flat (Zkn S dp a b hl) (np S 47 (by decide)) (rfl) A nb us
theorem Zoe (dp:Nat)(a b:List Obs)(hl:a.length<1073741824)(hab:a.length=b.length)(kx:Nat->K)(hx:∀ T,Z7 (kx 0 (mk .bot 26 T) [])=some (vb true)):∀ m k f,k+m=a.length->m<=f->
  Z7 (R7 (Zj E 22) (Z4 E fn dp) (Z9 10 R7 (Zj E 22) (Z4 E fn dp) kx (ZY 0 [.tmp 4]) f) kx (ZY 0 [.tmp 4]) (mk .bot 26 [(0,.d (rD a)),(1,.d (rD b)),(5,aI k)]) [])=
  some (vb (decide (a.drop k=b.drop k))):=by
 intro m
 induction m with
 | zero=>
  intro k f hk _
  obtain rfl:k=a.length:=by omega
  generalize Z9 10 R7 _ _ kx _ f=KK
  rw[R7,show a.drop a.length=[] from List.drop_length,show b.drop a.length=[] by rw[hab];exact List.drop_length]
  simp only[eG,go_sem,Z3 S,Z2 S,zN0,zN1,zN2,zN3,zN4,zI0,zI1,zI2,zI3,reduceCtorEq,MR S,Int.lt_irrefl]
  exact hx _
 | succ m ih=>
  intro k f hk hf
  obtain⟨e,he⟩:=YK (show k<a.length by omega)
  obtain⟨e',he'⟩:=YK (show k<b.length by omega)
  obtain⟨f,rfl⟩:∃ g,f=g+1:=⟨f-1,by omega⟩
  generalize hK:Z9 10 R7 _ _ kx _ (f+1)=KK
  rw[R7,Aj he,Aj he']
  by_cases h:e=e'
  ·subst h
   simp only[eG,go_sem,Z3 S,Z2 S,zN0,zN1,zN2,zN3,zN4,zI0,zI1,zI2,zI3,reduceCtorEq,MR S,show(k:Int)<a.length by omega,Zx he,Zx he',wi k (by omega),S6,Z53]
   rw[<-hK,Z8 (on S _ _ [0,1,5] (by decide) rfl) rfl _ _ _ _ _ _ _ _ _ rfl]
   simp only[eG,go_sem,Z3 S,Z2 S,zN0,zN1,zN2,zN3,zN4,zI0,zI1,zI2,zI3,reduceCtorEq,MR S]
   have:=ih (k+1) f (by omega) (by omega)
   simp only[List.cons.injEq,true_and]
   exact this
  ·simp only [eG, go_sem, Z3 S, Z2 S, zN0, zN1, zN2, zN3, zN4, zI0, zI1, zI2, zI3, reduceCtorEq, MR S, show (k : Int) < a.length by omega, Zx he, Zx he', wi k (by omega), S6, Z53, eq_false h]
   simp[h]
theorem Zkg (dp:Nat)(a b:List Obs)(hl:a.length<1073741824):Z6 E fn (dp+1) 22 [rD a,rD b] (vb (decide (a=b))):=by
 unfold Z6
 show Z7 (Z4 E fn (dp+1) 22 [.d (rD a),.d (rD b)] [])=_
 rw[ZD,S.Zai,ZG,Zfv,ZC _ _ _ _ _ _ _ _ rfl]
 by_cases hab:a.length=b.length
 ·simp only [eG, go_sem, Z3 S, Z2 S, zN0, zN1, zN2, zN3, zN4, zI0, zI1, zI2, zI3, reduceCtorEq, MR S, hab, not_true_eq_false]
  rw[Y7,Z8 (on S _ _ [0,1,5] (by decide) rfl) rfl _ _ _ _ _ _ _ _ _ rfl]
  simp only[eG,go_sem,Z3 S,Z2 S,zN0,zN1,zN2,zN3,zN4,zI0,zI1,zI2,zI3,reduceCtorEq,MR S]
  refine Zoe S dp a b hl hab _ ?_ a.length 0 _ (by omega) (by omega)
  intro T
  simp only[eG,go_sem,Z3 S,Z2 S,zN0,zN1,zN2,zN3,zN4,zI0,zI1,zI2,zI3,reduceCtorEq,MR S]
 ·have hne : ¬ a = b := fun e => hab (by rw [e])
  simp only[eG,go_sem,Z3 S,Z2 S,zN0,zN1,zN2,zN3,zN4,zI0,zI1,zI2,zI3,reduceCtorEq,MR S,show ¬((a.length:Int)=b.length) by omega,not_false_eq_true,eq_false hne]
theorem U5 (dp:Nat)(a b:List Obs)(hl:a.length<1073741824)(A:List Blk)(nb:Nat)(us:List Nat):Zv false E (Z4 E fn (dp+1)) 22 A nb (some ([rD a,rD b],us))=some (.made (.d (vb (decide (a=b)))) []):=
 Z6.flat (Zkg S dp a b hl) (np S 22 (by decide)) (rfl) A nb us
theorem Zod (dp:Nat)(a b:List Dir)(hl:a.length<1073741824)(hab:a.length=b.length)(kx:Nat->K)(hx:∀ T,Z7 (kx 0 (mk .bot 26 T) [])=some (vb true)):∀ m k f,k+m=a.length->m<=f->
  Z7 (R5 (Zj E 21) (Z4 E fn dp) (Z9 10 R5 (Zj E 21) (Z4 E fn dp) kx (ZY 0 [.tmp 4]) f) kx (ZY 0 [.tmp 4]) (mk .bot 26 [(0,.d (rD a)),(1,.d (rD b)),(5,aI k)]) [])=
  some (vb (decide (a.drop k=b.drop k))):=by
 intro m
 induction m with
 | zero=>
  intro k f hk _
  obtain rfl:k=a.length:=by omega
  generalize Z9 10 R5 _ _ kx _ f=KK
  rw[R5,show a.drop a.length=[] from List.drop_length,show b.drop a.length=[] by rw[hab];exact List.drop_length]
  simp only[eG,go_sem,Z3 S,Z2 S,zN0,zN1,zN2,zN3,zN4,zI0,zI1,zI2,zI3,reduceCtorEq,MS S,Int.lt_irrefl]
  exact hx _
 | succ m ih=>
  intro k f hk hf
  obtain⟨e,he⟩:=YK (show k<a.length by omega)
  obtain⟨e',he'⟩:=YK (show k<b.length by omega)
  obtain⟨f,rfl⟩:∃ g,f=g+1:=⟨f-1,by omega⟩
  generalize hK:Z9 10 R5 _ _ kx _ (f+1)=KK
  rw[R5,Aj he,Aj he']
  by_cases h:e=e'
  ·subst h
   simp only[eG,go_sem,Z3 S,Z2 S,zN0,zN1,zN2,zN3,zN4,zI0,zI1,zI2,zI3,reduceCtorEq,MS S,show(k:Int)<a.length by omega,Zx he,Zx he',wi k (by omega),S6,Z54]
   rw[<-hK,Z8 (on S _ _ [0,1,5] (by decide) rfl) rfl _ _ _ _ _ _ _ _ _ rfl]
   simp only[eG,go_sem,Z3 S,Z2 S,zN0,zN1,zN2,zN3,zN4,zI0,zI1,zI2,zI3,reduceCtorEq,MS S]
   have:=ih (k+1) f (by omega) (by omega)
   simp only[List.cons.injEq,true_and]
   exact this
  ·simp only [eG, go_sem, Z3 S, Z2 S, zN0, zN1, zN2, zN3, zN4, zI0, zI1, zI2, zI3, reduceCtorEq, MS S, show (k : Int) < a.length by omega, Zx he, Zx he', wi k (by omega), S6, Z54, eq_false h]
   simp[h]
theorem Zjw (dp:Nat)(a b:List Dir)(hl:a.length<1073741824):Z6 E fn (dp+1) 21 [rD a,rD b] (vb (decide (a=b))):=by
 unfold Z6
 show Z7 (Z4 E fn (dp+1) 21 [.d (rD a),.d (rD b)] [])=_
 rw[ZD,S.Z9x,ZG,Zfa,ZC _ _ _ _ _ _ _ _ rfl]
 by_cases hab:a.length=b.length
 ·simp only [eG, go_sem, Z3 S, Z2 S, zN0, zN1, zN2, zN3, zN4, zI0, zI1, zI2, zI3, reduceCtorEq, MS S, hab, not_true_eq_false]
  rw[Y7,Z8 (on S _ _ [0,1,5] (by decide) rfl) rfl _ _ _ _ _ _ _ _ _ rfl]
  simp only[eG,go_sem,Z3 S,Z2 S,zN0,zN1,zN2,zN3,zN4,zI0,zI1,zI2,zI3,reduceCtorEq,MS S]
  refine Zod S dp a b hl hab _ ?_ a.length 0 _ (by omega) (by omega)
  intro T
  simp only[eG,go_sem,Z3 S,Z2 S,zN0,zN1,zN2,zN3,zN4,zI0,zI1,zI2,zI3,reduceCtorEq,MS S]
 ·have hne : ¬ a = b := fun e => hab (by rw [e])
  simp only[eG,go_sem,Z3 S,Z2 S,zN0,zN1,zN2,zN3,zN4,zI0,zI1,zI2,zI3,reduceCtorEq,MS S,show ¬((a.length:Int)=b.length) by omega,not_false_eq_true,eq_false hne]
theorem Zsc (dp:Nat)(a b:List Dir)(hl:a.length<1073741824)(A:List Blk)(nb:Nat)(us:List Nat):Zv false E (Z4 E fn (dp+1)) 21 A nb (some ([rD a,rD b],us))=some (.made (.d (vb (decide (a=b)))) []):=
 Z6.flat (Zjw S dp a b hl) (np S 21 (by decide)) (rfl) A nb us
end
end Go.Aug.Mc
namespace Go.Aug.Md
open Go Go.Aug
theorem WE (a:Int)(k:Nat)(hk:k<=62):∃ r:Nat,r<2^k/\YF a ((2^k-1:Nat):Int)=r:=by
 obtain⟨r,h1,h2⟩:=Z75 a k hk
 refine⟨r,h1,?_⟩
 have:F4 .and .i64 a ((2^k-1:Nat):Int)=some (.int .i64 (YF a ((2^k-1:Nat):Int))):=rfl
 rw[this] at h2
 simpa using h2
theorem Z87 (a:Int):∃ r:Nat,r<2/\YF a 1=r:=WE a 1 (by decide)
theorem N6 (a:Int):∃ r:Nat,r<4/\YF a 3=r:=WE a 2 (by decide)
theorem Z86 (a:Int):∃ r:Nat,r<256/\YF a 255=r:=WE a 8 (by decide)
def kM (l:List Int)(i:Int):Int:=(l[i.toNat]?).getD i
def ZZ (x:Int)(n:Nat):Int:=x.fdiv (2^n)
def YR (x:Int)(n:Nat):Nat:=(YF x 255).toNat%n
theorem Zo7 (x:Int)(n:Nat):(YF x 255).tmod (n:Int)=(YR x n:Nat):=by
 obtain⟨r,_,h⟩:=Z86 x
 rw[YR,h,Int.toNat_natCast,<-Int.ofNat_tmod]
theorem RW (x:Int){n:Nat}(h:0<n):YR x n<n:=Nat.mod_lt _ h
def v0:Val:=⟨false,0⟩
def Hz (n:Int):Val:=if YF n 4=0 then⟨false,YF n 3⟩ else⟨true,YF n 3⟩
def N2:List Int:=[1,1,2,2,2,3,3,4,5,5,5,6,7,8,9,10,11,1]
def o4:List Int:=[9,10,3,2]
def A7 (x:Int)(n:Nat):Ins:=
 let k:=N2.getD (YR x 18) 0
 let a:=Hz (ZZ x 8)
 let b:=Hz (ZZ x 11)
 let d:=YF (ZZ x 14) 3
 let t:Int:=YR (ZZ x 18) (n+1)
 if k=1 then⟨1,YR (ZZ x 16) 10+1,d,a,b,⟨#[]⟩,0⟩
 else if k=2∨k=3∨k=4 then⟨k,0,d,a,b,⟨#[]⟩,0⟩
 else if k=5 then⟨5,o4.getD (YF (ZZ x 16) 3).toNat 0,0,a,b,⟨#[]⟩,t⟩
 else if k=6∨k=8 then⟨k,0,0,v0,v0,⟨#[]⟩,t⟩
 else if k=7 then⟨7,0,0,a,v0,⟨#[]⟩,0⟩
 else⟨k,0,0,v0,v0,⟨#[]⟩,0⟩
def r4:List Int:=[0,0,1,2]
def Vv (l:List Int)(n:Nat):Int:=r4.getD (YF (ZZ (kM l 1) n) 3).toNat 0
abbrev QG (x:Int):Int:=IntKind.i64.wrap x
def QJ (W pub sec r:Int):Int×Int×Int:=
 if r=1/\QG (pub+W)<=2 then(r,QG (pub+W),sec) else if r=2/\QG (sec+W)<=2 then(r,pub,QG (sec+W)) else(0,pub,sec)
def JD (l:List Int)(W:Int):=QJ W 0 0 (Vv l 0)
def JC (l:List Int)(W:Int):=QJ W (JD l W).2.1 (JD l W).2.2 (Vv l 2)
def JB (l:List Int)(W:Int):=QJ W (JC l W).2.1 (JC l W).2.2 (Vv l 4)
def QW (l:List Int)(W:Int):=QJ W (JB l W).2.1 (JB l W).2.2 (Vv l 6)
def Bk (l:List Int)(W:Int):List MemT:=if 0<YF (ZZ (kM l 1) 8) 3 then[⟨⟨#[109]⟩,false,if W=1/\YF (ZZ (kM l 1) 10) 3=0 then 2 else 1⟩] else[]
def J2 (l:List Int)(W:Int):List MemT:=
 if 0<YF (ZZ (kM l 1) 12) 3/\QG ((QW l W).2.2+W)<=3/\(Bk l W=[]∨(Bk l W).map MemT.n=[1]) then Bk l W++[⟨⟨#[115]⟩,true,1⟩] else Bk l W
def S5 (n:Nat):ByteArray:=⟨#[(48+n).toUInt8]⟩
def HQ (n:Nat):Label:=⟨⟨#[108,(48+n).toUInt8]⟩,n⟩
def nM (l:List Int):Nat:=(YF (ZZ (kM l 0) 12) 3).toNat+2
def Zk (l:List Int):Int:=YF (kM l 0) 1+1
def make (l:List Int):Prog:=
 ⟨Zk l, YR (ZZ (kM l 0) 1) 3 + 1, 6, ⟨(JD l (Zk l)).1, (JC l (Zk l)).1, (JB l (Zk l)).1, (QW l (Zk l)).1⟩,
  J2 l (Zk l),(List.range (nM l+1)).map HQ,(List.range (nM l)).map fun i:Nat=>A7 (kM l (i+2)) (nM l)⟩
end Go.Aug.Md
namespace Go.Aug.Md
open Go Go.Aug
set_option linter.unusedSimpArgs false
set_option linter.unusedVariables false
structure Fine (p:Prog):Prop where
 w:Jj p.w=true
 win:1<=p.window/\p.window<=3
 n:p.ins.length<=1000
 ins:∀ x ∈ p.ins,1<=x.kind/\x.kind<=12/\0<=x.d/\x.d<=3/\0<=x.target/\x.target<=p.ins.length/\(x.a.reg=true->0<=x.a.n/\x.a.n<=3)/\(x.b.reg=true->0<=x.b.n/\x.b.n<=3)
theorem Zdn {p:Prog}(pc:Int):(at_ p pc ∈ p.ins/\0<=pc/\pc<p.ins.length)∨at_ p pc=N8:=by
 unfold at_
 by_cases h:0<=pc
 ·rw [if_pos h]
  cases hx:p.ins[pc.toNat]? with
  | none=>exact .inr rfl
  | some x=>
   have:=(List.getElem?_eq_some_iff.1 hx).1
   exact .inl ⟨List.mem_of_getElem? hx,h,by omega⟩
 ·rw[if_neg h];exact .inr rfl
theorem Uv {p:Prog}{pc:Int}(h:(at_ p pc).kind≠12):0<=pc/\pc<p.ins.length:=by
 rcases Zdn (p:=p) pc with⟨_,h1⟩ | h1
 ·exact h1
 ·exact absurd (by rw[h1];rfl) h
theorem Fine.at_ {p:Prog}(hp:Fine p)(pc:Int):1<=(Md.at_ p pc).kind/\(Md.at_ p pc).kind<=12/\0<=(Md.at_ p pc).d/\(Md.at_ p pc).d<=3/\0<=(Md.at_ p pc).target/\(Md.at_ p pc).target<=p.ins.length/\((Md.at_ p pc).a.reg=true->0<=(Md.at_ p pc).a.n/\(Md.at_ p pc).a.n<=3)/\((Md.at_ p pc).b.reg=true->0<=(Md.at_ p pc).b.n/\(Md.at_ p pc).b.n<=3):=by
 rcases Zdn (p:=p) pc with⟨h,_⟩ | h
 ·exact hp.ins _ h
 ·rw[h];simp[N8]
theorem Rz {n:Int}(h1: -9223372036854775808<=n)(h2:n<=9223372036854775807):ZW n=n:=YH h1 h2
theorem Z4c (b:Bool):0<=EN b:=by cases b<;>decide
theorem Zh5 (w op a b:Int):0<=DJ w op a b:=by
 unfold DJ
 cases hw:Jj w with
 | false=>exact Int.le_refl _
 | true=>
  simp only[cond_true]
  have m:∀ n,0<=Y1 w n:=fun n=>PE w n
  unfold Tj
  split
  ·exact m _
  split
  ·exact m _
  split
  ·show 0<=YF _ _;rw[<-Z7a hw];exact m _
  split
  ·show 0<=PJ _ _;rw[<-Z79 hw];exact m _
  split
  ·show 0<=PH _ _;rw[<-Z78 hw];exact m _
  split
  ·show 0 <= shl _ _ _
   unfold shl;split
   ·exact Int.le_refl _
   ·exact m _
  split
  ·show 0 <= shr _ _ _
   unfold shr;split
   ·exact Int.le_refl _
   ·rw[<-Z1d hw];exact m _
  split
  ·exact m _
  split
  ·exact Z4c _
  split
  ·exact Z4c _
  ·exact Int.le_refl _
theorem SX (p:Prog):∀(l l':List Ent) (st:List Int),l.map Ent.pc=l'.map Ent.pc->QX p l st=QX p l' st
 | [],[],_,_=>rfl
 | [],_::_,_,h=>by simp at h
 | _::_,[],_,h=>by simp at h
 | e::l,e'::l',st,h=>by
  simp only[List.map_cons,List.cons.injEq] at h
  unfold QX
  rw[h.1]
  split
  ·split
   ·rfl
   ·exact SX p l l' _ h.2
  ·split
   ·split
    ·rfl
    ·exact SX p l l' _ h.2
   ·exact SX p l l' _ h.2
theorem Z0d (p:Prog)(st:List Int){l l':List Ent}{i:Int}(h:(cut l i).map Ent.pc=(cut l' i).map Ent.pc):real p st l i=real p st l' i:=SX p _ _ _ h
theorem Nv (l:List Ent)(i:Int):(cut l i).map Ent.pc=(l.map Ent.pc).take i.toNat:=by unfold cut;rw[List.map_take]
theorem Zi2 {l:List Ent}{i:Nat}{e e':Ent}(h:l[i]? =some e)(hp:e'.pc=e.pc):(l.set i e').map Ent.pc=l.map Ent.pc:=by
 apply List.ext_getElem?
 intro k
 rw[List.getElem?_map,List.getElem?_map]
 by_cases hk:i=k
 ·subst hk
  have hl:=(List.getElem?_eq_some_iff.1 h).1
  rw[List.getElem?_set_self hl,h];simp[hp]
 ·rw[List.getElem?_set_ne hk]
theorem Zim (p:Prog)(st:List Int){l:List Ent}{i:Nat}{e e':Ent}(h:l[i]? =some e)(hp:e'.pc=e.pc)(k:Int):real p st (l.set i e') k=real p st l k:=
 Z0d p st (by rw[Nv,Nv,Zi2 h hp])
theorem Zil (p:Prog)(st:List Int)(l:List Ent){m:Nat}{k:Int}(h:k.toNat<=m):real p st (l.take m) k=real p st l k:=
 Z0d p st (by rw[Nv,Nv,List.map_take,List.take_take,Nat.min_eq_left h])
theorem Z5t (p:Prog)(st:List Int)(l r:List Ent){k:Int}(h:k.toNat<=l.length):real p st (l++r) k=real p st l k:=
 Z0d p st (by rw[Nv,Nv,List.map_append,List.take_append_of_le_length (by rw[List.length_map];exact h)])
theorem Vz (p:Prog)(hp:Fine p)(Q:Int->Prop)(hQ:∀ pc:Int,0<=pc->pc<(p.ins.length:Int)->Q (pc+1)):∀(l:List Ent) (st:List Int),(∀ x ∈ st,Q x)->∀ r,QX p l st=some r->∀ x ∈ r,Q x
 | [],st,h,r,hr=>by simp[QX] at hr;subst hr;exact h
 | e::l,st,h,r,hr=>by
  unfold QX at hr
  split at hr
  ·rename_i k8
   split at hr
   ·cases hr
   ·refine Vz p hp Q hQ l _ ?_ r hr
    obtain⟨a,b⟩:=Uv (p:=p) (pc:=e.pc) (by rw[k8];decide)
    have:=hp.n
    intro x hx
    rcases List.mem_append.1 hx with hx | hx
    ·exact h x hx
    ·simp at hx; subst hx
     rw[Rz (by omega) (by omega)];exact hQ _ a b
  ·split at hr
   ·split at hr
    ·cases hr
    ·exact Vz p hp Q hQ l _ (fun x hx=>h x ((List.dropLast_sublist st).subset hx)) r hr
   ·exact Vz p hp Q hQ l _ h r hr
theorem Vx (p:Prog):∀(l:List Ent) (st:List Int) r,QX p l st=some r->r.length<=st.length+l.length
 | [],st,r,hr=>by simp[QX] at hr;subst hr;simp
 | e::l,st,r,hr=>by
  unfold QX at hr
  split at hr
  ·split at hr
   ·cases hr
   ·have:=Vx p l _ r hr;simp at this ⊢;omega
  ·split at hr
   ·split at hr
    ·cases hr
    ·have:=Vx p l _ r hr;simp at this ⊢;omega
   ·have:=Vx p l _ r hr;simp at this ⊢;omega
structure EntOk (N:Int) (p:Prog) (k:Nat) (r:Option (List Int)) (e:Ent):Prop where
 pc:0<=e.pc/\e.pc<=p.ins.length
 nx: -1<=e.next/\e.next<=p.ins.length
 fr: -1<=e.frm/\e.frm<k
 vl:0<=e.val
 ld:(at_ p e.pc).kind=2->e.done=false->e.val=0/\e.frm= -1
 st:(at_ p e.pc).kind=3->e.known=false->e.fault=false
 sk:(at_ p e.pc).kind=3->e.known=true->e.fault=false->0<=e.addr/\e.addr<N
 rt:(at_ p e.pc).kind=9->e.done=true->e.fault=false->∃ l,r=some l/\l≠[]
 cl:(at_ p e.pc).kind=8->e.fault=false->∃ l,r=some l/\l.length<4
 dn:(at_ p e.pc).kind=6∨(at_ p e.pc).kind=8∨(at_ p e.pc).kind=11∨(at_ p e.pc).kind=12->e.done=true
def Kj (p:Prog)(e:Ent):Prop:=(at_ p e.pc).kind=11∨(at_ p e.pc).kind=12
structure Inv (N:Int) (p:Prog) (c:Conf):Prop where
 mem:(c.state.mem.length:Int)=N
 mv:∀ x ∈ c.state.mem,0<=x
 rg:0<=c.state.regs.r0/\0<=c.state.regs.r1/\0<=c.state.regs.r2/\0<=c.state.regs.r3
 buf:(c.buf.length:Int)<=p.window
 rsb:c.rsb.length<=2
 rv:∀ x ∈ c.rsb,0<=x/\x<=p.ins.length
 stk:c.state.stack.length<=4
 sv:∀ x ∈ c.state.stack,0<=x/\x<=p.ins.length
 pc: -1<=c.state.pc/\c.state.pc<=p.ins.length
 last:c.end_=0->c.state.pc= -1->∃ l e,c.buf=l++[e]/\Kj p e
 ent:∀(k:Nat) e,c.buf[k]? =some e->EntOk N p k (real p c.state.stack c.buf (k:Int)) e
section
variable {N:Int} {p:Prog} {c:Conf}
theorem Zpy (h:0<=c.state.regs.r0/\0<=c.state.regs.r1/\0<=c.state.regs.r2/\0<=c.state.regs.r3)(r:Int):0<=Bx c.state.regs r:=by
 unfold Bx;split
 ·exact h.1
 ·split
  ·exact h.2.1
  ·split
   ·exact h.2.2.1
   ·exact h.2.2.2
theorem Z5p (p:Prog)(r d:Int)(hd:0<=d):∀ l:List Ent,(∀ e ∈ l,0<=e.val)->0<=(E5 p r d l).1
 | [],_=>hd
 | e::l,h=>by
  unfold E5
  cases CZ (at_ p e.pc)&&(at_ p e.pc).d==r with
  | true=>
   cases e.done with
   | true=>exact h e (by simp)
   | false=>exact Int.le_refl _
  | false=>exact Z5p p r d hd l fun x hx=>h x (by simp[hx])
theorem Z72 {l:List Ent}{i:Int}{e:Ent}(h:e ∈ cut l i):e ∈ l:=List.mem_of_mem_take h
theorem Inv.vals (h:Inv N p c){e:Ent}(he:e ∈ c.buf):0<=e.val:=by
 obtain⟨k,hk⟩:=List.getElem?_of_mem he
 exact(h.ent k e hk).vl
theorem Inv.reg (h:Inv N p c)(i r:Int):0<=(C5 p c i r).1:=by
 unfold C5 Md.reg
 split
 ·exact Int.le_refl _
 ·exact Z5p p r _ (Zpy h.rg r) _ fun e he=>h.vals (Z72 (List.mem_reverse.1 he))
theorem Inv.val (h:Inv N p c)(i:Int)(v:Val):0<=(Y2 p c i v).1:=by
 unfold Y2 Md.val
 cases v.reg with
 | true=>exact h.reg i v.n
 | false=>exact PE _ _
theorem Z7m (p:Prog)(mem:List Int)(a:Int)(hm:∀ x ∈ mem,0<=x):∀ l:List Ent,(∀ e ∈ l,0<=e.val)->0<=(QN p mem a l).1/\((QN p mem a l).2.2=true-> -1<=(QN p mem a l).2.1/\(QN p mem a l).2.1<l.length)
 | [],_=>by
  unfold QN
  split
  ·exact⟨Int.le_refl _,fun _=>⟨Int.le_refl _,by simp⟩⟩
  ·refine ⟨?_, fun _ => ⟨Int.le_refl _, by simp⟩⟩
   cases hx:mem[a.toNat]? with
   | none=>exact Int.le_refl _
   | some x=>exact hm x (List.mem_of_getElem? hx)
 | e::l,h=>by
  unfold QN
  have ih:=Z7m p mem a hm l fun x hx=>h x (by simp[hx])
  cases HT p a e with
  | true=>
   cases e.done with
   | true=>exact⟨h e (by simp),fun _=>⟨by simp<;>omega,by simp<;>omega⟩⟩
   | false=>exact⟨Int.le_refl _,fun h=>by simp at h⟩
  | false=>exact⟨ih.1,fun h=>⟨(ih.2 h).1,by have:=(ih.2 h).2;simp;omega⟩⟩
theorem Inv.load (h:Inv N p c){i a:Int}(h0:0<=i):0<=(F0 p c i a).1/\((F0 p c i a).2.2=true-> -1<=(F0 p c i a).2.1/\(F0 p c i a).2.1<i):=by
 have:=Z7m p c.state.mem a h.mv (cut c.buf i).reverse fun e he=>h.vals (Z72 (List.mem_reverse.1 he))
 refine⟨this.1,fun hk=> ?_⟩
 obtain⟨a1,a2⟩:=this.2 hk
 refine⟨a1,Int.lt_of_lt_of_le a2 ?_⟩
 rw[List.length_reverse]
 unfold cut
 rw[List.length_take];omega
theorem Inv.real (hp:Fine p)(h:Inv N p c){i:Int}{l:List Int}(hr:real p c.state.stack c.buf i=some l):(∀ x ∈ l,0<=x/\x<=p.ins.length)/\l.length<=7:=by
 refine⟨Vz p hp (fun x=>0<=x/\x<=p.ins.length) (fun pc h1 h2=>⟨by omega,by omega⟩) _ _ h.sv _ hr,?_⟩
 have h1:=Vx p _ _ _ hr
 have h2:=h.stk
 have h3:=h.buf
 have h4:=hp.win
 have:(cut c.buf i).length<=c.buf.length:=by unfold cut;rw[List.length_take];omega
 omega
theorem Z7r {l:List Int}(h:l≠[]):C9 l ∈ l:=by
 unfold C9
 rw[List.getLast?_eq_some_getLast h]
 exact List.getLast_mem h
theorem Inv.put (h:Inv N p c){i:Nat}{e e':Ent}(he:c.buf[i]? =some e)(hpc:e'.pc=e.pc)(ho:EntOk N p i (Md.real p c.state.stack c.buf (i:Int)) e'):Inv N p { c with buf:=c.buf.set i e' }:=by
 refine { h with buf:=by simpa using h.buf,last:=fun h1 h2=> ?_,ent:=fun k x hx=> ?_ }
 ·obtain ⟨l, x, hl, hs⟩ := h.last h1 h2
  have hil:=(List.getElem?_eq_some_iff.1 he).1
  rw[hl] at he hil ⊢
  rw[List.length_append,List.length_singleton] at hil
  by_cases hi:i=l.length
  ·subst hi
   rw[List.getElem?_append_right (Nat.le_refl _),Nat.sub_self] at he
   simp at he
   subst he
   refine⟨l,e',?_,?_⟩
   ·rw[List.set_append_right _ _ (Nat.le_refl _),Nat.sub_self];rfl
   ·unfold Kj at hs ⊢;rw[hpc];exact hs
  ·refine ⟨l.set i e', x, ?_, hs⟩
   rw[List.set_append_left _ _ (by omega)]
 ·show EntOk N p k (Md.real p c.state.stack (c.buf.set i e') k) x
  rw[Zim p _ he hpc]
  by_cases hk:i=k
  ·subst hk
   have hx':(c.buf.set i e')[i]? =some x:=hx
   rw[List.getElem?_set_self (List.getElem?_eq_some_iff.1 he).1] at hx'
   simp at hx'
   subst hx'
   exact ho
  ·have hx' : (c.buf.set i e')[k]? = some x := hx
   rw[List.getElem?_set_ne hk] at hx'
   exact h.ent k x hx'
theorem Inv.cut (h:Inv N p c)(m:Nat){pc:Int}(h0:0<=pc)(h1:pc<=p.ins.length):Inv N p { c with buf:=c.buf.take m,state:={ c.state with pc:=pc } }:=by
 refine { h with buf:= ?_,pc:=⟨by show -1<=pc;omega,h1⟩,last:=fun _ h2=> ?_,ent:=fun k x hx=> ?_ }
 ·have := h.buf
  show((c.buf.take m).length:Int)<=_
  rw[List.length_take];omega
 ·have : pc = -1 := h2
  omega
 ·have hx' : (c.buf.take m)[k]? = some x := hx
  rw[List.getElem?_take] at hx'
  split at hx'
  ·show EntOk N p k (Md.real p c.state.stack (c.buf.take m) k) x
   rw[Zil p _ _ (by simp;omega)]
   exact h.ent k x hx'
  ·cases hx'
theorem Inv.goes (h:Inv N p c){i:Nat}{e:Ent}(he:c.buf[i]? =some e){to:Int}(h0:0<=to)(h1:to<=p.ins.length)(ho:∀ nx,-1<=nx->nx<=(p.ins.length:Int)->EntOk N p i (Md.real p c.state.stack c.buf (i:Int)) { e with done:=true,next:=nx }):Inv N p (B0 c i e to).1:=by
 unfold B0
 split
 ·exact h.put he rfl (by
   have hn:=(h.ent i e he).nx
   exact ho e.next hn.1 hn.2)
 ·exact(h.put (e':={ e with done:=true,next:=to }) he rfl (ho to (by omega) h1)).cut (i+1) h0 h1
end
end Go.Aug.Md
