import Derived.Test.YtmfdoekbjkgckaaGreatPr
namespace Go.Aug.Mc
open Go Go.Aug
open Nat renaming reduceLT -> zN0, reduceEqDiff -> zN1, reduceAdd -> zN2, reduceMul -> zN3, reduceLeDiff -> zN4
open Int renaming reduceEq -> zI0, reduceLT -> zI1, reduceLE -> zI2, reduceNeg -> zI3
set_option linter.unusedSimpArgs false
set_option linter.unusedVariables false
set_option maxHeartbeats 40000000
set_option maxRecDepth 200000
theorem Zgt {l:List Int}{k:Nat}{x:Int}(h:(l.take 40)[k]? =some x):l[k]? =some x/\k<40/\k<l.length:=by
 rw[List.getElem?_take] at h
 split at h
 ·rename_i hk;exact⟨h,hk,(List.getElem?_eq_some_iff.1 h).1⟩
 ·cases h
variable {E:Env} {fn:FuncId->Option (Env->cT->cT)}
section
variable (S:Sur E fn)
include S
theorem HA:E.lives 10 1=none/\E.lives 10 21=none:=⟨off S 10 1 (by decide) rfl,off S 10 21 (by decide) rfl⟩
theorem Zoc (dp:Nat){p:Prog}(hp:Md.Fine p)(hil:p.ins.length<=5)(hml:p.mems.length<1000)(hN:Z7 p.mems<=1000)(l:List Int)(kx:Nat->K)(P:Option DV->Prop)
  (hx:∀ T x y,ZT .bot T 8=.ref 1 0 0->ZT .bot T 9=.ref 2 0 0->ZT .bot T 10=.ref 3 0 0->ZT .bot T 11=.ref 4 0 0->Md.Inv (Z7 p.mems) p x->Md.Inv (Z7 p.mems) p y->P (Zk (kx 0 (mk .bot 64 T) [.cells ((ZZ p).map .d) 0 false,.cells [zi,zi,zi,zi,zn,zn,zi,zn,zn,zi] 0 false,.cells [zi,zi,zi,zi,zn,zn,zi,zn,zn,zi] 0 false,.cells ((QB x).map .d) 0 false,.cells ((QB y).map .d) 0 false]))):
  ∀(m k f:Nat) (x y:Conf),Md.Inv (Z7 p.mems) p x->Md.Inv (Z7 p.mems) p y->k+m=(l.take 40).length->m<=f->
  P (Zk (KX (Zq E 10) (Z4 E fn (dp+8)) (Zj 8 KX (Zq E 10) (Z4 E fn (dp+8)) kx (ZX 0 [.cell 8 true 10,.cell 9 true 10]) f) kx (ZX 0 [.cell 8 true 10,.cell 9 true 10]) (mk .bot 64 [(3,.d (rD l)),(4,.ref 0 0 0),(8,.ref 1 0 0),(9,.ref 2 0 0),(10,.ref 3 0 0),(11,.ref 4 0 0),(12,aI k)]) [.cells ((ZZ p).map .d) 0 false,.cells [zi,zi,zi,zi,zn,zn,zi,zn,zn,zi] 0 false,.cells [zi,zi,zi,zi,zn,zn,zi,zn,zn,zi] 0 false,.cells ((QB x).map .d) 0 false,.cells ((QB y).map .d) 0 false])):=by
 intro m
 have hlen:(l.take 40).length=min 40 l.length:=List.length_take
 induction m with
 | zero=>
  intro k f x y hIx hIy hk _
  generalize Zj 8 KX _ _ kx _ f=KK
  first | (conv=>lhs;rw[KX]) | rw[KX]
  by_cases hkl:(k:Int)<l.length
  ·have h60 : ¬ (k : Int) < 40 := by omega
   simp only[eG,go_sem,Z3 S,Z2 S,zN0,zN1,zN2,zN3,zN4,zI0,zI1,zI2,zI3,reduceCtorEq,HA S,hkl,h60]
   exact hx _ x y rfl rfl rfl rfl hIx hIy
  ·simp only [eG, go_sem, Z3 S, Z2 S, zN0, zN1, zN2, zN3, zN4, zI0, zI1, zI2, zI3, reduceCtorEq, HA S, hkl]
   exact hx _ x y rfl rfl rfl rfl hIx hIy
 | succ m ih=>
  intro k f x y hIx hIy hk hf
  obtain⟨v,hx0⟩:=YX (show k<(l.take 40).length by omega)
  obtain⟨hxk,h60,hkl⟩:=Zgt hx0
  have hkl':(k:Int)<l.length:=by omega
  have h60':(k:Int)<40:=by omega
  obtain⟨f,rfl⟩:∃ g,f=g+1:=⟨f-1,by omega⟩
  have cA:=fun(A:List Blk) (nb:Nat)=>Z6.deep (Zho S dp hp hil hml hN hIx hIy) (np S 20 (by decide)) A nb
  generalize hD:G9 (Z7 p.mems) p x y=d at cA
  generalize hK:Zj 8 KX _ _ kx _ (f+1)=KK
  first | (conv=>lhs;rw[KX]) | rw[KX]
  by_cases hd:d=[]
  ·subst hd
   simp only[Zw,ZZ,ZA,QB] at cA
   simp only[eG,go_sem,Z3 S,Z2 S,zN0,zN1,zN2,zN3,zN4,zI0,zI1,zI2,zI3,reduceCtorEq,HA S,hkl',h60',cA,List.length_nil]
   exact hx _ x y rfl rfl rfl rfl hIx hIy
  ·have hdl : d.length ≠ 0 := fun h => hd (List.length_eq_zero_iff.1 h)
   have hdl':¬(d.length:Int)=0:=by omega
   have hix:=Md.Z7h v (show 0<d.length by omega)
   obtain⟨dd,hdd⟩:=YX hix
   have hrem:Qz .rem (aI (Md.YS v 65535)) (aI d.length)=some (aI (Md.TA v d.length:Nat)):=by
    rw[<-Md.Zoy];exact Z34 _ _ _ hdl'
   have cS:=fun(A:List Blk) (nb:Nat)=>Z6.deep (Zhn S dp hp hml hN hIx hIy dd) (np S 23 (by decide)) A nb
   cases hok:Dz (Z7 p.mems) p x y dd with
   | false=>
    rw[hok,cond_false,cond_false] at cS
    generalize Dk (Z7 p.mems) p x y dd=sb at cS
    have next:=ih (k+1) f x y hIx hIy (by omega) (by omega)
    simp only[Zw,ZZ,ZA,QB] at cA cS
    simp only[eG,go_sem,Z3 S,Z2 S,zN0,zN1,zN2,zN3,zN4,zI0,zI1,zI2,zI3,reduceCtorEq,HA S,hkl',h60',cA,hdl',Zz hxk,QN,hrem,Zz hdd,cS,Bool.not_true,wi k (by omega),Q1,YZ,Q0,YY]
    rw[<-hK,Z8 (on S _ _ [3,4,8,9,10,11,12] (by decide) rfl) rfl _ _ _ _ _ _ _ _ _ rfl]
    simp only[eG,go_sem,Z3 S,Z2 S,zN0,zN1,zN2,zN3,zN4,zI0,zI1,zI2,zI3,reduceCtorEq,HA S]
    exact next
   | true=>
    have hc:Md.Qw (Z7 p.mems) p x dd=true:=by
     have:=hok;unfold Dz at this;simp only[Bool.and_eq_true] at this;exact this.2
    have hc2:Md.Qw (Z7 p.mems) p y dd=true:=by
     have:=hok;unfold Dz Dk at this;simp only[Bool.and_eq_true,beq_iff_eq] at this
     rw[<-this.1.1];exact hc
    have e1:QG (Z7 p.mems) p x dd=Md.say (Z7 p.mems) p x dd:=by unfold QG;rw[hc];rfl
    have e2:QG (Z7 p.mems) p y dd=Md.say (Z7 p.mems) p y dd:=by unfold QG;rw[hc2];rfl
    have hIx':=hIx.said hp dd hc
    have hIy':=hIy.said hp dd hc2
    rw[hok,cond_true,cond_true,e1,e2] at cS
    generalize Dk (Z7 p.mems) p x y dd=sb at cS
    generalize (Md.say (Z7 p.mems) p x dd).1=X at *
    generalize (Md.say (Z7 p.mems) p y dd).1=Y at *
    have next:=ih (k+1) f X Y hIx' hIy' (by omega) (by omega)
    simp only[Zw,ZZ,ZA,QB] at cA cS
    simp only[eG,go_sem,Z3 S,Z2 S,zN0,zN1,zN2,zN3,zN4,zI0,zI1,zI2,zI3,reduceCtorEq,HA S,hkl',h60',cA,hdl',Zz hxk,QN,hrem,Zz hdd,cS,Bool.not_true,wi k (by omega),Q1,YZ,Q0,YY]
    rw[<-hK,Z8 (on S _ _ [3,4,8,9,10,11,12] (by decide) rfl) rfl _ _ _ _ _ _ _ _ _ rfl]
    simp only[eG,go_sem,Z3 S,Z2 S,zN0,zN1,zN2,zN3,zN4,zI0,zI1,zI2,zI3,reduceCtorEq,HA S]
    exact next
theorem Zhp (dp:Nat){p:Prog}(hp:Md.Fine p)(hil:p.ins.length<=5)(hml:p.mems.length<1000)(hN:Z7 p.mems<=1000)(a b:State)(hIa:Md.Inv (Z7 p.mems) p (Md.KT a))(hIb:Md.Inv (Z7 p.mems) p (Md.KT b))(l:List Int):
  ∃ x y:Conf,Z6 E fn (dp+9) 10 [Zw p,B8 a,B8 b,rD l] (.tup [ZA x,ZA y])/\Md.Inv (Z7 p.mems) p x/\Md.Inv (Z7 p.mems) p y:=by
 obtain⟨P,hP⟩:∃ P:Option DV->Prop,P=fun r=>∃ x y:Conf,r=some (.tup [ZA x,ZA y])/\Md.Inv (Z7 p.mems) p x/\Md.Inv (Z7 p.mems) p y:=⟨_,rfl⟩
 have fin:∀(x y:Conf),Md.Inv (Z7 p.mems) p x->Md.Inv (Z7 p.mems) p y->P (some (.tup [ZA x,ZA y])):=fun x y h1 h2=>by rw[hP];exact⟨x,y,rfl,h1,h2⟩
 have key:P (Zk (Z4 E fn (dp+8+1) 10 [.d (Zw p),.d (B8 a),.d (B8 b),.d (rD l)] [])):=by
  clear hP
  rw[ZK,S.Z8i,ZM,Zds,ZP _ _ _ _ _ _ _ _ rfl]
  simp only[eG,go_sem,Z3 S,Z2 S,zN0,zN1,zN2,zN3,zN4,zI0,zI1,zI2,zI3,reduceCtorEq,HA S,Zry S]
  rw[Y9,Z8 (on S _ _ [3,4,8,9,10,11,12] (by decide) rfl) rfl _ _ _ _ _ _ _ _ _ rfl]
  simp only[eG,go_sem,Z3 S,Z2 S,zN0,zN1,zN2,zN3,zN4,zI0,zI1,zI2,zI3,reduceCtorEq,HA S]
  refine Zoc S dp hp hil hml hN l _ P ?_ (l.take 40).length 0 _ (Md.KT a) (Md.KT b) hIa hIb (by omega) (by rw[List.length_take];omega)
  intro T x y t8 t9 t10 t11 hIx hIy
  have fin:=fin x y hIx hIy
  simp only[ZA,QB] at fin
  simp only[eG,go_sem,Z3 S,Z2 S,zN0,zN1,zN2,zN3,zN4,zI0,zI1,zI2,zI3,reduceCtorEq,HA S,t8,t9,t10,t11,Q1,YZ,Q0,YY]
  exact fin
 rw[hP] at key
 obtain⟨x,y,h1,h2,h3⟩:=key
 exact⟨x,y,h1,h2,h3⟩
end
theorem Z4l (N:Int)(p:Prog)(a b:Conf)(d:Dir):Dk N p b a d=Dk N p a b d:=by
 unfold Dk
 rw[show(Md.Qw N p b d==Md.Qw N p a d)=(Md.Qw N p a d==Md.Qw N p b d) from Bool.beq_comm,decide_eq_decide.2 (show(QG N p b d).2=(QG N p a d).2↔(QG N p a d).2=(QG N p b d).2 from eq_comm)]
theorem Zma (N:Int)(p:Prog)(a b:Conf)(d:Dir):Dz N p b a d=Dz N p a b d:=by
 unfold Dz
 rw[Z4l]
 cases hs:Dk N p a b d with
 | false=>rfl
 | true=>
  unfold Dk at hs
  simp only[Bool.and_eq_true,beq_iff_eq] at hs
  rw[hs.1]
structure Sm (X:Conf):Prop where
 buf:X.buf.length<1000000
 mem:X.state.mem.length<1000000
 stk:X.state.stack.length<1000000
 rsb:X.rsb.length<1000000
variable {E:Env} {fn:FuncId->Option (Env->cT->cT)}
section
variable (S:Sur E fn)
include S
theorem Hv:E.lives 3 1=none/\E.lives 3 15=none/\E.lives 3 29=none/\E.lives 3 33=none:=⟨off S 3 1 (by decide) rfl,off S 3 15 (by decide) rfl,off S 3 29 (by decide) rfl,off S 3 33 (by decide) rfl⟩
theorem Zhs (dp:Nat){X Y:Conf}(hX:Sm X)(hY:Sm Y)(A:List Blk)(nb:Nat)(us:List Nat):ZH false E (Z4 E fn (dp+3)) 14 A nb (some ([ZA X,ZA Y],us))=some (.made (.d (vb (decide (GR X=GR Y)))) []):=by
 have h9:(GR X).length<1073741824:=by have:=Zp6 X;have:=hX.buf;have:=hX.mem;have:=hX.stk;have:=hX.rsb;omega
 exact Z6.flat (Zjc S dp X Y (by have:=hX.mem;omega) (by have:=hX.stk;omega) (by have:=hX.buf;omega) (by have:=hX.rsb;omega) (by have:=hY.mem;omega) (by have:=hY.stk;omega) (by have:=hY.buf;omega) (by have:=hY.rsb;omega) h9) (np S 14 (by decide)) rfl A nb us
theorem US (dp:Nat){X:Conf}(hX:Sm X)(A:List Blk)(nb:Nat)(us:List Nat):ZH false E (Z4 E fn (dp+3)) 14 A nb (some ([ZA X,ZA X],us))=some (.made (.d (vb true)) []):=by
 rw[Zhs S dp hX hX A nb us,decide_eq_true rfl]
theorem Zln (dp:Nat){p:Prog}(hp:Md.Fine p)(hml:p.mems.length<1000)(hN:Z7 p.mems<=1000){x y:Conf}(hIx:Md.Inv (Z7 p.mems) p x)(hIy:Md.Inv (Z7 p.mems) p y)(L:List Dir)(hLl:L.length<1000000)(kx:Nat->K)(D:Option (AV×List Blk))
  (hx:∀ T,kx 0 (mk .bot 122 T) [.cells ((ZZ p).map .d) 0 false,.cells ((QB x).map .d) 0 false,.cells ((QB y).map .d) 0 false]=D):
  ∀(m k f:Nat),k+m=L.length->m<=f->
  M3 (Zq E 3) (Z4 E fn (dp+12)) (Zj 18 M3 (Zq E 3) (Z4 E fn (dp+12)) kx (ZX 0 [.tmp 8]) f) kx (ZX 0 [.tmp 8]) (mk .bot 122 [(9,.ref 0 0 0),(12,.ref 1 0 0),(13,.ref 2 0 0),(53,.d (rD L)),(54,aI L.length),(55,aI k)]) [.cells ((ZZ p).map .d) 0 false,.cells ((QB x).map .d) 0 false,.cells ((QB y).map .d) 0 false]=D:=by
 intro m
 induction m with
 | zero=>
  intro k f hk _
  obtain rfl:k=L.length:=by omega
  generalize Zj 18 M3 _ _ kx _ f=KK
  first | (conv=>lhs;rw[M3]) | rw[M3]
  simp only[eG,go_sem,Z3 S,Z2 S,zN0,zN1,zN2,zN3,zN4,zI0,zI1,zI2,zI3,reduceCtorEq,Hv S,Int.lt_irrefl]
  exact hx _
 | succ m ih=>
  intro k f hk hf
  obtain⟨f,rfl⟩:∃ g,f=g+1:=⟨f-1,by omega⟩
  obtain⟨d,hd⟩:=YX (show k<L.length by omega)
  have hkl:(k:Int)<L.length:=by omega
  have s1:=fun(A:List Blk) (nb:Nat)=>Z6.deep (Z57 S dp p x y d hp hml hN hIx hIy) (np S 13 (by decide)) A nb
  have s2:=fun(A:List Blk) (nb:Nat)=>Z6.deep (Z57 S dp p y x d hp hml hN hIy hIx) (np S 13 (by decide)) A nb
  rw[Z4l,Zma] at s2
  obtain⟨x1,x2,x3,x4,_⟩:=R8 hp hN hIx d
  obtain⟨y1,y2,y3,y4,_⟩:=R8 hp hN hIy d
  have next:=ih (k+1) f (by omega) (by omega)
  generalize hK:Zj 18 M3 _ _ kx _ (f+1)=KK
  first | (conv=>lhs;rw[M3]) | rw[M3]
  cases hs:Dk (Z7 p.mems) p x y d with
  | false=>
   have hok:Dz (Z7 p.mems) p x y d=false:=by unfold Dz;rw[hs];rfl
   rw[hs,hok,cond_false,cond_false] at s1 s2
   have c0:=fun(A:List Blk) (nb:Nat) (us:List Nat)=>US S (dp+9) (X:=Md.QH) ⟨by decide,by decide,by decide,by decide⟩ A nb us
   simp only[Zw,ZZ,ZA,QB,WF,Md.QH,Xz] at s1 s2 c0
   simp only[eG,go_sem,Z3 S,Z2 S,zN0,zN1,zN2,zN3,zN4,zI0,zI1,zI2,zI3,reduceCtorEq,Hv S,hkl,Zz hd,s1,s2,c0,Bool.not_false,Bool.not_true,wi k (by omega),bne_self_eq_false]
   rw[<-hK,Z8 (on S _ _ [9,12,13,53,54,55] (by decide) rfl) rfl _ _ _ _ _ _ _ _ _ rfl]
   simp only[eG,go_sem,Z3 S,Z2 S,zN0,zN1,zN2,zN3,zN4,zI0,zI1,zI2,zI3,reduceCtorEq,Hv S]
   exact next
  | true=>
   cases hok:Dz (Z7 p.mems) p x y d with
   | false=>
    rw[hs,hok,cond_false,cond_false] at s1 s2
    have c0:=fun(A:List Blk) (nb:Nat) (us:List Nat)=>US S (dp+9) (X:=Md.QH) ⟨by decide,by decide,by decide,by decide⟩ A nb us
    simp only[Zw,ZZ,ZA,QB,WF,Md.QH,Xz] at s1 s2 c0
    simp only[eG,go_sem,Z3 S,Z2 S,zN0,zN1,zN2,zN3,zN4,zI0,zI1,zI2,zI3,reduceCtorEq,Hv S,hkl,Zz hd,s1,s2,c0,Bool.not_false,Bool.not_true,wi k (by omega),bne_self_eq_false]
    rw[<-hK,Z8 (on S _ _ [9,12,13,53,54,55] (by decide) rfl) rfl _ _ _ _ _ _ _ _ _ rfl]
    simp only[eG,go_sem,Z3 S,Z2 S,zN0,zN1,zN2,zN3,zN4,zI0,zI1,zI2,zI3,reduceCtorEq,Hv S]
    exact next
   | true=>
    rw[hs,hok,cond_true,cond_true] at s1 s2
    generalize (QG (Z7 p.mems) p x d).1=X at *
    generalize (QG (Z7 p.mems) p y d).1=Y at *
    have c1:=fun(A:List Blk) (nb:Nat) (us:List Nat)=>US S (dp+9) (X:=X) ⟨x1,x2,x3,x4⟩ A nb us
    have c2:=fun(A:List Blk) (nb:Nat) (us:List Nat)=>US S (dp+9) (X:=Y) ⟨y1,y2,y3,y4⟩ A nb us
    simp only[Zw,ZZ,ZA,QB,WF] at s1 s2 c1 c2
    simp only[eG,go_sem,Z3 S,Z2 S,zN0,zN1,zN2,zN3,zN4,zI0,zI1,zI2,zI3,reduceCtorEq,Hv S,hkl,Zz hd,s1,s2,c1,c2,Bool.not_false,Bool.not_true,wi k (by omega),bne_self_eq_false]
    rw[<-hK,Z8 (on S _ _ [9,12,13,53,54,55] (by decide) rfl) rfl _ _ _ _ _ _ _ _ _ rfl]
    simp only[eG,go_sem,Z3 S,Z2 S,zN0,zN1,zN2,zN3,zN4,zI0,zI1,zI2,zI3,reduceCtorEq,Hv S]
    exact next
theorem Zk8 (ha:E.prim 15=some NP)(hS:fn 31=some fun _ _ _ xs A=>GD 32 xs A)(dp:Nat)(m l w:List Int)(how:Int):Z4 E fn (dp+13) 3 [.d (rD m),.d (rD l),aI how,.d (rD w)] []=some (YD true,[]):=by
 have hp:=Znm m
 have hN:=Znn m
 have hml:=Znk m
 have hil:=Znu m
 obtain⟨s,s',hSt,o1,o2⟩:=Zhq S (dp+7) (Md.make m) (Znj m) hml l how
 obtain⟨x,y,hT,hIx,hIy⟩:=Zhp S (dp+3) hp hil hml hN s s' (o1.inv hp) (o2.inv hp) w
 have cS:=fun(A:List Blk) (nb:Nat)=>Z6.deep hSt (np S 9 (by decide)) A nb
 have cT:=fun(A:List Blk) (nb:Nat)=>Z6.deep hT (np S 10 (by decide)) A nb
 have cB:=fun(A:List Blk) (nb:Nat)=>Z4h S hS (dp+1) hp hil hml hN hIx hIy A nb
 have cB2:=fun(A:List Blk) (nb:Nat)=>Z4h S hS (dp+1) hp hil hml hN hIy hIx A nb
 have hLl:(G9 (Z7 (Md.make m).mems) (Md.make m) x y).length<1000000:=by
  have la:=Sz hp hil hIx
  have lb:=Sz hp hil hIy
  have:=Zr1 (JB (Md.all (Z7 (Md.make m).mems) (Md.make m) x++Md.all (Z7 (Md.make m).mems) (Md.make m) y))
  rw[SF,List.length_append] at this
  unfold G9
  omega
 rw[Zsj] at cB2
 generalize hLL:G9 (Z7 (Md.make m).mems) (Md.make m) x y=L at *
 have cD:=fun(A:List Blk) (nb:Nat) (us:List Nat)=>Z6.flat (Zjb S (dp+11) L L (by omega)) (np S 12 (by decide)) rfl A nb us
 simp only[Zw,ZZ,B8,H8,ZA,QB] at cS cT cB cB2
 have go:=fun(kx:Nat->K) (D:Option (AV×List Blk)) hx=>Zln S dp hp hml hN hIx hIy L hLl kx D hx L.length 0 999999999999999999999999999999 (by omega) (by omega)
 simp only[Int.cast_ofNat_Int] at go
 show Z4 E fn (dp+12+1) 3 [.d (rD m),.d (rD l),aI how,.d (rD w)] []=_
 rw[ZK,S.Z8j,ZM,Zdt,ZP _ _ _ _ _ _ _ _ rfl]
 simp only[eG,go_sem,Z3 S,Z2 S,zN0,zN1,zN2,zN3,zN4,zI0,zI1,zI2,zI3,reduceCtorEq,Hv S,Zrk S,cS,cT,cB,cB2,cD,Bool.not_true]
 rw[Y9,Z8 (on S _ _ [9,12,13,53,54,55] (by decide) rfl) rfl _ _ _ _ _ _ _ _ _ rfl]
 simp only[eG,go_sem,Z3 S,Z2 S,zN0,zN1,zN2,zN3,zN4,zI0,zI1,zI2,zI3,reduceCtorEq,Hv S]
 refine go _ _ ?_
 intro T
 simp only[eG,go_sem,Z3 S,Z2 S,zN0,zN1,zN2,zN3,zN4,zI0,zI1,zI2,zI3,reduceCtorEq,Hv S,Zrl ha]
end
end Go.Aug.Mc
