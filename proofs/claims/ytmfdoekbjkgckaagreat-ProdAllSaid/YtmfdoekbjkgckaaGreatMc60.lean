import Derived.Test.YtmfdoekbjkgckaaGreatMc9
import Derived.Test.YtmfdoekbjkgckaaGreatMc33
import Derived.Test.YtmfdoekbjkgckaaGreatMc12
import Derived.Test.YtmfdoekbjkgckaaGreatMc53
import Derived.Test.YtmfdoekbjkgckaaGreatMc19
import Derived.Test.YtmfdoekbjkgckaaGreatMl
import Derived.Test.YtmfdoekbjkgckaaGreatMc3
import Derived.Test.YtmfdoekbjkgckaaGreatMc36
namespace Go.Aug.Mc
open Go Go.Aug
set_option linter.unusedSimpArgs false
set_option linter.unusedVariables false
set_option maxHeartbeats 40000000
variable {E:Env} {fn:FuncId->Option (Env->cT->cT)}
section
variable (S:Sur E fn)
include S
end
set_option maxRecDepth 200000
section
variable (S:Sur E fn)
include S
end
section
variable (S:Sur E fn)
include S
end
section
variable (S:Sur E fn)
include S
end
open Nat renaming reduceLT -> zN0, reduceEqDiff -> zN1, reduceAdd -> zN2, reduceMul -> zN3, reduceLeDiff -> zN4
open Int renaming reduceEq -> zI0, reduceLT -> zI1, reduceLE -> zI2, reduceNeg -> zI3
theorem PK (k:K)(tm:List AV)(A:List Blk):GZ [] k tm A=k tm A:=id rfl
theorem Z2n (a b:Obs):(decide (a.kind=b.kind)&&decide (a.at_=b.at_))=decide (a=b):=by
 cases a;cases b
 rw[Bool.eq_iff_iff]
 simp only[Bool.and_eq_true,decide_eq_true_eq,Obs.mk.injEq]
theorem NX (a b:Dir):(decide (a.kind=b.kind)&&decide (a.n=b.n))=decide (a=b):=by
 cases a;cases b
 rw[Bool.eq_iff_iff]
 simp only[Bool.and_eq_true,decide_eq_true_eq,Dir.mk.injEq]
variable {E:Env} {fn:FuncId->Option (Env->cT->cT)}
section
variable (S:Sur E fn)
include S
theorem KM:E.lives 50 1=none/\E.lives 50 7=none/\E.lives 50 17=none:=⟨off S 50 1 (by decide) rfl,off S 50 7 (by decide) rfl,off S 50 17 (by decide) rfl⟩
theorem Ziz (dp:Nat)(a b:List Obs)(hl:a.length<1073741824)(hab:a.length=b.length)(kx:Nat->K)(hx:∀ T,Zw (kx 0 (mk .bot 26 T) [])=some (vb true)):∀ m k f,k+m=a.length->m<=f->
  Zw (NQ (Zq E 50) (Z5 E fn dp) (Z9 10 NQ (Zq E 50) (Z5 E fn dp) kx (Y0 0 [.tmp 4]) f) kx (Y0 0 [.tmp 4]) (mk .bot 26 [(0,.d (rD a)),(1,.d (rD b)),(5,aI k)]) [])=
  some (vb (decide (a.drop k=b.drop k))):=by
 intro m
 induction m with
 | zero=>
  intro k f hk _
  obtain rfl:k=a.length:=by omega
  generalize Z9 10 NQ _ _ kx _ f=KK
  rw[NQ,show a.drop a.length=[] from List.drop_length,show b.drop a.length=[] by rw[hab];exact List.drop_length]
  simp only[eG,go_sem,Z2 S,Z1 S,zN0,zN1,zN2,zN3,zN4,zI0,zI1,zI2,zI3,reduceCtorEq,KM S,Int.lt_irrefl]
  exact hx _
 | succ m ih=>
  intro k f hk hf
  obtain⟨e,he⟩:=QB (show k<a.length by omega)
  obtain⟨e',he'⟩:=QB (show k<b.length by omega)
  obtain⟨f,rfl⟩:∃ g,f=g+1:=⟨f-1,by omega⟩
  generalize hK:Z9 10 NQ _ _ kx _ (f+1)=KK
  rw[NQ,BK he,BK he']
  by_cases h:e=e'
  ·subst h
   simp only[eG,go_sem,Z2 S,Z1 S,zN0,zN1,zN2,zN3,zN4,zI0,zI1,zI2,zI3,reduceCtorEq,KM S,show(k:Int)<a.length by omega,Zv he,Zv he',wi k (by omega),PK,Z2n]
   rw[<-hK,Z7 (on S _ _ [0,1,5] (by decide) rfl) rfl _ _ _ _ _ _ _ _ _ rfl]
   simp only[eG,go_sem,Z2 S,Z1 S,zN0,zN1,zN2,zN3,zN4,zI0,zI1,zI2,zI3,reduceCtorEq,KM S]
   have:=ih (k+1) f (by omega) (by omega)
   simp only[List.cons.injEq,true_and]
   exact this
  ·simp only [eG, go_sem, Z2 S, Z1 S, zN0, zN1, zN2, zN3, zN4, zI0, zI1, zI2, zI3, reduceCtorEq, KM S, show (k : Int) < a.length by omega, Zv he, Zv he', wi k (by omega), PK, Z2n, eq_false h]
   simp[h]
theorem Zf5 (dp:Nat)(a b:List Obs)(hl:a.length<1073741824):Z6 E fn (dp+1) 50 [rD a,rD b] (vb (decide (a=b))):=by
 unfold Z6
 show Zw (Z5 E fn (dp+1) 50 [.d (rD a),.d (rD b)] [])=_
 rw[ZU,S.Z77,ZW,Zbf,ZY _ _ _ _ _ _ _ _ rfl]
 by_cases hab:a.length=b.length
 ·simp only [eG, go_sem, Z2 S, Z1 S, zN0, zN1, zN2, zN3, zN4, zI0, zI1, zI2, zI3, reduceCtorEq, KM S, hab, not_true_eq_false]
  rw[Y2,Z7 (on S _ _ [0,1,5] (by decide) rfl) rfl _ _ _ _ _ _ _ _ _ rfl]
  simp only[eG,go_sem,Z2 S,Z1 S,zN0,zN1,zN2,zN3,zN4,zI0,zI1,zI2,zI3,reduceCtorEq,KM S]
  refine Ziz S dp a b hl hab _ ?_ a.length 0 _ (by omega) (by omega)
  intro T
  simp only[eG,go_sem,Z2 S,Z1 S,zN0,zN1,zN2,zN3,zN4,zI0,zI1,zI2,zI3,reduceCtorEq,KM S]
 ·have hne : ¬ a = b := fun e => hab (by rw [e])
  simp only[eG,go_sem,Z2 S,Z1 S,zN0,zN1,zN2,zN3,zN4,zI0,zI1,zI2,zI3,reduceCtorEq,KM S,show ¬((a.length:Int)=b.length) by omega,not_false_eq_true,eq_false hne]
end
end Go.Aug.Mc
namespace Go.Aug.Md
open Go Go.Aug
set_option linter.unusedSimpArgs false
set_option linter.unusedVariables false
def Kept (c:Conf)(k:Nat)(R:Conf×List Obs):Prop:=
 ∃(px:Int) (bx:List Ent) (o:List Obs),R=(⟨⟨c.state.regs,c.state.mem,c.state.stack,px⟩,bx,c.rsb,0⟩,o)/\k<bx.length/\bx.length<=c.buf.length/\o.length<=1/\bx.take k=c.buf.take k/\
  (bx.length=c.buf.length->k+1<c.buf.length->px=c.state.pc)/\(bx.length<c.buf.length->k+1<bx.length->∃ e,c.buf[bx.length]? =some e/\px=e.pc)
section
variable {N:Int} {p:Prog} {c:Conf} {k:Nat}
theorem VZ {l:List Ent}{k:Nat}{e:Ent}:(l.set k e).take k=l.take k:=List.take_set_of_le (Nat.le_refl _)
theorem GJ (hend:c.end_=0)(hk:k<c.buf.length)(e:Ent)(o:List Obs)(ho:o.length<=1):Kept c k (put c (k:Int) e,o):=by
 refine⟨c.state.pc,c.buf.set k e,o,?_,by simpa using hk,by simp,ho,VZ,fun _ _=>rfl,fun h=>by simp at h⟩
 unfold put
 rw[Int.toNat_natCast,<-hend]
theorem XE (hend:c.end_=0)(hk:k<c.buf.length)(e:Ent)(to:Int):Kept c k (BW c (k:Int) e to):=by
 unfold BW
 split
 ·exact GJ hend hk _ _ (by simp)
 ·refine ⟨to, (c.buf.set k { e with done := true, next := to }).take (k + 1), [⟨3, to⟩], ?_, by rw [List.length_take, List.length_set]; omega, by rw [List.length_take, List.length_set]; omega, Nat.le_refl 1, ?_, fun h1 h2 => ?_, fun h1 h2 => ?_⟩
  ·rw[Int.toNat_natCast,<-hend]
  ·rw[List.take_take,Nat.min_eq_left (by omega)];exact VZ
  ·rw[List.length_take,List.length_set] at h1;omega
  ·rw[List.length_take,List.length_set] at h2;omega
theorem Zjh (hk:k<c.buf.length)(hc:can N p c (k:Int)=true):Kept c k (A9 N p c (k:Int)):=by
 have hend:c.end_=0:=by
  simp only[can,Bool.and_eq_true] at hc
  exact(Gq hc.1.1).1
 unfold A9
 generalize ZT c.buf (k:Int)=e
 generalize Qk p c (k:Int)=x
 unfold Bz
 split
 ·exact GJ hend hk _ _ (by simp)
 split
 ·exact GJ hend hk _ _ (by simp)
 split
 ·exact GJ hend hk _ _ (by simp)
 split
 ·split
  ·exact GJ hend hk _ _ (by simp)
  ·exact GJ hend hk _ _ (by simp)
 split
 ·exact XE hend hk _ _
 split
 ·exact XE hend hk _ _
 split
 ·split
  ·exact GJ hend hk _ _ (by simp)
  ·split
   ·exact GJ hend hk _ _ (by simp)
   ·exact XE hend hk _ _
 ·exact GJ hend hk _ _ (by simp)
theorem Zji (hk:k<c.buf.length)(hc:YU p c (k:Int)=true):Kept c k (K4 N p c (k:Int)):=by
 have hend:c.end_=0:=by
  simp only[YU,Bool.and_eq_true] at hc
  exact(Gq hc.1.1.1.1).1
 unfold K4
 generalize ZT c.buf (k:Int)=e
 generalize JR p c (k:Int)=ad
 unfold R1
 split
 ·exact GJ hend hk _ _ (by simp)
 ·rw [Int.toNat_natCast]
  generalize hL:c.buf.set k { e with addr:=ad,known:=true,fault:=false }=L
  have hLl:L.length=c.buf.length:=by rw[<-hL];exact List.length_set
  have hLt:L.take k=c.buf.take k:=by rw[<-hL];exact VZ
  unfold PG
  cases hz:(A6 p L (k:Int) ad).2 with
  | false=>
   refine⟨c.state.pc,L,[⟨2,ad⟩],?_,by omega,by omega,Nat.le_refl 1,hLt,fun _ _=>rfl,fun h=>by omega⟩
   simp only[cond_false]
   rw[<-hend]
  | true=>
   obtain⟨z1,z2⟩:=Z5k hz (by omega) (by omega)
   simp only[cond_true]
   generalize (A6 p L (k:Int) ad).1=z at *
   obtain⟨e2,he2⟩:∃ e,L[z.toNat]? =some e:=⟨_,List.getElem?_eq_getElem (by omega)⟩
   have he3:ZT L z=e2:=by unfold ZT;rw[he2];rfl
   have he4:c.buf[z.toNat]? =some e2:=by
    rw[<-hL,List.getElem?_set_ne (by omega)] at he2;exact he2
   have hlen:(L.take z.toNat).length=z.toNat:=by rw[List.length_take];omega
   refine⟨e2.pc,L.take z.toNat,[⟨2,ad⟩],?_,by omega,by omega,Nat.le_refl 1,?_,fun h1 h2=>by omega,fun h1 h2=>⟨e2,by rw[hlen];exact he4,rfl⟩⟩
   ·rw[he3,<-hend]
   ·rw[List.take_take,Nat.min_eq_left (by omega)];exact hLt
end
end Go.Aug.Md
namespace Go.Aug.Md
open Go Go.Aug
set_option linter.unusedSimpArgs false
set_option linter.unusedVariables false
section
variable {N:Int} {p:Prog} {c:Conf}
theorem Z0c (l:List Ent):cut l 0=[]:=rfl
theorem Z9r (p:Prog)(of:Regs)(l:List Ent){r:Int}(h0:0<=r)(h1:r<=3):(reg p of l 0 r).2=true:=by
 unfold reg
 rw[if_neg (by omega),Z0c];rfl
theorem Z9q (p:Prog)(of:Regs)(l:List Ent)(v:Val)(h:v.reg=true->0<=v.n/\v.n<=3):(val p of l 0 v).2=true:=by
 unfold val
 cases hv:v.reg with
 | false=>rfl
 | true=>exact Z9r p of l (h hv).1 (h hv).2
theorem Zn9 (p:Prog)(mem:List Int)(l:List Ent)(addr:Int):(load p mem l 0 addr).2.2=true:=by
 unfold load
 rw[Z0c]
 show(QK p mem addr []).2.2=true
 unfold QK
 split<;>rfl
theorem Z86 (he:c.end_≠0):all N p c=[]:=by
 have h0:∀ d,Jx N p c d=false:=by
  intro d
  have hb:(c.end_==0)=false:=by simpa using he
  have hg:YE p c=0:=by unfold YE;rw[if_pos (.inl he)]
  have ho:∀ i,QX p c i=false:=fun i=>by unfold QX;rw[hb];rfl
  unfold Jx DM can YU YM
  rw[hg,ho,hb]
  split
  ·rw [Bool.and_eq_false_iff]
   by_cases h:0<=d.n
   ·exact .inr (decide_eq_false (by omega))
   ·exact .inl (decide_eq_false h)
  split
  ·rfl
  split
  ·rfl
  ·simp
 cases h:all N p c with
 | nil=>rfl
 | cons d l=>
  have:=(X9 (N:=N) (p:=p) (c:=c) d).1 (by rw[h];exact List.mem_cons_self)
  rw[h0 d] at this;cases this
theorem Za1 (hp:Fine p)(h:Inv N p c)(he:c.end_=0):all N p c≠[]:=by
 have key:∃ d,Jx N p c d=true:=by
  have hw:=hp.win
  cases hb:c.buf with
  | nil=>
   have hpc:c.state.pc≠ -1:=fun hpc=>by
    obtain⟨l,e,h1,_⟩:=h.last he hpc
    rw[hb] at h1
    have:=congrArg List.length h1
    simp at this
   have hlen:¬(c.buf.length:Int)>=p.window:=by rw[hb];simp;omega
   have hg:0<YE p c:=by
    unfold YE
    rw[if_neg (by simp only[not_or];exact⟨by omega,hpc,hlen⟩)]
    split
    ·decide
    split
    ·omega
    ·decide
   exact⟨⟨1,0⟩,by simp[Jx,DM,hg]⟩
  | cons e l=>
   have he0:ZT c.buf 0=e:=by rw[hb];rfl
   have hE:=h.ent 0 e (by rw[hb];rfl)
   have hfa:=hp.at_ e.pc
   have ho:QX p c 0=true:=by
    unfold QX K0
    rw[he,Z0c,hb]
    simp
   have hx:Qk p c 0=at_ p e.pc:=by unfold Qk;rw[he0]
   by_cases hr:YM p c=true
   ·exact⟨⟨4,0⟩,by simp[Jx,hr]⟩
   ·have hA : (Y7 p c 0 (at_ p e.pc).a).2 = true := Z9q _ _ _ _ hfa.2.2.2.2.2.2.1
    have hB:(Y7 p c 0 (at_ p e.pc).b).2=true:=Z9q _ _ _ _ hfa.2.2.2.2.2.2.2
    have hD:(AH p c 0 (at_ p e.pc).d).2=true:=Z9r _ _ _ hfa.2.2.1 hfa.2.2.2.1
    have hL:∀ ad,(D2 p c 0 ad).2.2=true:=fun ad=>Zn9 _ _ _ ad
    cases hd:e.done with
    | false=>
     have k10:(at_ p e.pc).kind≠10:=fun k10=>by
      apply hr
      simp[YM,he,hb,ZT,k10]
     have nd:¬((at_ p e.pc).kind=6∨(at_ p e.pc).kind=8∨(at_ p e.pc).kind=11∨(at_ p e.pc).kind=12):=fun hk=>by
      have:=hE.dn hk
      rw[hd] at this;cases this
     refine⟨⟨2,0⟩,?_⟩
     show can N p c 0=true
     unfold can
     rw[ho,he0,hd,hx]
     simp only[Bool.not_false,Bool.true_and]
     unfold ready
     rw[hA,hB,hD,hL]
     split
     ·rfl
     split
     ·rfl
     split
     ·simp
     split
     ·rfl
     split
     ·rfl
     ·exact decide_eq_true (by omega)
    | true=>
     have k3:(at_ p e.pc).kind=3/\e.known=false:=by
      refine⟨Decidable.byContradiction fun k3=>hr ?_,?_⟩
      ·simp[YM,he,hb,ZT,hd,k3]
      ·cases hk : e.known with
       | false=>rfl
       | true=>exact absurd (by simp[YM,he,hb,ZT,hd,hk]) hr
     refine⟨⟨3,0⟩,?_⟩
     show YU p c 0=true
     unfold YU
     rw[ho,he0,hx,hA,hB,k3.1,k3.2]
     rfl
 obtain⟨d,hd⟩:=key
 intro h0
 have:=(X9 (N:=N) (p:=p) (c:=c) d).2 hd
 rw[h0] at this
 cases this
theorem Zdk (d:Dir)(hc:Jx N p c d=true):(say N p c d).2.length<=1:=by
 unfold Jx at hc
 unfold say
 split at hc
 ·rename_i h1;rw[if_pos h1];exact Nat.zero_le _
 rename_i h1;rw[if_neg h1]
 split at hc
 ·rename_i h2; rw [if_pos h2]
  have ho:QX p c d.n=true:=by
   simp only[can,Bool.and_eq_true] at hc;exact hc.1.1
  obtain⟨_,k,hk,hg⟩:=Gq ho
  have hlt:=(List.getElem?_eq_some_iff.1 hg).1
  rw[hk] at hc ⊢
  obtain⟨px,bx,ob,hR,_,_,f5,_⟩:=Zjh hlt hc
  rw[hR]
  exact f5
 rename_i h2;rw[if_neg h2]
 split at hc
 ·rename_i h3; rw [if_pos h3]
  have ho:QX p c d.n=true:=by
   simp only[YU,Bool.and_eq_true] at hc;exact hc.1.1.1.1
  obtain⟨_,k,hk,hg⟩:=Gq ho
  have hlt:=(List.getElem?_eq_some_iff.1 hg).1
  rw[hk] at hc ⊢
  obtain⟨px,bx,ob,hR,_,_,f5,_⟩:=Zji (N:=N) hlt hc
  rw[hR]
  exact f5
 ·rename_i h3;rw[if_neg h3];exact Nat.zero_le _
end
end Go.Aug.Md
namespace Go.Aug.Mc
open Go Go.Aug
set_option linter.unusedSimpArgs false
set_option linter.unusedVariables false
set_option maxHeartbeats 40000000
set_option maxRecDepth 200000
def Hv (N:Int)(p:Prog)(a b:Conf)(d:Dir):Bool:=(Md.Jx N p a d==Md.Jx N p b d)&&decide ((JK N p a d).2=(JK N p b d).2)
def MW (N:Int)(p:Prog)(a b:Conf)(d:Dir):Bool:=Hv N p a b d&&Md.Jx N p a d
theorem Z2k {p:Prog}(hp:Md.Fine p){N:Int}(hN:N<=1000){c:Conf}(hI:Md.Inv N p c)(d:Dir):
  (JK N p c d).1.buf.length<1000000/\(JK N p c d).1.state.mem.length<1000000/\(JK N p c d).1.state.stack.length<1000000/\(JK N p c d).1.rsb.length<1000000/\(JK N p c d).2.length<=1:=by
 unfold JK
 cases hc:Md.Jx N p c d with
 | false=>exact⟨(by show(0:Nat)<1000000;decide),(by show(0:Nat)<1000000;decide),(by show(0:Nat)<1000000;decide),(by show(0:Nat)<1000000;decide),(by show(0:Nat)<=1;decide)⟩
 | true=>
  obtain⟨_,q2,q3,q4,q5,_⟩:=Nj hp (hI.said hp d hc) hN ⟨0,0⟩
  exact⟨q2,q3,q4,q5,Md.Zdk d hc⟩
variable {E:Env} {fn:FuncId->Option (Env->cT->cT)}
section
variable (S:Sur E fn)
include S
end
end Go.Aug.Mc
