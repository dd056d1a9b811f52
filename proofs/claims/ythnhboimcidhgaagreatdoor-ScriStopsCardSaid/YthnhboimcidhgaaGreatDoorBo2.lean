import Derived.Test.YthnhboimcidhgaaGreatDoorMl4
import Derived.Test.YthnhboimcidhgaaGreatDoorMk
import Derived.Test.YthnhboimcidhgaaGreatDoorEvP
import Derived.Test.YthnhboimcidhgaaGreatDoorEvPc
import Derived.Test.YthnhboimcidhgaaGreatDoorMc10
namespace Go.Aug.Md
open Go Go.Aug
set_option linter.unusedSimpArgs false
set_option linter.unusedVariables false
section
variable {N:Int} {p:Prog} {c:Conf}
theorem say_obs (d:Dir)(hc:canSay N p c d=true):(say N p c d).2.length<=1:=by
 unfold canSay at hc
 unfold say
 split at hc
 ·rename_i h1;rw[if_pos h1];exact Nat.zero_le _
 rename_i h1;rw[if_neg h1]
 split at hc
 ·rename_i h2; rw [if_pos h2]
  have ho:openM p c d.n=true:=by
   simp only[can,Bool.and_eq_true] at hc;exact hc.1.1
  obtain⟨_,k,hk,hg⟩:=open_at ho
  have hlt:=(List.getElem?_eq_some_iff.1 hg).1
  rw[hk] at hc ⊢
  obtain⟨px,bx,ob,hR,_,_,f5,_⟩:=Zyx hlt hc
  rw[hR]
  exact f5
 rename_i h2;rw[if_neg h2]
 split at hc
 ·rename_i h3; rw [if_pos h3]
  have ho:openM p c d.n=true:=by
   simp only[canAddr,Bool.and_eq_true] at hc;exact hc.1.1.1.1
  obtain⟨_,k,hk,hg⟩:=open_at ho
  have hlt:=(List.getElem?_eq_some_iff.1 hg).1
  rw[hk] at hc ⊢
  obtain⟨px,bx,ob,hR,_,_,f5,_⟩:=Ztc (N:=N) hlt hc
  rw[hR]
  exact f5
 ·rename_i h3;rw[if_neg h3];exact Nat.zero_le _
end
end Go.Aug.Md
namespace Go.Aug.Mc
open Go Go.Aug
set_option linter.unusedSimpArgs false
set_option linter.unusedVariables false
set_option maxHeartbeats 40000000
set_option maxRecDepth 200000
def Zs2 (N:Int)(p:Prog)(a b:Conf)(d:Dir):Bool:=(Md.canSay N p a d==Md.canSay N p b d)&&decide ((Za5 N p a d).2=(Za5 N p b d).2)
theorem Y25 {E:Env}{fn:FuncId->Option (Env->cT->cT)}(S:Sur E fn)(dp:Nat){p:Prog}(hp:Md.Fine p)(hml:p.mems.length<1000)(hN:Z5 p.mems<=1000){c:Conf}(hI:Md.Inv (Z5 p.mems) p c)(d:Dir)(A:List Blk)(nb:Nat):
  Zb false E (evC E fn (dp+11)) 46 A nb (some ([Zn p,Zv c,.agg [vi d.kind,vi d.n]],[]))=some (.made (.d (.tup [Zv (Za5 (Z5 p.mems) p c d).1,rD (Za5 (Z5 p.mems) p c d).2,vb (Md.canSay (Z5 p.mems) p c d)])) []):=by
 obtain⟨q1,q2,q3,q4,q5,y1,y2,y3,y4,y5,y6⟩:=Z70 hp hI hN d
 exact Zk.deep (Znf S dp p c d q1 (by omega) (by omega) (by omega) (by omega) (by omega) y1 y4) (np S 46 (by decide)) A nb
variable {E:Env} {fn:FuncId->Option (Env->cT->cT)}
section
variable (S:Sur E fn)
include S
end
end Go.Aug.Mc
namespace Go.Aug
open Go
section
variable (E:Env) (call:cT) (kn:K) (kx:Nat->K) (kr k:K) (tm:List AV) (A A1:List Blk)
theorem Zby (l:List (Fl×Stp))(ps:List (Opd×Opd))(ls:List (Nat×Opd)):Zdy l ps ls E call kn kx kr tm A=Z37 E call ls 0 l (Ztp ps kn) tm A:=id rfl
theorem Zrr (ls:List (Nat×Opd))(n:Nat):Z37 E call ls n [] k tm A=k tm A:=id rfl
theorem Ziy (ls:List (Nat×Opd))(n:Nat)(fg:Fl)(d:Option Nat)(op:OpF)(l:List (Fl×Stp)):Z37 E call ls n ((fg,⟨d,none,op⟩)::l) k tm A=Z8y fg d (fun tm1 A1=>Z37 E call ls (n+1) l (Ztd ls n A A1 k) tm1 A1) tm A (op E call tm A A.length):=id rfl
theorem Ziv (ls:List (Nat×Opd))(n:Nat)(B:List Blk):Ztd ls n A A1 k tm B=bif (ls.all fun p=> !Nat.beq p.1 n || Zo2 A A1 (look tm p.2)) then k tm B else none:=id rfl
theorem Ziu (i v o:Nat):Zo2 A A1 (.ref i v o)=Zs2 A[i]? A1[i]? :=id rfl
end
theorem Z5z {α:Type}(f:α->α->Bool):Z17.sameL f [] []=true:=id rfl
theorem Z3e {α:Type}(f:α->α->Bool)(x y:α)(l m:List α):Z17.sameL f (x::l) (y::m)=(f x y&&Z17.sameL f l m):=id rfl
theorem Zfe {α:Type}{f:α->α->Bool}:∀ l:List α,(∀ x,x ∈ l->f x x=true)->Z17.sameL f l l=true
 | [],_=>rfl
 | x::l,h=>by
  rw[Z3e,h x List.mem_cons_self,Zfe l fun y hy=>h y (List.mem_cons_of_mem _ hy)];rfl
theorem Zrs (cs:List AV)(v:Nat)(r:Bool):Zs2 (some (.cells cs v r)) (some (.cells cs v r))=Z17.sameL (Z17 8) cs cs:=by
 show(Z17.sameL (Z17 8) cs cs&&Nat.beq v v&&(r==r))=_
 rw[Nat.beq_refl];simp
theorem Zix (n:Nat)(a:Int):Z17 (n+1) (.d (vi a)) (.d (vi a))=true:=by simp[Z17]
theorem Zog (n:Nat)(a:Bool):Z17 (n+1) (.d (vb a)) (.d (vb a))=true:=by simp[Z17]
theorem Zrq (n:Nat)(a:ByteArray):Z17 (n+1) (.d (vt a)) (.d (vt a))=true:=by simp[Z17]
class ClS (α:Type) [Cl α]:Prop where
 same:∀(n:Nat) (a:α),∀ c ∈ Cl.cells a,Z17 (n+1) (.d c) (.d c)=true
instance:ClS Int:=⟨fun n a c h=>(show c=vi a by simpa [Cl.cells] using h) ▸ Zix n a⟩
instance:ClS Ent:=⟨fun n a c h=>by simp only[Cl.cells,List.mem_cons,List.not_mem_nil,or_false] at h;rcases h with rfl | rfl | rfl | rfl | rfl | rfl | rfl | rfl<;>first | exact Zix n _ | exact Zog n _⟩
instance:ClS Obs:=⟨fun n a c h=>by simp only[Cl.cells,List.mem_cons,List.not_mem_nil,or_false] at h;rcases h with rfl | rfl<;>exact Zix n _⟩
instance:ClS Dir:=⟨fun n a c h=>by simp only[Cl.cells,List.mem_cons,List.not_mem_nil,or_false] at h;rcases h with rfl | rfl<;>exact Zix n _⟩
instance:ClS Ins:=⟨fun n a c h=>by simp only[Cl.cells,List.mem_cons,List.not_mem_nil,or_false] at h;rcases h with rfl | rfl | rfl | rfl | rfl | rfl | rfl | rfl | rfl<;>first | exact Zix n _ | exact Zog n _ | exact Zrq n _⟩
instance:ClS MemT:=⟨fun n a c h=>by simp only[Cl.cells,List.mem_cons,List.not_mem_nil,or_false] at h;rcases h with rfl | rfl | rfl<;>first | exact Zix n _ | exact Zog n _ | exact Zrq n _⟩
instance:ClS Label:=⟨fun n a c h=>by simp only[Cl.cells,List.mem_cons,List.not_mem_nil,or_false] at h;rcases h with rfl | rfl<;>first | exact Zix n _ | exact Zrq n _⟩
theorem Y40 {α:Type} [Cl α] [ClS α] (n:Nat)(l:List α):Z17 (n+2) (.d (rD l)) (.d (rD l))=true:=by
 show(Z17.sameL (fun x y=>Z17 (n+1) (.d x) (.d y)) (rC l) (rC l)&&Nat.beq l.length l.length)=true
 rw[Nat.beq_refl,Bool.and_true]
 refine Zfe _ fun x hx=> ?_
 obtain⟨a,_,ha⟩:=List.mem_flatMap.1 hx
 exact ClS.same n a x ha
theorem Zit {α:Type} [Cl α] [ClS α] (l:List α):Z17 8 (.d (rD l)) (.d (rD l))=true:=Y40 6 l
theorem Ziw (a:Int):Z17 8 (.d (vi a)) (.d (vi a))=true:=Zix 7 a
theorem Zbz (a:Bool):Z17 8 (.d (vb a)) (.d (vb a))=true:=Zog 7 a
end Go.Aug
namespace Go.Aug.Mc
open Go Go.Aug
open Nat renaming reduceLT -> zN0, reduceEqDiff -> zN1, reduceAdd -> zN2, reduceMul -> zN3, reduceLeDiff -> zN4
open Int renaming reduceEq -> zI0, reduceLT -> zI1, reduceLE -> zI2, reduceNeg -> zI3
set_option linter.unusedSimpArgs false
set_option linter.unusedVariables false
set_option maxHeartbeats 40000000
set_option maxRecDepth 200000
def Ziq (N:Int)(p:Prog):List Dir->Conf->Nat->Conf×List Obs×Nat
 | [],c,k=>(c,[],k)
 | d::l,c,k=>bif Md.canSay N p c d then((Ziq N p l (Md.say N p c d).1 (k+1)).1,(Md.say N p c d).2++(Ziq N p l (Md.say N p c d).1 (k+1)).2.1,(Ziq N p l (Md.say N p c d).1 (k+1)).2.2) else(c,[],k)
theorem Zuz (N:Int)(p:Prog)(c:Conf)(k:Nat):Ziq N p [] c k=(c,[],k):=rfl
theorem Z8h (N:Int)(p:Prog)(d:Dir)(l:List Dir)(c:Conf)(k:Nat):Ziq N p (d::l) c k=bif Md.canSay N p c d then((Ziq N p l (Md.say N p c d).1 (k+1)).1,(Md.say N p c d).2++(Ziq N p l (Md.say N p c d).1 (k+1)).2.1,(Ziq N p l (Md.say N p c d).1 (k+1)).2.2) else(c,[],k):=rfl
theorem Zwo {A:List Blk}{bytes j v:Nat}{out:List Obs}{x:Obs}(hA:A[j]? =some (.cells ((rC out).map .d) v false))(h1:(out.length+1)*bytes<=Zf)(h2:out.length+1<=Zf):
  Qs A 2 bytes (.sref j v 0 out.length 2 none) ((rC [x]).map .d) 1=some (.turn j (.cells ((rC (out++[x])).map .d) (v+1) false) (.sref j (v+1) 0 (out.length+1) 2 none)):=
 Z89 (x:=x) hA rfl (by decide) (by rw[Zja]) h1 h2
variable {E:Env} {fn:FuncId->Option (Env->cT->cT)}
section
variable (S:Sur E fn)
include S
theorem Z5d:E.lives 16 1=none/\E.lives 16 19=none:=⟨off S 16 1 (by decide) rfl,off S 16 19 (by decide) rfl⟩
theorem Zvq (dp:Nat)(p:Prog)(hp:Md.Fine p)(hml:p.mems.length<1000)(hN:Z5 p.mems<=1000)(l:List Dir)(hl:l.length<1000000)(kx:Nat->K)
  (hx:∀ T (c':Conf) (o':List Obs),Z01 .bot T 2=.d (rD l)->Z01 .bot T 4=.ref 1 0 0->Z01 .bot T 6=.ref 2 0 0->Z01 .bot T 9=Z3m 3 o'->Zh (kx 0 (mk .bot 46 T) ([.cells ((Yd p).map .d) 0 false,.cells ((Z22 c').map .d) 0 false,.cells [zi,zi,zi,zi,zn,zn,zi,zn,zn,zi] 0 false]++Z30 o'))=some (.tup [Zv c',rD o',vi l.length])):
  ∀(m k f:Nat) (c:Conf) (o:List Obs),Md.Inv (Z5 p.mems) p c->k+m=l.length->m<=f->o.length<=k->
  Zh (Qe (inn E 16) (evC E fn (dp+11)) (Zi 10 Qe (inn E 16) (evC E fn (dp+11)) kx (Z0u 0 [.cell 6 true 10,.tmp 7,.tmp 8]) f) kx (Z0u 0 [.cell 6 true 10,.tmp 7,.tmp 8]) (mk .bot 46 [(2,.d (rD l)),(3,.ref 0 0 0),(4,.ref 1 0 0),(6,.ref 2 0 0),(9,Z3m 3 o),(17,.d (rD l)),(18,aI l.length),(19,aI k)]) ([.cells ((Yd p).map .d) 0 false,.cells ((Z22 c).map .d) 0 false,.cells [zi,zi,zi,zi,zn,zn,zi,zn,zn,zi] 0 false]++Z30 o))=
  some (.tup [Zv (Ziq (Z5 p.mems) p (l.drop k) c k).1,rD (o++(Ziq (Z5 p.mems) p (l.drop k) c k).2.1),vi (Ziq (Z5 p.mems) p (l.drop k) c k).2.2]):=by
 intro m
 induction m with
 | zero=>
  intro k f c o _ hk _ _
  obtain rfl:k=l.length:=by omega
  rw[List.drop_length,Zuz,List.append_nil]
  generalize Zi 10 Qe _ _ kx _ f=KK
  first | (conv=>lhs;rw[Qe]) | rw[Qe]
  by_cases h0:o.length=0
  ·have : o = [] := List.length_eq_zero_iff.1 h0
   subst this
   simp only[eG,go_sem,thq S,nbr S,zN0,zN1,zN2,zN3,zN4,zI0,zI1,zI2,zI3,reduceCtorEq,Z5d S,Zz,Zy,Int.lt_irrefl]
   exact hx _ c [] rfl rfl rfl rfl
  ·rw [Za h0, Z9 h0]
   simp only[eG,go_sem,thq S,nbr S,zN0,zN1,zN2,zN3,zN4,zI0,zI1,zI2,zI3,reduceCtorEq,Z5d S,Int.lt_irrefl]
   have:=fun T z a b d=>hx T c o z a b (by rw[Za h0];exact d)
   rw[Z9 h0] at this
   exact this _ rfl rfl rfl rfl
 | succ m ih=>
  intro k f c o hI hk hf ho
  obtain⟨f,rfl⟩:∃ g,f=g+1:=⟨f-1,by omega⟩
  obtain⟨d,hd⟩:=Yz (show k<l.length by omega)
  have hkl:(k:Int)<l.length:=by omega
  have cS:=fun(A:List Blk) (nb:Nat)=>Y25 S dp hp hml hN hI d A nb
  rw[Z02 hd,Z8h]
  cases hc:Md.canSay (Z5 p.mems) p c d with
  | false=>
   have e1:Za5 (Z5 p.mems) p c d=(Md.conf0,[]):=by unfold Za5;rw[hc];rfl
   rw[hc,e1] at cS
   simp only[Zn,Yd,Zv,Z22,Zu1,cond_false] at cS
   rw[cond_false,List.append_nil]
   generalize Zi 10 Qe _ _ kx _ (f+1)=KK
   first | (conv=>lhs;rw[Qe]) | rw[Qe]
   by_cases h0:o.length=0
   ·have : o = [] := List.length_eq_zero_iff.1 h0
    subst this
    simp only[eG,go_sem,thq S,nbr S,zN0,zN1,zN2,zN3,zN4,zI0,zI1,zI2,zI3,reduceCtorEq,Z5d S,Zz,Zy,hkl,Q4 hd,cS,Bool.not_false,Bool.not_true]
    try rfl
   ·rw [Za h0, Z9 h0]
    have hne:o≠[]:=fun e=>h0 (by rw[e];rfl)
    have hd1:deep [.cells ((rC o).map .d) 0 false] 7 (.sref 0 0 0 o.length 2 none)=some (.lst (rC o) o.length none,[0]):=Y8 o hne _ rfl 5 2 none rfl
    simp only[eG,go_sem,thq S,nbr S,zN0,zN1,zN2,zN3,zN4,zI0,zI1,zI2,zI3,reduceCtorEq,Z5d S,hkl,Q4 hd,cS,Bool.not_false,Bool.not_true,hd1]
    try rfl
  | true=>
   have e1:Za5 (Z5 p.mems) p c d=Md.say (Z5 p.mems) p c d:=by unfold Za5;rw[hc];rfl
   have hobs:=Md.say_obs (N:=Z5 p.mems) (p:=p) (c:=c) d hc
   have hI':=hI.said hp d hc
   rw[hc,e1] at cS
   rw[cond_true]
   have next:=fun hh=>ih (k+1) f (Md.say (Z5 p.mems) p c d).1 (o++(Md.say (Z5 p.mems) p c d).2) hI' (by omega) (by omega) hh
   generalize Md.say (Z5 p.mems) p c d=X at *
   obtain⟨X,s⟩:=X
   simp only at hobs hI' next ⊢
   simp only[Zn,Yd,Zv,Z22,Zu1] at cS
   rw[<-List.append_assoc]
   generalize hK:Zi 10 Qe _ _ kx _ (f+1)=KK
   first | (conv=>lhs;rw[Qe]) | rw[Qe]
   have k1:(o.length+1)*16<=Zf:=by have:Zf=1099511627776:=rfl;omega
   have k2:o.length+1<=Zf:=by have:Zf=1099511627776:=rfl;omega
   match s,hobs with
   | [],_=>
    simp only[List.append_nil] at next ⊢
    have next:=next (by omega)
    by_cases h0:o.length=0
    ·have : o = [] := List.length_eq_zero_iff.1 h0
     subst this
     rw[Zz,Zy] at *
     simp only[eG,go_sem,thq S,nbr S,zN0,zN1,zN2,zN3,zN4,zI0,zI1,zI2,zI3,reduceCtorEq,Z5d S,hkl,Q4 hd,cS,Bool.not_true,Zby,Zrr,Ziy,Ziv,Ziu,Zrs,Z5z,Z3e,Zit,Ziw,Zbz,List.all_cons,List.all_nil,Nat.beq,Y6,Z09,Z0a,Z08,wi k (by omega)]
     rw[<-hK,Z1 (on S _ _ [2,3,4,6,9,17,18,19] (by decide) rfl) rfl _ _ _ _ _ _ _ _ _ rfl]
     simp only[eG,go_sem,thq S,nbr S,zN0,zN1,zN2,zN3,zN4,zI0,zI1,zI2,zI3,reduceCtorEq,Z5d S]
     exact next
    ·rw [Za h0, Z9 h0] at *
     simp only[eG,go_sem,thq S,nbr S,zN0,zN1,zN2,zN3,zN4,zI0,zI1,zI2,zI3,reduceCtorEq,Z5d S,hkl,Q4 hd,cS,Bool.not_true,Zby,Zrr,Ziy,Ziv,Ziu,Zrs,Z5z,Z3e,Zit,Ziw,Zbz,List.all_cons,List.all_nil,Nat.beq,Y6,Z09,Z0a,Z08,wi k (by omega)]
     rw[<-hK,Z1 (on S _ _ [2,3,4,6,9,17,18,19] (by decide) rfl) rfl _ _ _ _ _ _ _ _ _ rfl]
     simp only[eG,go_sem,thq S,nbr S,zN0,zN1,zN2,zN3,zN4,zI0,zI1,zI2,zI3,reduceCtorEq,Z5d S]
     exact next
   | [x],_=>
    have next:=next (by simp;omega)
    rw[Za (Z7a _ _),Z9 (Z7a _ _)] at next
    by_cases h0:o.length=0
    ·have : o = [] := List.length_eq_zero_iff.1 h0
     subst this
     rw[Zz,Zy]
     simp only[eG,go_sem,thq S,nbr S,zN0,zN1,zN2,zN3,zN4,zI0,zI1,zI2,zI3,reduceCtorEq,Z5d S,hkl,Q4 hd,cS,Bool.not_true,Zby,Zrr,Ziy,Ziv,Ziu,Zrs,Z5z,Z3e,Zit,Ziw,Zbz,List.all_cons,List.all_nil,Nat.beq,Y6,Z09,Z0a,Z08,wi k (by omega),Zj,Z7,Zl,nc2,l16,Zfo,l1n,Option.map_some,Nat.zero_add,Nat.one_mul,Nat.zero_mul,and_self,true_and,show(0:Nat)<1 by decide]
     rw[<-hK,Z1 (on S _ _ [2,3,4,6,9,17,18,19] (by decide) rfl) rfl _ _ _ _ _ _ _ _ _ rfl]
     simp only[eG,go_sem,thq S,nbr S,zN0,zN1,zN2,zN3,zN4,zI0,zI1,zI2,zI3,reduceCtorEq,Z5d S]
     exact next
    ·rw [Za h0, Z9 h0]
     simp only[eG,go_sem,thq S,nbr S,zN0,zN1,zN2,zN3,zN4,zI0,zI1,zI2,zI3,reduceCtorEq,Z5d S,hkl,Q4 hd,cS,Bool.not_true,Zby,Zrr,Ziy,Ziv,Ziu,Zrs,Z5z,Z3e,Zit,Ziw,Zbz,List.all_cons,List.all_nil,Nat.beq,Y6,Z09,Z0a,Z08,wi k (by omega),Zj,Z7,Zl,nc2,Zwo,k1,k2,Option.map_some]
     rw[<-hK,Z1 (on S _ _ [2,3,4,6,9,17,18,19] (by decide) rfl) rfl _ _ _ _ _ _ _ _ _ rfl]
     simp only[eG,go_sem,thq S,nbr S,zN0,zN1,zN2,zN3,zN4,zI0,zI1,zI2,zI3,reduceCtorEq,Z5d S]
     rw[List.length_append,List.length_singleton] at next
     exact next
end
variable {E:Env} {fn:FuncId->Option (Env->cT->cT)}
section
variable (S:Sur E fn)
include S
theorem Z4k:E.lives 74 1=none:=off S 74 1 (by decide) rfl
theorem Znx (dp:Nat)(p:Prog)(hl:p.mems.length<1073741824)(hr:∀ m ∈ p.mems,0<=m.n/\m.n<=16)(kx:Nat->K)(kr:K):∀ m k f,k+m=p.mems.length->m<=f->
  Z1m (inn E 74) (evC E fn dp) (Zi 8 Z1m (inn E 74) (evC E fn dp) kx kr f) kx kr (mk .bot 21 [(1,.ref 0 0 0),(3,aI (Z5 (p.mems.take k))),(4,aI k)]) [.cells ((Yd p).map .d) 0 false]=
  kx 0 (mk .bot 21 [(9,Q7 false),(8,aI p.mems.length),(7,.d (rD p.mems)),(6,.ref 0 0 7),(5,aI p.mems.length),(1,.ref 0 0 0),(3,aI (Z5 p.mems)),(4,aI p.mems.length)]) [.cells ((Yd p).map .d) 0 false]:=by
 intro m
 induction m with
 | zero=>
  intro k f hk _
  obtain rfl:k=p.mems.length:=by omega
  generalize Zi 8 Z1m _ _ kx kr f=KK
  rw[Z1m,List.take_of_length_le (by omega)]
  simp only[eG,go_sem,thq S,nbr S,zN0,zN1,zN2,zN3,zN4,zI0,zI1,zI2,zI3,reduceCtorEq,Z4k S,Int.lt_irrefl]
 | succ m ih=>
  intro k f hk hf
  obtain⟨e,he⟩:=Yz (show k<p.mems.length by omega)
  obtain⟨f,rfl⟩:∃ g,f=g+1:=⟨f-1,by omega⟩
  generalize hK:Zi 8 Z1m _ _ kx kr (f+1)=KK
  rw[Z1m]
  have hb:=Z34 (p.mems.take k)
  have hbl:(p.mems.take k).length<=p.mems.length:=by simp;omega
  have hen:=hr e (List.mem_of_getElem? he)
  have hw:IntKind.i64.wrap (Z5 (p.mems.take k)+e.n)=Z5 (p.mems.take (k+1)):=by
   rw[Z58 he,Int.max_eq_left hen.1,Int.min_eq_left hen.2]
   exact Zt (by omega) (by omega)
  simp only[eG,go_sem,thq S,nbr S,zN0,zN1,zN2,zN3,zN4,zI0,zI1,zI2,zI3,reduceCtorEq,Z4k S,show(k:Int)<p.mems.length by omega,Q4 he,wi k (by omega),hw]
  rw[<-hK,Z1 (on S _ _ [1,3,4] (by decide) rfl) rfl _ _ _ _ _ _ _ _ _ rfl]
  simp only[eG,go_sem,thq S,nbr S,zN0,zN1,zN2,zN3,zN4,zI0,zI1,zI2,zI3,reduceCtorEq,Z4k S]
  exact ih (k+1) f (by omega) (by omega)
theorem Zjo (dp:Nat)(p:Prog)(hl:p.mems.length<1073741824)(hr:∀ m ∈ p.mems,0<=m.n/\m.n<=16):Zk E fn (dp+1) 74 [Zn p] (vi (Z5 p.mems)):=by
 unfold Zk
 show Zh (evC E fn (dp+1) 74 [.d (Zn p)] [])=_
 rw[Z2,S.Zg4,Z3,Zgx,Z6 _ _ _ _ _ _ _ _ rfl]
 simp only[eG,go_sem,thq S,nbr S,zN0,zN1,zN2,zN3,zN4,zI0,zI1,zI2,zI3,reduceCtorEq,Z4k S]
 rw[Y2,Z1 (on S _ _ [1,3,4] (by decide) rfl) rfl _ _ _ _ _ _ _ _ _ rfl]
 simp only[eG,go_sem,thq S,nbr S,zN0,zN1,zN2,zN3,zN4,zI0,zI1,zI2,zI3,reduceCtorEq,Z4k S]
 have:=fun kx kr=>Znx S dp p hl hr kx kr p.mems.length 0 999999999999999999999999999999 (by omega) (by omega)
 simp only[go_sem,List.take_zero,Int.cast_ofNat_Int,show Z5 ([]:List MemT)=0 from rfl] at this
 rw[this]
 simp only[eG,go_sem,thq S,nbr S,zN0,zN1,zN2,zN3,zN4,zI0,zI1,zI2,zI3,reduceCtorEq,Z4k S]
end
end Go.Aug.Mc
