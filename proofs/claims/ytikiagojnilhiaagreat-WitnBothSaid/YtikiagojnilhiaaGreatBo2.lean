import Derived.Test.YtikiagojnilhiaaGreatMl4
import Derived.Test.YtikiagojnilhiaaGreatMk
import Derived.Test.YtikiagojnilhiaaGreatMc12
namespace Go.Aug.Md
open Go Go.Aug
set_option linter.unusedSimpArgs false
set_option linter.unusedVariables false
section
variable {N:Int} {p:Prog} {c:Conf}
theorem say_obs (d:Dir)(hc:canSay N p c d=true):(say N p c d).2.length<=1:=by
 unfold canSay at hc
 unfold say
 split at hc
 ·rename_i h1;rw[if_pos h1];exact Nat.zero_le _
 rename_i h1;rw[if_neg h1]
 split at hc
 ·rename_i h2; rw [if_pos h2]
  have ho:openM p c d.n=true:=by
   simp only[can,Bool.and_eq_true] at hc;exact hc.1.1
  obtain⟨_,k,hk,hg⟩:=open_at ho
  have hlt:=(List.getElem?_eq_some_iff.1 hg).1
  rw[hk] at hc ⊢
  obtain⟨px,bx,ob,hR,_,_,f5,_⟩:=kept_do hlt hc
  rw[hR]
  exact f5
 rename_i h2;rw[if_neg h2]
 split at hc
 ·rename_i h3; rw [if_pos h3]
  have ho:openM p c d.n=true:=by
   simp only[canAddr,Bool.and_eq_true] at hc;exact hc.1.1.1.1
  obtain⟨_,k,hk,hg⟩:=open_at ho
  have hlt:=(List.getElem?_eq_some_iff.1 hg).1
  rw[hk] at hc ⊢
  obtain⟨px,bx,ob,hR,_,_,f5,_⟩:=kept_addr (N:=N) hlt hc
  rw[hR]
  exact f5
 ·rename_i h3;rw[if_neg h3];exact Nat.zero_le _
end
end Go.Aug.Md
namespace Go.Aug.Mc
open Go Go.Aug
open Nat renaming reduceLT -> zN0, reduceEqDiff -> zN1, reduceAdd -> zN2, reduceMul -> zN3, reduceLeDiff -> zN4
open Int renaming reduceEq -> zI0, reduceLT -> zI1, reduceLE -> zI2, reduceNeg -> zI3
set_option linter.unusedSimpArgs false
set_option linter.unusedVariables false
set_option maxHeartbeats 40000000
set_option maxRecDepth 200000
def sameB (N:Int)(p:Prog)(a b:Conf)(d:Dir):Bool:=(Md.canSay N p a d==Md.canSay N p b d)&&decide ((sayC N p a d).2=(sayC N p b d).2)
def okB (N:Int)(p:Prog)(a b:Conf)(d:Dir):Bool:=sameB N p a b d&&Md.canSay N p a d
theorem say_small {p:Prog}(hp:Md.Fine p){N:Int}(hN:N<=1000){c:Conf}(hI:Md.Inv N p c)(d:Dir):
  (sayC N p c d).1.buf.length<1000000/\(sayC N p c d).1.state.mem.length<1000000/\(sayC N p c d).1.state.stack.length<1000000/\(sayC N p c d).1.rsb.length<1000000/\(sayC N p c d).2.length<=1:=by
 unfold sayC
 cases hc:Md.canSay N p c d with
 | false=>exact⟨(by show(0:Nat)<1000000;decide),(by show(0:Nat)<1000000;decide),(by show(0:Nat)<1000000;decide),(by show(0:Nat)<1000000;decide),(by show(0:Nat)<=1;decide)⟩
 | true=>
  obtain⟨_,q2,q3,q4,q5,_⟩:=inv_hyps hp (hI.said hp d hc) hN ⟨0,0⟩
  exact⟨q2,q3,q4,q5,Md.say_obs d hc⟩
theorem do_any {E:Env}{fn:FuncId->Option (Env->CallT->CallT)}(S:Sur E fn)(dp:Nat){p:Prog}(hp:Md.Fine p)(hml:p.mems.length<1000)(hN:cellsI p.mems<=1000){c:Conf}(hI:Md.Inv (cellsI p.mems) p c)(d:Dir)(A:List Blk)(nb:Nat):
  evOwnK false E (evC E fn (dp+11)) 13 A nb (some ([progD p,confD c,.agg [vi d.kind,vi d.n]],[]))=some (.made (.d (.tup [confD (sayC (cellsI p.mems) p c d).1,rowD (sayC (cellsI p.mems) p c d).2,vb (Md.canSay (cellsI p.mems) p c d)])) []):=by
 obtain⟨q1,q2,q3,q4,q5,y1,y2,y3,y4,y5,y6⟩:=inv_hyps hp hI hN d
 exact Says.deep (raw_dirs_Do S dp p c d q1 (by omega) (by omega) (by omega) (by omega) (by omega) y1 y4) (np S 13 (by decide)) A nb
variable {E:Env} {fn:FuncId->Option (Env->CallT->CallT)}
section
variable (S:Sur E fn)
include S
theorem o97_60:E.lives 97 1=none/\E.lives 97 7=none/\E.lives 97 17=none:=⟨off S 97 1 (by decide) rfl,off S 97 7 (by decide) rfl,off S 97 17 (by decide) rfl⟩
theorem o52_60:E.lives 52 13=none:=off S 52 13 (by decide) rfl
theorem loop_Equal (dp:Nat)(a b:List Obs)(hl:a.length<1073741824)(hab:a.length=b.length)(kx:Nat->K)(hx:∀ T,ansOf (kx 0 (mk .bot 26 T) [])=some (vb true)):∀ m k f,k+m=a.length->m<=f->
  ansOf (B10_slices_Equal_api_Obs_api_Obs (inn E 97) (evC E fn dp) (loopK 10 B10_slices_Equal_api_Obs_api_Obs (inn E 97) (evC E fn dp) kx (kEnd 0 [.tmp 4]) f) kx (kEnd 0 [.tmp 4]) (mk .bot 26 [(0,.d (rowD a)),(1,.d (rowD b)),(12,aint a.length),(13,aint k)]) [])=
  some (vb (decide (a.drop k=b.drop k))):=by
 intro m
 induction m with
 | zero=>
  intro k f hk _
  obtain rfl:k=a.length:=by omega
  generalize loopK 10 B10_slices_Equal_api_Obs_api_Obs _ _ kx _ f=KK
  rw[B10_slices_Equal_api_Obs_api_Obs,show a.drop a.length=[] from List.drop_length,show b.drop a.length=[] by rw[hab];exact List.drop_length]
  simp only[eG,go_sem,thq S,nbr S,zN0,zN1,zN2,zN3,zN4,zI0,zI1,zI2,zI3,reduceCtorEq,o97_60 S,Int.lt_irrefl]
  exact hx _
 | succ m ih=>
  intro k f hk hf
  obtain⟨e,he⟩:=get_of (show k<a.length by omega)
  obtain⟨e',he'⟩:=get_of (show k<b.length by omega)
  obtain⟨f,rfl⟩:∃ g,f=g+1:=⟨f-1,by omega⟩
  generalize hK:loopK 10 B10_slices_Equal_api_Obs_api_Obs _ _ kx _ (f+1)=KK
  rw[B10_slices_Equal_api_Obs_api_Obs,drop_get he,drop_get he']
  by_cases h:e=e'
  ·subst h
   simp only[eG,go_sem,thq S,nbr S,zN0,zN1,zN2,zN3,zN4,zI0,zI1,zI2,zI3,reduceCtorEq,o97_60 S,show(k:Int)<a.length by omega,w_ix he,w_ix he',wi k (by omega),d_endD0,same_Obs]
   rw[<-hK,loop_in (on S _ _ [0,1,12,13] (by decide) rfl) rfl _ _ _ _ _ _ _ _ _ rfl]
   simp only[eG,go_sem,thq S,nbr S,zN0,zN1,zN2,zN3,zN4,zI0,zI1,zI2,zI3,reduceCtorEq,o97_60 S]
   have:=ih (k+1) f (by omega) (by omega)
   simp only[List.cons.injEq,true_and]
   exact this
  ·simp only [eG, go_sem, thq S, nbr S, zN0, zN1, zN2, zN3, zN4, zI0, zI1, zI2, zI3, reduceCtorEq, o97_60 S, show (k : Int) < a.length by omega, w_ix he, w_ix he', wi k (by omega), d_endD0, same_Obs, eq_false h]
   simp[h]
theorem raw_slices_Equal_api_Obs_api_Obs (dp:Nat)(a b:List Obs)(hl:a.length<1073741824):Says E fn (dp+1) 97 [rowD a,rowD b] (vb (decide (a=b))):=by
 unfold Says
 show ansOf (evC E fn (dp+1) 97 [.d (rowD a),.d (rowD b)] [])=_
 rw[evC_succ,S.f_slices_Equal_api_Obs_api_Obs,apF_some,F_slices_Equal_api_Obs_api_Obs,mkF_run _ _ _ _ _ _ _ _ rfl]
 by_cases hab:a.length=b.length
 ·simp only [eG, go_sem, thq S, nbr S, zN0, zN1, zN2, zN3, zN4, zI0, zI1, zI2, zI3, reduceCtorEq, o97_60 S, hab, not_true_eq_false]
  rw[big_eq,loop_in (on S _ _ [0,1,12,13] (by decide) rfl) rfl _ _ _ _ _ _ _ _ _ rfl]
  simp only[eG,go_sem,thq S,nbr S,zN0,zN1,zN2,zN3,zN4,zI0,zI1,zI2,zI3,reduceCtorEq,o97_60 S]
  have go:=fun(kx:Nat->K) hx=>loop_Equal S dp a b hl hab kx hx a.length 0 999999999999999999999999999999 (by omega) (by omega)
  rw[hab] at go
  simp only[Int.cast_ofNat_Int] at go
  refine go _ ?_
  intro T
  simp only[eG,go_sem,thq S,nbr S,zN0,zN1,zN2,zN3,zN4,zI0,zI1,zI2,zI3,reduceCtorEq,o97_60 S]
 ·have hne : ¬ a = b := fun e => hab (by rw [e])
  simp only[eG,go_sem,thq S,nbr S,zN0,zN1,zN2,zN3,zN4,zI0,zI1,zI2,zI3,reduceCtorEq,o97_60 S,show ¬((a.length:Int)=b.length) by omega,not_false_eq_true,eq_false hne]
theorem c_slices_Equal_api_Obs_api_Obs (dp:Nat)(a b:List Obs)(hl:a.length<1073741824)(A:List Blk)(nb:Nat)(us:List Nat):evOwnK false E (evC E fn (dp+1)) 97 A nb (some ([rowD a,rowD b],us))=some (.made (.d (vb (decide (a=b)))) []):=
 Says.flat (raw_slices_Equal_api_Obs_api_Obs S dp a b hl) (np S 97 (by decide)) (rfl) A nb us
theorem raw_conf_Begin (dp:Nat)(s:State)(hm:s.mem.length<1073741824)(hs:s.stack.length<1073741824):Says E fn (dp+2) 51 [stateD s] (confD ⟨s,[],[],0⟩):=by
 unfold Says
 show ansOf (evC E fn (dp+1+1) 51 [.d (stateD s)] [])=_
 rw[evC_succ,S.f_conf_Begin,apF_some,F_conf_Begin,mkF_run _ _ _ _ _ _ _ _ rfl]
 simp only[eG,go_sem,thq S,nbr S,zN0,zN1,zN2,zN3,zN4,zI0,zI1,zI2,zI3,reduceCtorEq,c_arch_Still S,hm,hs]
theorem c_conf_Begin (dp:Nat)(s_r0 s_r1 s_r2 s_r3:Int)(s_mm s_st:List Int)(s_pc:Int)(hm:(⟨⟨s_r0,s_r1,s_r2,s_r3⟩,s_mm,s_st,s_pc⟩:State).mem.length<1073741824)(hs:(⟨⟨s_r0,s_r1,s_r2,s_r3⟩,s_mm,s_st,s_pc⟩:State).stack.length<1073741824)(A:List Blk)(nb:Nat):evOwnK false E (evC E fn (dp+2)) 51 A nb (some ([.agg [vi s_r0,vi s_r1,vi s_r2,vi s_r3,rowD s_mm,rowD s_st,vi s_pc]],[]))=some (.made (.d (confD ⟨(⟨⟨s_r0,s_r1,s_r2,s_r3⟩,s_mm,s_st,s_pc⟩:State),[],[],0⟩)) []):=
 Says.deep (raw_conf_Begin S dp (⟨⟨s_r0,s_r1,s_r2,s_r3⟩,s_mm,s_st,s_pc⟩:State) hm hs) (np S 51 (by decide)) A nb
theorem raw_prod_Step (dp:Nat)(p:Prog)(a b:Conf)(d:Dir)(hp:Md.Fine p)(hml:p.mems.length<1000)(hN:cellsI p.mems<=1000)(hIa:Md.Inv (cellsI p.mems) p a)(hIb:Md.Inv (cellsI p.mems) p b):Says E fn (dp+12) 52 [progD p,confD a,confD b,.agg (Cl.cells d)] (.tup [confD (bif okB (cellsI p.mems) p a b d then(sayC (cellsI p.mems) p a d).1 else Md.conf0),confD (bif okB (cellsI p.mems) p a b d then(sayC (cellsI p.mems) p b d).1 else Md.conf0),vb (sameB (cellsI p.mems) p a b d),vb (okB (cellsI p.mems) p a b d)]):=by
 unfold Says
 show ansOf (evC E fn (dp+11+1) 52 [.d (progD p),.d (confD a),.d (confD b),.d (.agg (Cl.cells d))] [])=_
 rw[evC_succ,S.f_prod_Step,apF_some,F_prod_Step,mkF_run _ _ _ _ _ _ _ _ rfl]
 have ca:=fun(A:List Blk) (nb:Nat)=>do_any S dp hp hml hN hIa d A nb
 have cb:=fun(A:List Blk) (nb:Nat)=>do_any S dp hp hml hN hIb d A nb
 obtain⟨a1,a2,a3,a4,a5⟩:=say_small hp hN hIa d
 obtain⟨b1,b2,b3,b4,b5⟩:=say_small hp hN hIb d
 unfold okB sameB
 generalize Md.canSay (cellsI p.mems) p a d=x at ca ⊢
 generalize Md.canSay (cellsI p.mems) p b d=y at cb ⊢
 generalize sayC (cellsI p.mems) p a d=X at *
 generalize sayC (cellsI p.mems) p b d=Y at *
 obtain⟨X,o⟩:=X
 obtain⟨Y,q⟩:=Y
 simp only at a1 a2 a3 a4 a5 b1 b2 b3 b4 b5
 have ho:o.length<1073741824:=by omega
 simp only[progD,progC,confD,confC] at ca cb
 cases x<;>cases y
 ·by_cases hoq : o = q
  ·simp only[eG,go_sem,thq S,nbr S,zN0,zN1,zN2,zN3,zN4,zI0,zI1,zI2,zI3,reduceCtorEq,o52_60 S,ca,cb,ho,c_slices_Equal_api_Obs_api_Obs S,Bool.not_true,Bool.not_false,d_endD',d_neC,d_ne0,d_neR,beq_self_eq_true,Md.conf0,eq_true hoq]
  ·simp only[eG,go_sem,thq S,nbr S,zN0,zN1,zN2,zN3,zN4,zI0,zI1,zI2,zI3,reduceCtorEq,o52_60 S,ca,cb,ho,c_slices_Equal_api_Obs_api_Obs S,Bool.not_true,Bool.not_false,d_endD',d_neC,d_ne0,d_neR,beq_self_eq_true,Md.conf0,eq_false hoq]
 ·simp only [eG, go_sem, thq S, nbr S, zN0, zN1, zN2, zN3, zN4, zI0, zI1, zI2, zI3, reduceCtorEq, o52_60 S, ca, cb, ho, c_slices_Equal_api_Obs_api_Obs S, Bool.not_true, Bool.not_false, d_endD', d_neC, d_ne0, d_neR, beq_self_eq_true, Md.conf0]
  try rfl
 ·simp only [eG, go_sem, thq S, nbr S, zN0, zN1, zN2, zN3, zN4, zI0, zI1, zI2, zI3, reduceCtorEq, o52_60 S, ca, cb, ho, c_slices_Equal_api_Obs_api_Obs S, Bool.not_true, Bool.not_false, d_endD', d_neC, d_ne0, d_neR, beq_self_eq_true, Md.conf0]
  try rfl
 ·by_cases hoq : o = q
  ·simp only [eG, go_sem, thq S, nbr S, zN0, zN1, zN2, zN3, zN4, zI0, zI1, zI2, zI3, reduceCtorEq, o52_60 S, ca, cb, ho, c_slices_Equal_api_Obs_api_Obs S, Bool.not_true, Bool.not_false, d_endD', d_neC, d_ne0, d_neR, beq_self_eq_true, Md.conf0, eq_true hoq]
   try rfl
  ·simp only[eG,go_sem,thq S,nbr S,zN0,zN1,zN2,zN3,zN4,zI0,zI1,zI2,zI3,reduceCtorEq,o52_60 S,ca,cb,ho,c_slices_Equal_api_Obs_api_Obs S,Bool.not_true,Bool.not_false,d_endD',d_neC,d_ne0,d_neR,beq_self_eq_true,Md.conf0,eq_false hoq]
end
end Go.Aug.Mc
namespace Go.Aug.Md
open Go Go.Aug
set_option linter.unusedSimpArgs false
set_option linter.unusedVariables false
def ltD (a b:Dir):Prop:=a.kind<b.kind∨a.kind=b.kind/\a.n<b.n
section
variable {N:Int} {p:Prog} {c:Conf}
structure Cnt (l:List Dir) (k:Nat) (d:Dir):Prop where
 le:k<=l.length
 lo:∀ e ∈ l.take k,ltD e d
 hi:∀ e ∈ l.drop k,¬ltD e d
theorem Cnt.begin (l:List Dir)(d:Dir)(h:∀ e ∈ l,¬ltD e d):Cnt l 0 d:=⟨Nat.zero_le _,fun e h=>by simp at h,fun e he=>h e (by simpa using he)⟩
theorem Cnt.row {l:List Dir}{k:Nat}{kd m:Int}(h:Cnt l k ⟨kd,m⟩)(hm:∀ e ∈ l,0<=e.n/\e.n<m):Cnt l k ⟨kd+1,-1⟩:=by
 refine⟨h.le,fun e he=> ?_,fun e he=> ?_⟩
 ·have := h.lo e he
  unfold ltD at this ⊢
  show _<kd+1∨_=kd+1/\_< -1
  have:e.kind<kd∨e.kind=kd/\e.n<m:=this
  omega
 ·have h1 : ¬ (e.kind < kd ∨ e.kind = kd /\ e.n < m) := h.hi e he
  have:=hm e (List.mem_of_mem_drop he)
  show ¬(_<kd+1∨_=kd+1/\_< -1)
  omega
theorem Cnt.end_ {l:List Dir}{k:Nat}{kd m:Int}(h:Cnt l k ⟨kd,m⟩)(hm:∀ e ∈ l,e.kind<kd):k=l.length:=by
 have h0:l.drop k=[]:=by
  cases hq:l.drop k with
  | nil=>rfl
  | cons e t=>
   have he:e ∈ l.drop k:=by rw[hq];exact List.mem_cons_self
   exact absurd (.inl (hm e (List.mem_of_mem_drop he))) (h.hi e he)
 have:=congrArg List.length h0
 rw[List.length_drop,List.length_nil] at this
 have:=h.le
 omega
end
end Go.Aug.Md
namespace Go.Aug.Mc
open Go Go.Aug
open Nat renaming reduceLT -> zN0, reduceEqDiff -> zN1, reduceAdd -> zN2, reduceMul -> zN3, reduceLeDiff -> zN4
open Int renaming reduceEq -> zI0, reduceLT -> zI1, reduceLE -> zI2, reduceNeg -> zI3
set_option linter.unusedSimpArgs false
set_option linter.unusedVariables false
set_option maxHeartbeats 40000000
set_option maxRecDepth 200000
def difM (N:Int)(p:Prog):List Dir->Conf->Conf->Nat->Int×Bool
 | [],_,_,_=>(0,false)
 | d::l,x,y,i=>bif sameB N p x y d then(bif Md.canSay N p x d then difM N p l (Md.say N p x d).1 (Md.say N p y d).1 (i+1) else(0,false)) else((i:Int),true)
theorem difM_nil (N:Int)(p:Prog)(x y:Conf)(i:Nat):difM N p [] x y i=(0,false):=rfl
theorem difM_cons (N:Int)(p:Prog)(d:Dir)(l:List Dir)(x y:Conf)(i:Nat):difM N p (d::l) x y i=bif sameB N p x y d then(bif Md.canSay N p x d then difM N p l (Md.say N p x d).1 (Md.say N p y d).1 (i+1) else(0,false)) else((i:Int),true):=rfl
theorem same_can {N:Int}{p:Prog}{x y:Conf}{d:Dir}(h:sameB N p x y d=true):Md.canSay N p x d=Md.canSay N p y d:=by
 simp only[sameB,Bool.and_eq_true,beq_iff_eq] at h
 exact h.1
theorem same_symm (N:Int)(p:Prog)(x y:Conf)(d:Dir):sameB N p x y d=sameB N p y x d:=by
 unfold sameB
 rw[Bool.eq_iff_iff]
 simp only[Bool.and_eq_true,beq_iff_eq,decide_eq_true_eq]
 exact⟨fun h=>⟨h.1.symm,h.2.symm⟩,fun h=>⟨h.1.symm,h.2.symm⟩⟩
theorem same_self (N:Int)(p:Prog)(x:Conf)(d:Dir):sameB N p x x d=true:=by
 unfold sameB;simp
theorem difM_symm (N:Int)(p:Prog):∀(l:List Dir) (x y:Conf) (i:Nat),difM N p l x y i=difM N p l y x i
 | [],_,_,_=>rfl
 | d::l,x,y,i=>by
  rw[difM_cons,difM_cons,same_symm N p y x d]
  cases h:sameB N p x y d with
  | false=>rfl
  | true=>rw[same_can h,difM_symm N p l]
theorem difM_self (N:Int)(p:Prog):∀(l:List Dir) (x:Conf) (i:Nat),difM N p l x x i=(0,false)
 | [],_,_=>rfl
 | d::l,x,i=>by
  rw[difM_cons,same_self,cond_true]
  cases Md.canSay N p x d with
  | false=>rfl
  | true=>exact difM_self N p l _ _
theorem difM_hit (N:Int)(p:Prog):∀(l:List Dir) (x y:Conf) (i:Nat),(difM N p l x y i).2=true->∃ j:Nat,j<l.length/\difM N p l x y i=(((i+j:Nat):Int),true)/\difM N p (l.take (j+1)) x y i=(((i+j:Nat):Int),true)/\(difM N p (l.take j) x y i).2=false
 | [],_,_,_,h=>by cases h
 | d::l,x,y,i,h=>by
  rw[difM_cons] at h
  cases hs:sameB N p x y d with
  | false=>
   refine⟨0,by simp,?_,?_,rfl⟩
   ·rw[difM_cons,hs];rfl
   ·rw[List.take_succ_cons,difM_cons,hs];rfl
  | true=>
   rw[hs,cond_true] at h
   cases hc:Md.canSay N p x d with
   | false=>rw[hc] at h;cases h
   | true=>
    rw[hc,cond_true] at h
    obtain⟨j,h1,h2,h3,h4⟩:=difM_hit N p l _ _ (i+1) h
    refine⟨j+1,by rw[List.length_cons];omega,?_,?_,?_⟩
    ·rw[difM_cons,hs,hc,cond_true,cond_true,h2,show i+1+j=i+(j+1) by omega]
    ·rw[List.take_succ_cons,difM_cons,hs,hc,cond_true,cond_true,h3,show i+1+j=i+(j+1) by omega]
    ·rw[List.take_succ_cons,difM_cons,hs,hc,cond_true,cond_true,h4]
theorem difM_none (N:Int)(p:Prog)(l:List Dir)(a b:State)(i:Nat):difM N p (⟨4,0⟩::l) (Md.begin_ a) (Md.begin_ b) i=(0,false):=by
 have h:∀ s:State,Md.canSay N p (Md.begin_ s) ⟨4,0⟩=false:=fun s=>by
  show(decide ((4:Int)=4)&&decide ((0:Int)=0)&&Md.canRetire p (Md.begin_ s))=false
  rfl
 have e:∀ s:State,sayC N p (Md.begin_ s) ⟨4,0⟩=(Md.conf0,[]):=fun s=>by unfold sayC;rw[h];rfl
 rw[difM_cons]
 unfold sameB
 rw[h,h,e,e];rfl
variable {E:Env} {fn:FuncId->Option (Env->CallT->CallT)}
section
variable (S:Sur E fn)
include S
theorem o22_61:E.lives 22 1=none/\E.lives 22 19=none/\E.lives 22 23=none:=⟨off S 22 1 (by decide) rfl,off S 22 19 (by decide) rfl,off S 22 23 (by decide) rfl⟩
theorem loop_Dif (dp:Nat)(p:Prog)(hp:Md.Fine p)(hml:p.mems.length<1000)(hN:cellsI p.mems<=1000)(l:List Dir)(hl:l.length<1073741824)(kx:Nat->K)
  (hx:∀ T A,ansOf (kx 0 (mk .bot 43 T) A)=some (.tup [vi 0,vb false])):
  ∀(m k f:Nat) (x y:Conf),Md.Inv (cellsI p.mems) p x->Md.Inv (cellsI p.mems) p y->k+m=l.length->m<=f->
  ansOf (B8_witn_Differs (inn E 22) (evC E fn (dp+12)) (loopK 8 B8_witn_Differs (inn E 22) (evC E fn (dp+12)) kx (kEnd 0 [.tmp 8,.tmp 9]) f) kx (kEnd 0 [.tmp 8,.tmp 9]) (mk .bot 43 [(4,.ref 0 0 0),(10,.ref 1 0 0),(11,.ref 2 0 0),(20,.d (rowD l)),(21,aint l.length),(22,aint k)]) [.cells ((progC p).map .d) 0 false,.cells ((confC x).map .d) 0 false,.cells ((confC y).map .d) 0 false])=some (.tup [vi (difM (cellsI p.mems) p (l.drop k) x y k).1,vb (difM (cellsI p.mems) p (l.drop k) x y k).2]):=by
 intro m
 induction m with
 | zero=>
  intro k f x y _ _ hk _
  obtain rfl:k=l.length:=by omega
  rw[List.drop_length,difM_nil]
  generalize loopK 8 B8_witn_Differs _ _ kx _ f=KK
  first | (conv=>lhs;rw[B8_witn_Differs]) | rw[B8_witn_Differs]
  simp only[eG,go_sem,thq S,nbr S,zN0,zN1,zN2,zN3,zN4,zI0,zI1,zI2,zI3,reduceCtorEq,o22_61 S,Int.lt_irrefl]
  exact hx _ _
 | succ m ih=>
  intro k f x y hIx hIy hk hf
  obtain⟨f,rfl⟩:∃ g,f=g+1:=⟨f-1,by omega⟩
  obtain⟨d,hd⟩:=get_of (show k<l.length by omega)
  have hkl:(k:Int)<l.length:=by omega
  have hS:=fun(A:List Blk) (nb:Nat)=>Says.deep (raw_prod_Step S dp p x y d hp hml hN hIx hIy) (np S 52 (by decide)) A nb
  rw[drop_get hd,difM_cons]
  cases hs:sameB (cellsI p.mems) p x y d with
  | false=>
   have hok:okB (cellsI p.mems) p x y d=false:=by unfold okB;rw[hs];rfl
   rw[hs,hok] at hS
   simp only[progD,progC,confD,confC,cl_dir,cond_false] at hS
   generalize loopK 8 B8_witn_Differs _ _ kx _ (f+1)=KK
   first | (conv=>lhs;rw[B8_witn_Differs]) | rw[B8_witn_Differs]
   simp only[eG,go_sem,thq S,nbr S,zN0,zN1,zN2,zN3,zN4,zI0,zI1,zI2,zI3,reduceCtorEq,o22_61 S,hkl,w_ix hd,hS,Bool.not_false]
  | true=>
   cases hc:Md.canSay (cellsI p.mems) p x d with
   | false=>
    have hok:okB (cellsI p.mems) p x y d=false:=by unfold okB;rw[hs,hc];rfl
    rw[hs,hok] at hS
    simp only[progD,progC,confD,confC,cl_dir,cond_false] at hS
    generalize loopK 8 B8_witn_Differs _ _ kx _ (f+1)=KK
    first | (conv=>lhs;rw[B8_witn_Differs]) | rw[B8_witn_Differs]
    simp only[eG,go_sem,thq S,nbr S,zN0,zN1,zN2,zN3,zN4,zI0,zI1,zI2,zI3,reduceCtorEq,o22_61 S,hkl,w_ix hd,hS,Bool.not_false,Bool.not_true]
   | true=>
    have hc2:Md.canSay (cellsI p.mems) p y d=true:=by rw[<-same_can hs];exact hc
    have hok:okB (cellsI p.mems) p x y d=true:=by unfold okB;rw[hs,hc];rfl
    have e1:sayC (cellsI p.mems) p x d=Md.say (cellsI p.mems) p x d:=by unfold sayC;rw[hc];rfl
    have e2:sayC (cellsI p.mems) p y d=Md.say (cellsI p.mems) p y d:=by unfold sayC;rw[hc2];rfl
    have hIx':=hIx.said hp d hc
    have hIy':=hIy.said hp d hc2
    rw[hs,hok,e1,e2,cond_true,cond_true] at hS
    generalize (Md.say (cellsI p.mems) p x d).1=X at *
    generalize (Md.say (cellsI p.mems) p y d).1=Y at *
    simp only[progD,progC,confD,confC,cl_dir] at hS
    have next:=ih (k+1) f X Y hIx' hIy' (by omega) (by omega)
    generalize hK:loopK 8 B8_witn_Differs _ _ kx _ (f+1)=KK
    first | (conv=>lhs;rw[B8_witn_Differs]) | rw[B8_witn_Differs]
    simp only[eG,go_sem,thq S,nbr S,zN0,zN1,zN2,zN3,zN4,zI0,zI1,zI2,zI3,reduceCtorEq,o22_61 S,hkl,w_ix hd,hS,Bool.not_false,Bool.not_true,wi k (by omega)]
    rw[<-hK,loop_in (on S _ _ [4,10,11,20,21,22] (by decide) rfl) rfl _ _ _ _ _ _ _ _ _ rfl]
    simp only[eG,go_sem,thq S,nbr S,zN0,zN1,zN2,zN3,zN4,zI0,zI1,zI2,zI3,reduceCtorEq,o22_61 S]
    exact next
theorem raw_witn_Differs (dp:Nat)(p:Prog)(a b:State)(l:List Dir)(hp:Md.Fine p)(hml:p.mems.length<1000)(hN:cellsI p.mems<=1000)(hIa:Md.Inv (cellsI p.mems) p (Md.begin_ a))(hIb:Md.Inv (cellsI p.mems) p (Md.begin_ b))(hl:l.length<1073741824):Says E fn (dp+13) 22 [progD p,stateD a,stateD b,rowD l] (.tup [vi (difM (cellsI p.mems) p l (Md.begin_ a) (Md.begin_ b) 0).1,vb (difM (cellsI p.mems) p l (Md.begin_ a) (Md.begin_ b) 0).2]):=by
 unfold Says
 show ansOf (evC E fn (dp+12+1) 22 [.d (progD p),.d (stateD a),.d (stateD b),.d (rowD l)] [])=_
 rw[evC_succ,S.f_witn_Differs,apF_some,F_witn_Differs,mkF_run _ _ _ _ _ _ _ _ rfl]
 obtain⟨_,_,a3,a4,_⟩:=inv_hyps hp hIa hN ⟨0,0⟩
 obtain⟨_,_,b3,b4,_⟩:=inv_hyps hp hIb hN ⟨0,0⟩
 have a3':a.mem.length<1000000:=a3
 have a4':a.stack.length<1000000:=a4
 have b3':b.mem.length<1000000:=b3
 have b4':b.stack.length<1000000:=b4
 have m1:a.mem.length<1073741824:=by omega
 have m2:a.stack.length<1073741824:=by omega
 have m3:b.mem.length<1073741824:=by omega
 have m4:b.stack.length<1073741824:=by omega
 have go:=fun(kx:Nat->K) hx=>loop_Dif S dp p hp hml hN l hl kx hx l.length 0 999999999999999999999999999999 (Md.begin_ a) (Md.begin_ b) hIa hIb (by omega) (by omega)
 simp only[Int.cast_ofNat_Int,Md.begin_,List.drop_zero] at go
 simp only[eG,go_sem,thq S,nbr S,zN0,zN1,zN2,zN3,zN4,zI0,zI1,zI2,zI3,reduceCtorEq,o22_61 S,c_conf_Begin S,m1,m2,m3,m4]
 rw[big_eq,loop_in (on S _ _ [4,10,11,20,21,22] (by decide) rfl) rfl _ _ _ _ _ _ _ _ _ rfl]
 simp only[eG,go_sem,thq S,nbr S,zN0,zN1,zN2,zN3,zN4,zI0,zI1,zI2,zI3,reduceCtorEq,o22_61 S]
 refine go _ ?_
 intro T A
 simp only[eG,go_sem,thq S,nbr S,zN0,zN1,zN2,zN3,zN4,zI0,zI1,zI2,zI3,reduceCtorEq,o22_61 S]
end
variable {E:Env} {fn:FuncId->Option (Env->CallT->CallT)}
section
variable (S:Sur E fn)
include S
theorem of_54_Bo2:E.lives 54 1=none:=off S 54 1 (by decide) rfl
theorem loop_rCells (dp:Nat)(p:Prog)(hl:p.mems.length<1073741824)(hr:∀ m ∈ p.mems,0<=m.n/\m.n<=16)(kx:Nat->K)(kr:K):∀ m k f,k+m=p.mems.length->m<=f->
  B8_r7_Cells (inn E 54) (evC E fn dp) (loopK 8 B8_r7_Cells (inn E 54) (evC E fn dp) kx kr f) kx kr (mk .bot 21 [(1,.ref 0 0 0),(3,aint (cellsI (p.mems.take k))),(4,aint k)]) [.cells ((progC p).map .d) 0 false]=
  kx 0 (mk .bot 21 [(9,abool false),(8,aint p.mems.length),(7,.d (rowD p.mems)),(6,.ref 0 0 7),(5,aint p.mems.length),(1,.ref 0 0 0),(3,aint (cellsI p.mems)),(4,aint p.mems.length)]) [.cells ((progC p).map .d) 0 false]:=by
 intro m
 induction m with
 | zero=>
  intro k f hk _
  obtain rfl:k=p.mems.length:=by omega
  generalize loopK 8 B8_r7_Cells _ _ kx kr f=KK
  rw[B8_r7_Cells,List.take_of_length_le (by omega)]
  simp only[eG,go_sem,thq S,nbr S,zN0,zN1,zN2,zN3,zN4,zI0,zI1,zI2,zI3,reduceCtorEq,of_54_Bo2 S,Int.lt_irrefl]
 | succ m ih=>
  intro k f hk hf
  obtain⟨e,he⟩:=get_of (show k<p.mems.length by omega)
  obtain⟨f,rfl⟩:∃ g,f=g+1:=⟨f-1,by omega⟩
  generalize hK:loopK 8 B8_r7_Cells _ _ kx kr (f+1)=KK
  rw[B8_r7_Cells]
  have hb:=cellsI_le (p.mems.take k)
  have hbl:(p.mems.take k).length<=p.mems.length:=by simp;omega
  have hen:=hr e (List.mem_of_getElem? he)
  have hw:IntKind.i64.wrap (cellsI (p.mems.take k)+e.n)=cellsI (p.mems.take (k+1)):=by
   rw[cellsI_take he,Int.max_eq_left hen.1,Int.min_eq_left hen.2]
   exact wrap_i64 (by omega) (by omega)
  simp only[eG,go_sem,thq S,nbr S,zN0,zN1,zN2,zN3,zN4,zI0,zI1,zI2,zI3,reduceCtorEq,of_54_Bo2 S,show(k:Int)<p.mems.length by omega,w_ix he,wi k (by omega),hw]
  rw[<-hK,loop_in (on S _ _ [1,3,4] (by decide) rfl) rfl _ _ _ _ _ _ _ _ _ rfl]
  simp only[eG,go_sem,thq S,nbr S,zN0,zN1,zN2,zN3,zN4,zI0,zI1,zI2,zI3,reduceCtorEq,of_54_Bo2 S]
  exact ih (k+1) f (by omega) (by omega)
theorem raw_r7_Cells (dp:Nat)(p:Prog)(hl:p.mems.length<1073741824)(hr:∀ m ∈ p.mems,0<=m.n/\m.n<=16):Says E fn (dp+1) 54 [progD p] (vi (cellsI p.mems)):=by
 unfold Says
 show ansOf (evC E fn (dp+1) 54 [.d (progD p)] [])=_
 rw[evC_succ,S.f_r7_Cells,apF_some,F_r7_Cells,mkF_run _ _ _ _ _ _ _ _ rfl]
 simp only[eG,go_sem,thq S,nbr S,zN0,zN1,zN2,zN3,zN4,zI0,zI1,zI2,zI3,reduceCtorEq,of_54_Bo2 S]
 rw[big_eq,loop_in (on S _ _ [1,3,4] (by decide) rfl) rfl _ _ _ _ _ _ _ _ _ rfl]
 simp only[eG,go_sem,thq S,nbr S,zN0,zN1,zN2,zN3,zN4,zI0,zI1,zI2,zI3,reduceCtorEq,of_54_Bo2 S]
 have:=fun kx kr=>loop_rCells S dp p hl hr kx kr p.mems.length 0 999999999999999999999999999999 (by omega) (by omega)
 simp only[go_sem,List.take_zero,Int.cast_ofNat_Int,show cellsI ([]:List MemT)=0 from rfl] at this
 rw[this]
 simp only[eG,go_sem,thq S,nbr S,zN0,zN1,zN2,zN3,zN4,zI0,zI1,zI2,zI3,reduceCtorEq,of_54_Bo2 S]
end
end Go.Aug.Mc
