import Derived.Test.YtmfdoekbjkgckaaGreatMl
import Derived.Test.YtmfdoekbjkgckaaGreatMl3
import Derived.Test.YtmfdoekbjkgckaaGreatMc12
namespace Go.Aug.Mc
open Go Go.Aug
open Nat renaming reduceLT -> zN0, reduceEqDiff -> zN1, reduceAdd -> zN2, reduceMul -> zN3, reduceLeDiff -> zN4
open Int renaming reduceEq -> zI0, reduceLT -> zI1, reduceLE -> zI2, reduceNeg -> zI3
set_option linter.unusedSimpArgs false
set_option linter.unusedVariables false
set_option maxHeartbeats 40000000
set_option maxRecDepth 200000
theorem P5 {N:Int}{p:Prog}{c:Conf}(hp:Md.Fine p)(h:Md.Inv N p c)(hN:N<=1000)(d:Dir):
  p.ins.length<1073741824/\c.buf.length<1000000/\c.state.mem.length<1000000/\c.state.stack.length<1000000/\c.rsb.length<1000000/\
  (B6 (Md.real p c.state.stack c.buf d.n)).length<1073741824/\(Md.can N p c d.n=true->(Md.Yv p c d.n).kind=2->(Md.ZR c.buf d.n).val=0/\(Md.ZR c.buf d.n).frm= -1)/\
  (Md.Q6 p c d.n=true->(Md.ZR c.buf d.n).fault=false)/\(0<=(Md.at_ p (Md.ZR c.buf 0).pc).d/\(Md.at_ p (Md.ZR c.buf 0).pc).d<=3)/\
  (Md.Q2 p c=true->(Md.at_ p (Md.ZR c.buf 0).pc).kind=3->(Md.ZR c.buf 0).fault=false->0<=(Md.ZR c.buf 0).addr/\(Md.ZR c.buf 0).addr<c.state.mem.length)/\
  (Md.Q2 p c=true->(Md.at_ p (Md.ZR c.buf 0).pc).kind=9->(Md.ZR c.buf 0).fault=false->c.state.stack≠[]):=by
 have hb:=h.buf
 have hw:=hp.win
 have hn:=hp.n
 have hm:=h.mem
 have hfa:=hp.at_ (Md.ZR c.buf 0).pc
 refine⟨by omega,by omega,by omega,by have:=h.stk;omega,by have:=h.rsb;omega,?_,fun hc k2=> ?_,fun hc=> ?_,⟨hfa.2.2.1,hfa.2.2.2.1⟩,fun hc k3 hf=> ?_,fun hc k9 hf=> ?_⟩
 ·cases hr : Md.real p c.state.stack c.buf d.n with
  | none=>exact(by decide:(0:Nat)<1073741824)
  | some l=>have:=(h.real hp hr).2;show l.length<_;omega
 ·have hc' := hc
  simp only[Md.can,Bool.and_eq_true,Bool.not_eq_true'] at hc'
  obtain⟨_,k,hk,he⟩:=Md.H9 hc'.1.1
  exact(h.ent k _ he).ld k2 hc'.1.2
 ·have hc' := hc
  simp only[Md.Q6,Bool.and_eq_true,Bool.not_eq_true',decide_eq_true_eq] at hc'
  obtain⟨_,k,hk,he⟩:=Md.H9 hc'.1.1.1.1
  exact(h.ent k _ he).st hc'.1.1.2 hc'.1.1.1.2
 ·obtain ⟨e, he, he0, _⟩ := UH hc
  rw[he0] at k3 hf ⊢
  simp only[Md.Q2,Bool.and_eq_true,Bool.or_eq_true,decide_eq_true_eq,he0] at hc
  have hk:e.known=true:=by
   rcases hc.2 with h | h
   ·exact absurd k3 h
   ·exact h
  have:=(h.ent 0 e he).sk k3 hk hf
  omega
 ·obtain ⟨e, he, he0, _⟩ := UH hc
  rw[he0] at k9 hf
  simp only[Md.Q2,Bool.and_eq_true,Bool.or_eq_true,decide_eq_true_eq,he0] at hc
  have hd:e.done=true:=by
   rcases hc.1.2 with h | h
   ·exact h
   ·omega
  obtain⟨l,hl,hne⟩:=(h.ent 0 e he).rt k9 hd hf
  have:Md.real p c.state.stack c.buf ((0:Nat):Int)=some c.state.stack:=by
   unfold Md.real Md.cut
   rw[show(((0:Nat):Int)).toNat=0 from rfl,List.take_zero];rfl
  rw[this] at hl
  simp at hl;subst hl;exact hne
theorem Zg0 {l:List Int}{k:Nat}{x:Int}(h:(l.take 60)[k]? =some x):l[k]? =some x/\k<60/\k<l.length:=by
 rw[List.getElem?_take] at h
 split at h
 ·rename_i hk;exact⟨h,hk,(List.getElem?_eq_some_iff.1 h).1⟩
 ·cases h
structure WInv (N:Int) (p:Prog) (c0 c:Conf) (o:List Dir):Prop where
 inv:Md.Inv N p c
 can:Md.Pk N p o c0
 run:Md.R2 N p o c0=c
 len:o.length<=60
theorem WInv.step {N:Int}{p:Prog}{c0 c:Conf}{o:List Dir}(hp:Md.Fine p)(h:WInv N p c0 c o)(d:Dir)(hc:Md.QB N p c d=true)(hl:o.length<60):WInv N p c0 (Md.say N p c d).1 (o++[d]):=by
 refine⟨h.inv.said hp d hc,(Md.Zbo _ _ _).2 ⟨h.can,by rw[h.run];exact⟨hc,trivial⟩⟩,?_,by rw[List.length_append,List.length_singleton];omega⟩
 rw[Md.Z46,h.run];rfl
variable {E:Env} {fn:FuncId->Option (Env->cT->cT)}
section
variable (S:Sur E fn)
include S
theorem EN:E.lives 18 1=none:=off S 18 1 (by decide) rfl
theorem Znf (dp:Nat)(N:Int)(hN:N<=1000)(p:Prog)(hp:Md.Fine p)(c0:Conf)(l:List Int)(kx:Nat->K)(P:Option DV->Prop)
  (hx:∀ T c' o',ZS .bot T 6=.ref 1 0 0->ZS .bot T 8=.ref 2 0 0->ZS .bot T 9=YG 3 (o':List Dir)->WInv N p c0 c' o'->P (Zj (kx 0 (mk .bot 70 T) ([.cells ((Y1 p).map .d) 0 false,.cells [zi,zi,zi,zi,zn,zn,zi,zn,zn,zi] 0 false,.cells ((J4 c').map .d) 0 false]++Yw o')))):
  ∀(m k f:Nat) (c:Conf) (o:List Dir),WInv N p c0 c o->k+m=(l.take 60).length->m<=f->o.length<=k->
  P (Zj (KW (Zx E 18) (Z4 E fn (dp+7)) (Z9 10 KW (Zx E 18) (Z4 E fn (dp+7)) kx (ZY 0 [.cell 6 true 10,.tmp 7]) f) kx (ZY 0 [.cell 6 true 10,.tmp 7]) (mk .bot 70 [(2,.d (rD l)),(3,.ref 0 0 0),(6,.ref 1 0 0),(8,.ref 2 0 0),(9,YG 3 o),(10,aI k)]) ([.cells ((Y1 p).map .d) 0 false,.cells [zi,zi,zi,zi,zn,zn,zi,zn,zn,zi] 0 false,.cells ((J4 c).map .d) 0 false]++Yw o))):=by
 intro m
 have hlen:(l.take 60).length=min 60 l.length:=List.length_take
 induction m with
 | zero=>
  intro k f c o hI hk _ ho
  generalize Z9 10 KW _ _ kx _ f=KK
  first | (conv=>lhs;rw[KW]) | rw[KW]
  by_cases hkl:(k:Int)<l.length
  ·have h60 : ¬ (k : Int) < 60 := by omega
   by_cases h0:o.length=0
   ·have : o = [] := List.length_eq_zero_iff.1 h0
    subst this
    simp only[eG,go_sem,Z3 S,Z2 S,zN0,zN1,zN2,zN3,zN4,zI0,zI1,zI2,zI3,reduceCtorEq,EN S,Y5,Y4,hkl,h60]
    exact hx _ c [] rfl rfl rfl hI
   ·rw [ZB h0, ZA h0]
    simp only[eG,go_sem,Z3 S,Z2 S,zN0,zN1,zN2,zN3,zN4,zI0,zI1,zI2,zI3,reduceCtorEq,EN S,hkl,h60]
    have:=fun T a b d=>hx T c o a b (by rw[ZB h0];exact d) hI
    rw[ZA h0] at this
    exact this _ rfl rfl rfl
  ·by_cases h0 : o.length = 0
   ·have : o = [] := List.length_eq_zero_iff.1 h0
    subst this
    simp only[eG,go_sem,Z3 S,Z2 S,zN0,zN1,zN2,zN3,zN4,zI0,zI1,zI2,zI3,reduceCtorEq,EN S,Y5,Y4,hkl]
    exact hx _ c [] rfl rfl rfl hI
   ·rw [ZB h0, ZA h0]
    simp only[eG,go_sem,Z3 S,Z2 S,zN0,zN1,zN2,zN3,zN4,zI0,zI1,zI2,zI3,reduceCtorEq,EN S,hkl]
    have:=fun T a b d=>hx T c o a b (by rw[ZB h0];exact d) hI
    rw[ZA h0] at this
    exact this _ rfl rfl rfl
 | succ m ih=>
  intro k f c o hI hk hf ho
  obtain⟨x,hx0⟩:=Q4 (show k<(l.take 60).length by omega)
  obtain⟨hxk,h60,hkl⟩:=Zg0 hx0
  have hkl':(k:Int)<l.length:=by omega
  have h60':(k:Int)<60:=by omega
  obtain⟨f,rfl⟩:∃ g,f=g+1:=⟨f-1,by omega⟩
  have hmem:=hI.inv.mem
  have hall0:=P5 hp hI.inv hN ⟨0,0⟩
  obtain⟨q1,q2,q3,q4,q5,_⟩:=hall0
  have q2':c.buf.length<1073741824:=by omega
  generalize hK:Z9 10 KW _ _ kx _ (f+1)=KK
  first | (conv=>lhs;rw[KW]) | rw[KW]
  generalize hD:Md.all N p c=d
  by_cases hd:d=[]
  ·subst hd
   by_cases h0:o.length=0
   ·have : o = [] := List.length_eq_zero_iff.1 h0
    subst this
    simp only[eG,go_sem,Z3 S,Z2 S,zN0,zN1,zN2,zN3,zN4,zI0,zI1,zI2,zI3,reduceCtorEq,EN S,Y5,Y4,hkl',h60',Wk S,q1,q2',hmem,hD,List.length_nil]
    exact hx _ c [] rfl rfl rfl hI
   ·rw [ZB h0, ZA h0]
    simp only[eG,go_sem,Z3 S,Z2 S,zN0,zN1,zN2,zN3,zN4,zI0,zI1,zI2,zI3,reduceCtorEq,EN S,hkl',h60',Wk S,q1,q2',hmem,hD,List.length_nil]
    have:=fun T a b d=>hx T c o a b (by rw[ZB h0];exact d) hI
    rw[ZA h0] at this
    exact this _ rfl rfl rfl
  ·have hdl : d.length ≠ 0 := fun h => hd (List.length_eq_zero_iff.1 h)
   have hdl':¬(d.length:Int)=0:=by omega
   have hix:=Md.Z6u x (show 0<d.length by omega)
   obtain⟨dd,hdd⟩:=Q4 hix
   have hpick:Md.pick x d=dd:=by unfold Md.pick;rw[hdd];rfl
   have hmemd:dd ∈ Md.all N p c:=by rw[hD];exact List.mem_of_getElem? hdd
   have hcan:=(Md.Z0i dd).1 hmemd
   obtain⟨_,_,_,_,_,y1,y2,y3,y4,y5,y6⟩:=P5 hp hI.inv hN dd
   have hS:J9 N p c dd=Md.say N p c dd:=by unfold J9;rw[hcan];rfl
   have hI':=hI.step hp dd hcan (by omega)
   have g2:c.buf.length<1073741823:=by omega
   have g3:c.state.mem.length<1073741824:=by omega
   have g4:c.state.stack.length<1073741823:=by omega
   have g5:c.rsb.length<1073741823:=by omega
   have lim:Z5=1099511627776:=rfl
   have hsay:∀(A:List Blk) (nb:Nat),ZC false E (Z4 E fn (dp+7)) 43 A nb (some ([Zz p,ZP c,.agg [vi dd.kind,vi dd.n]],[]))=some (.made (.d (.tup [ZP (Md.say N p c dd).1,rD (Md.say N p c dd).2,vb true])) []):=fun A nb=>by
    have:=Zqy S dp p.w p.window p.fuel p.regs.r0 p.regs.r1 p.regs.r2 p.regs.r3 p.mems p.labels p.ins c.state.regs.r0 c.state.regs.r1 c.state.regs.r2 c.state.regs.r3 c.state.mem c.state.stack c.state.pc c.buf c.rsb c.end_ dd.kind dd.n q1 g2 g3 g4 g5 y1 (by rw[<-hmem] at y2;exact y2) y3 y4 y5 y6 A nb
    have hc2:Md.QB (c.state.mem.length:Int) p c dd=true:=by rw[hmem];exact hcan
    have hs2:J9 (c.state.mem.length:Int) p c dd=Md.say N p c dd:=by rw[hmem];exact hS
    rw[<-hs2,<-hc2]
    exact this
   simp only[Zz,Y1,ZP,J4] at hsay
   have next:=ih (k+1) f (Md.say N p c dd).1 (o++[dd]) hI' (by omega) (by omega) (by simp;omega)
   rw[ZB (Bk _ _),ZA (Bk _ _)] at next
   have hrem:Q5 .rem (aI (Md.YP x 65535)) (aI d.length)=some (aI (Md.T4 x d.length:Nat)):=by
    rw[<-Md.Zo1];exact Z2k _ _ _ hdl'
   by_cases h0:o.length=0
   ·have : o = [] := List.length_eq_zero_iff.1 h0
    subst this
    simp only[eG,go_sem,Z3 S,Z2 S,zN0,zN1,zN2,zN3,zN4,zI0,zI1,zI2,zI3,reduceCtorEq,EN S,Y5,Y4,hkl',h60',Wk S,q1,q2',hmem,hD,hdl',Zv hxk,QD,hrem,Zv hdd,hsay,Bool.not_true,ZE,ZF,ZG,ZH,Z7,QP,QX,QW,QV,Option.map_some,Nat.zero_add,Nat.one_mul,Nat.zero_mul,and_self,true_and,wi k (by omega),show(0:Nat)<1 by decide]
    rw[<-hK,Z8 (on S _ _ [2,3,6,8,9,10] (by decide) rfl) rfl _ _ _ _ _ _ _ _ _ rfl]
    simp only[eG,go_sem,Z3 S,Z2 S,zN0,zN1,zN2,zN3,zN4,zI0,zI1,zI2,zI3,reduceCtorEq,EN S]
    exact next
   ·rw [ZB h0, ZA h0]
    have k1:(o.length+1)*16<=Z5:=by omega
    have k2:o.length+1<=Z5:=by omega
    simp only[eG,go_sem,Z3 S,Z2 S,zN0,zN1,zN2,zN3,zN4,zI0,zI1,zI2,zI3,reduceCtorEq,EN S,hkl',h60',Wk S,q1,q2',hmem,hD,hdl',Zv hxk,QD,hrem,Zv hdd,hsay,Bool.not_true,ZE,ZF,ZG,ZH,Z7,QP,QY,k1,k2,Option.map_some,wi k (by omega)]
    rw[<-hK,Z8 (on S _ _ [2,3,6,8,9,10] (by decide) rfl) rfl _ _ _ _ _ _ _ _ _ rfl]
    simp only[eG,go_sem,Z3 S,Z2 S,zN0,zN1,zN2,zN3,zN4,zI0,zI1,zI2,zI3,reduceCtorEq,EN S]
    rw[List.length_append,List.length_singleton] at next
    exact next
theorem Zgu (dp:Nat)(p:Prog)(hp:Md.Fine p)(N:Int)(hN:N<=1000)(s:State)(hI:Md.Inv N p (Md.G4 s))(l:List Int):
  ∃(c:Conf) (o:List Dir),Z6 E fn (dp+8) 18 [Zz p,AS s,rD l] (.tup [ZP c,rD o])/\WInv N p (Md.G4 s) c o:=by
 obtain⟨P,hP⟩:∃ P:Option DV->Prop,P=fun r=>∃(c:Conf) (o:List Dir),r=some (.tup [ZP c,rD o])/\WInv N p (Md.G4 s) c o:=⟨_,rfl⟩
 have fin:∀(c:Conf) (o:List Dir),WInv N p (Md.G4 s) c o->P (some (.tup [ZP c,rD o])):=fun c o h=>by rw[hP];exact⟨c,o,rfl,h⟩
 have key:P (Zj (Z4 E fn (dp+8) 18 [.d (Zz p),.d (AS s),.d (rD l)] [])):=by
  clear hP
  show P (Zj (Z4 E fn (dp+7+1) 18 [.d (Zz p),.d (AS s),.d (rD l)] []))
  rw[ZK,S.Z7w,ZM,Zd3,ZN _ _ _ _ _ _ _ _ rfl]
  simp only[eG,go_sem,Z3 S,Z2 S,zN0,zN1,zN2,zN3,zN4,zI0,zI1,zI2,zI3,reduceCtorEq,EN S,Zr1 S]
  rw[Y9,Z8 (on S _ _ [2,3,6,8,9,10] (by decide) rfl) rfl _ _ _ _ _ _ _ _ _ rfl]
  simp only[eG,go_sem,Z3 S,Z2 S,zN0,zN1,zN2,zN3,zN4,zI0,zI1,zI2,zI3,reduceCtorEq,EN S]
  refine Znf S dp N hN p hp (Md.G4 s) l _ P ?_ (l.take 60).length 0 _ (Md.G4 s) [] ⟨hI,trivial,rfl,by simp⟩ (by omega) (by rw[List.length_take];omega) (by simp)
  intro T c' o' t6 t8 t9 hI'
  simp only[ZP,J4] at fin
  by_cases h0:o'.length=0
  ·have e : o' = [] := List.length_eq_zero_iff.1 h0
   subst e
   rw[Y5] at t9
   rw[Y4,List.append_nil]
   simp only[eG,go_sem,Z3 S,Z2 S,zN0,zN1,zN2,zN3,zN4,zI0,zI1,zI2,zI3,reduceCtorEq,EN S,t6,t8,t9]
   exact fin c' [] hI'
  ·rw [ZB h0] at t9
   rw[ZA h0]
   have hne:o'≠[]:=fun e=>h0 (by rw[e];rfl)
   have hd:deep [.cells ((rC o').map .d) 0 false] 7 (.sref 0 0 0 o'.length 2 none)=some (.lst (rC o') o'.length none,[0]):=Cz o' hne _ rfl 5 2 none rfl
   simp only[eG,go_sem,Z3 S,Z2 S,zN0,zN1,zN2,zN3,zN4,zI0,zI1,zI2,zI3,reduceCtorEq,EN S,t6,t8,t9,hd]
   exact fin c' o' hI'
 rw[hP] at key
 obtain⟨c,o,h1,h2⟩:=key
 exact⟨c,o,h1,h2⟩
theorem Zgv (dp:Nat)(p:Prog)(hp:Md.Fine p)(N:Int)(hN:N<=1000)(s:State)(hI:Md.Inv N p (Md.G4 s))(l:List Int):
  ∃(c:Conf) (o:List Dir),Z6 E fn (dp+8) 18 [Zz p,AS s,rD l] (.tup [ZP c,rD o])/\Md.Inv N p c:=by
 obtain⟨c,o,h1,h2⟩:=Zgu S dp p hp N hN s hI l
 exact⟨c,o,h1,h2.inv⟩
end
variable {E:Env} {fn:FuncId->Option (Env->cT->cT)}
section
variable (S:Sur E fn)
include S
theorem Rj:E.lives 52 1=none:=off S 52 1 (by decide) rfl
theorem Zn7 (dp:Nat)(p:Prog)(hl:p.mems.length<1073741824)(hr:∀ m ∈ p.mems,0<=m.n/\m.n<=16)(kx:Nat->K)(kr:K):∀ m k f,k+m=p.mems.length->m<=f->
  PB (Zx E 52) (Z4 E fn dp) (Z9 8 PB (Zx E 52) (Z4 E fn dp) kx kr f) kx kr (mk .bot 21 [(1,.ref 0 0 0),(3,aI (Zk (p.mems.take k))),(4,aI k)]) [.cells ((Y1 p).map .d) 0 false]=
  kx 0 (mk .bot 21 [(9,YA false),(8,aI p.mems.length),(7,.d (rD p.mems)),(6,.ref 0 0 7),(5,aI p.mems.length),(1,.ref 0 0 0),(3,aI (Zk p.mems)),(4,aI p.mems.length)]) [.cells ((Y1 p).map .d) 0 false]:=by
 intro m
 induction m with
 | zero=>
  intro k f hk _
  obtain rfl:k=p.mems.length:=by omega
  generalize Z9 8 PB _ _ kx kr f=KK
  rw[PB,List.take_of_length_le (by omega)]
  simp only[eG,go_sem,Z3 S,Z2 S,zN0,zN1,zN2,zN3,zN4,zI0,zI1,zI2,zI3,reduceCtorEq,Rj S,Int.lt_irrefl]
 | succ m ih=>
  intro k f hk hf
  obtain⟨e,he⟩:=Q4 (show k<p.mems.length by omega)
  obtain⟨f,rfl⟩:∃ g,f=g+1:=⟨f-1,by omega⟩
  generalize hK:Z9 8 PB _ _ kx kr (f+1)=KK
  rw[PB]
  have hb:=N2 (p.mems.take k)
  have hbl:(p.mems.take k).length<=p.mems.length:=by simp;omega
  have hen:=hr e (List.mem_of_getElem? he)
  have hw:IntKind.i64.wrap (Zk (p.mems.take k)+e.n)=Zk (p.mems.take (k+1)):=by
   rw[W8 he,Int.max_eq_left hen.1,Int.min_eq_left hen.2]
   exact YY (by omega) (by omega)
  simp only[eG,go_sem,Z3 S,Z2 S,zN0,zN1,zN2,zN3,zN4,zI0,zI1,zI2,zI3,reduceCtorEq,Rj S,show(k:Int)<p.mems.length by omega,Zv he,wi k (by omega),hw]
  rw[<-hK,Z8 (on S _ _ [1,3,4] (by decide) rfl) rfl _ _ _ _ _ _ _ _ _ rfl]
  simp only[eG,go_sem,Z3 S,Z2 S,zN0,zN1,zN2,zN3,zN4,zI0,zI1,zI2,zI3,reduceCtorEq,Rj S]
  exact ih (k+1) f (by omega) (by omega)
theorem Zj2 (dp:Nat)(p:Prog)(hl:p.mems.length<1073741824)(hr:∀ m ∈ p.mems,0<=m.n/\m.n<=16):Z6 E fn (dp+1) 52 [Zz p] (vi (Zk p.mems)):=by
 unfold Z6
 show Zj (Z4 E fn (dp+1) 52 [.d (Zz p)] [])=_
 rw[ZK,S.Z9f,ZM,Zel,ZN _ _ _ _ _ _ _ _ rfl]
 simp only[eG,go_sem,Z3 S,Z2 S,zN0,zN1,zN2,zN3,zN4,zI0,zI1,zI2,zI3,reduceCtorEq,Rj S]
 rw[Y9,Z8 (on S _ _ [1,3,4] (by decide) rfl) rfl _ _ _ _ _ _ _ _ _ rfl]
 simp only[eG,go_sem,Z3 S,Z2 S,zN0,zN1,zN2,zN3,zN4,zI0,zI1,zI2,zI3,reduceCtorEq,Rj S]
 have:=fun kx kr=>Zn7 S dp p hl hr kx kr p.mems.length 0 999999999999999999999999999999 (by omega) (by omega)
 simp only[go_sem,List.take_zero,Int.cast_ofNat_Int,show Zk ([]:List MemT)=0 from rfl] at this
 rw[this]
 simp only[eG,go_sem,Z3 S,Z2 S,zN0,zN1,zN2,zN3,zN4,zI0,zI1,zI2,zI3,reduceCtorEq,Rj S]
end
def F0 (n:Int)(q:List Place):Prop:=∀ x ∈ q,(x.reg=true->0<=x.n/\x.n<4)/\(x.reg=false->0<=x.n/\x.n<n)
theorem F0.app {n:Int}{q:List Place}(h:F0 n q){x:Place}(h1:x.reg=true->0<=x.n/\x.n<4)(h2:x.reg=false->0<=x.n/\x.n<n):F0 n (q++[x]):=by
 intro y hy
 rcases List.mem_append.1 hy with hy | hy
 ·exact h y hy
 ·simp at hy;subst hy;exact⟨h1,h2⟩
def R6 (p:Prog):Nat->Nat->List Place->List Place
 | 0,_,q=>q
 | m+1,k,q=>R6 p m (k+1) (if Md.Bx p.regs k=0 then q else q++[⟨true,(k:Int),decide (Md.Bx p.regs k=2)⟩])
def R7 (s:Bool):Nat->Int->List Place->List Place
 | 0,_,q=>q
 | m+1,a,q=>R7 s m (a+1) (q++[⟨false,a,s⟩])
def SJ:List MemT->Int->List Place->List Place
 | [],_,q=>q
 | e::l,a,q=>SJ l (a+e.n) (R7 e.secret e.n.toNat a q)
def places (p:Prog):List Place:=SJ p.mems 0 (R6 p 4 0 [])
theorem Zqf (l:List MemT)(i:Nat):Zk (l.take i)<=Zk l:=by
 have h:Zk l=Zk (l.take i)+Zk (l.drop i):=by
  unfold Zk
  rw[<-List.sum_append,<-List.map_append,List.take_append_drop]
 have:=(N2 (l.drop i)).1
 omega
theorem S2 {A:List Blk}{bytes j v:Nat}{out:List Place}{a b:Bool}{n:Int}(hA:A[j]? =some (.cells ((rC out).map .d) v false))(h1:(out.length+1)*bytes<=Z5)(h2:out.length+1<=Z5):
  Q0 A 3 bytes (.sref j v 0 out.length 3 none) [.d (vb a),.d (vi n),.d (vb b)] 1=some (.turn j (.cells ((rC (out++[⟨a,n,b⟩])).map .d) (v+1) false) (.sref j (v+1) 0 (out.length+1) 3 none)):=
 S3 (x:=(⟨a,n,b⟩:Place)) hA rfl (by decide) rfl h1 h2
theorem RA (A:List Blk)(x y z:DV)(k:Option Nat):E4 A false 3 (.d (.lst [x,y,z] 1 k))=some ([.d x,.d y,.d z],1):=rfl
theorem VD {α:Type}(o:List α)(x:α):(o++[x]).length≠0:=by simp
theorem DM {α:Type} [Cl α] {l:List α}(h:l.length=0)(i:Nat):YG i l=.d (.lst [] 0 (some 0)):=by rw[List.length_eq_zero_iff.1 h];rfl
theorem DK {α:Type} [Cl α] {l:List α}(h:l.length=0):Yw l=[]:=by rw[List.length_eq_zero_iff.1 h];rfl
variable {E:Env} {fn:FuncId->Option (Env->cT->cT)}
section
variable (S:Sur E fn)
include S
theorem JH:E.lives 27 1=none/\E.lives 27 15=none:=⟨off S 27 1 (by decide) rfl,off S 27 15 (by decide) rfl⟩
theorem Zl4 (dp:Nat)(N:Int)(p:Prog)(kx:Nat->K)(P:Option DV->Prop)(Q:List Place)
  (hx:∀ T q,ZS .bot T 1=.ref 0 0 0->ZS .bot T 3=YG 1 (q:List Place)->F0 N q->q.length<=4->q=Q->P (Zj (kx 0 (mk .bot 58 T) ([.cells ((Y1 p).map .d) 0 false]++Yw q)))):
  ∀(m k f:Nat) (q:List Place),k+m=4->m<=f->F0 N q->q.length<=k->R6 p m k q=Q->
  P (Zj (KN (Zx E 27) (Z4 E fn dp) (Z9 8 KN (Zx E 27) (Z4 E fn dp) kx (ZY 0 [.tmp 2]) f) kx (ZY 0 [.tmp 2]) (mk .bot 58 [(1,.ref 0 0 0),(3,YG 1 q),(4,aI k)]) ([.cells ((Y1 p).map .d) 0 false]++Yw q))):=by
 intro m
 induction m with
 | zero=>
  intro k f q hk _ hq hl hQ
  obtain rfl:k=4:=by omega
  generalize Z9 8 KN _ _ kx _ f=KK
  first | (conv=>lhs;rw[KN]) | rw[KN]
  by_cases h0:q.length=0
  ·rw [DM h0, DK h0]
   have:=fun T a b=>hx T q a (by rw[DM h0];exact b) hq (by omega) hQ
   rw[DK h0] at this
   simp only[eG,go_sem,Z3 S,Z2 S,zN0,zN1,zN2,zN3,zN4,zI0,zI1,zI2,zI3,reduceCtorEq,JH S,Int.cast_ofNat_Int]
   exact this _ rfl rfl
  ·rw [ZB h0, ZA h0]
   have:=fun T a b=>hx T q a (by rw[ZB h0];exact b) hq (by omega) hQ
   rw[ZA h0] at this
   simp only[eG,go_sem,Z3 S,Z2 S,zN0,zN1,zN2,zN3,zN4,zI0,zI1,zI2,zI3,reduceCtorEq,JH S,Int.cast_ofNat_Int]
   exact this _ rfl rfl
 | succ m ih=>
  intro k f q hk hf hq hl hQ
  obtain⟨f,rfl⟩:∃ g,f=g+1:=⟨f-1,by omega⟩
  generalize hK:Z9 8 KN _ _ kx _ (f+1)=KK
  first | (conv=>lhs;rw[KN]) | rw[KN]
  have lim:Z5=1099511627776:=rfl
  have k1:(q.length+1)*24<=Z5:=by omega
  have k2:q.length+1<=Z5:=by omega
  have skip:=fun(h:Md.Bx p.regs k=0)=>ih (k+1) f q (by omega) (by omega) hq (by omega) (by rw[<-hQ,R6,if_pos h])
  have put:=fun(h:¬Md.Bx p.regs k=0)=>ih (k+1) f (q++[⟨true,(k:Int),decide (Md.Bx p.regs k=2)⟩]) (by omega) (by omega) (hq.app (fun _=>by constructor<;>(show _;simp only;omega)) (fun h=>by cases h)) (by simp;omega) (by rw[<-hQ,R6,if_neg h])
  simp only[ZB (VD _ _),ZA (VD _ _),List.length_append,List.length_singleton] at put
  have hk4:k=0∨k=1∨k=2∨k=3:=by omega
  have hk5:(k:Int)<4:=by omega
  have hld:BF false 1 ([AV.d (vi p.w),AV.d (vi p.window),AV.d (vi p.fuel),AV.d (vi p.regs.r0),AV.d (vi p.regs.r1),AV.d (vi p.regs.r2),AV.d (vi p.regs.r3),AV.d (rD p.mems),AV.d (rD p.labels),AV.d (rD p.ins)].drop (3+k*1))=some (.d (vi (Md.Bx p.regs k))):=by
   rcases hk4 with rfl | rfl | rfl | rfl<;>rfl
  clear hQ
  generalize Md.Bx p.regs k=r at hld skip put
  by_cases h0:q.length=0
  ·have hq0 : q = [] := List.length_eq_zero_iff.1 h0
   subst hq0
   simp only[Y5,Y4,List.append_nil] at skip ⊢
   by_cases hr:r=0
   ·simp only [eG, go_sem, Z3 S, Z2 S, zN0, zN1, zN2, zN3, zN4, zI0, zI1, zI2, zI3, reduceCtorEq, JH S, ZE, ZF, ZG, ZH, Z7, RA, S2, Option.map_some, Nat.zero_add, Nat.one_mul, Nat.zero_mul, and_self, true_and, and_true, show (0 : Nat) < 1 by decide, show (1 : Nat) * 24 <= Z5 by decide, show (24 : Nat) <= Z5 by decide, show (1 : Nat) <= Z5 by decide, Int.cast_ofNat_Int, Int.reduceToNat, Int.toNat_zero, Int.reduceMul, hld, eq_true hr, hk5, Int.natCast_nonneg, Int.toNat_natCast, wi k (by omega)]
    rw[<-hK,Z8 (on S _ _ [1,3,4] (by decide) rfl) rfl _ _ _ _ _ _ _ _ _ rfl]
    simp only[eG,go_sem,Z3 S,Z2 S,zN0,zN1,zN2,zN3,zN4,zI0,zI1,zI2,zI3,reduceCtorEq,JH S]
    exact skip hr
   ·simp only [eG, go_sem, Z3 S, Z2 S, zN0, zN1, zN2, zN3, zN4, zI0, zI1, zI2, zI3, reduceCtorEq, JH S, ZE, ZF, ZG, ZH, Z7, RA, S2, Option.map_some, Nat.zero_add, Nat.one_mul, Nat.zero_mul, and_self, true_and, and_true, show (0 : Nat) < 1 by decide, show (1 : Nat) * 24 <= Z5 by decide, show (24 : Nat) <= Z5 by decide, show (1 : Nat) <= Z5 by decide, Int.cast_ofNat_Int, Int.reduceToNat, Int.toNat_zero, Int.reduceMul, hld, hr, hk5, Int.natCast_nonneg, Int.toNat_natCast, wi k (by omega)]
    rw[<-hK,Z8 (on S _ _ [1,3,4] (by decide) rfl) rfl _ _ _ _ _ _ _ _ _ rfl]
    simp only[eG,go_sem,Z3 S,Z2 S,zN0,zN1,zN2,zN3,zN4,zI0,zI1,zI2,zI3,reduceCtorEq,JH S]
    exact put hr
  ·simp only [ZB h0, ZA h0] at skip ⊢
   by_cases hr:r=0
   ·simp only [eG, go_sem, Z3 S, Z2 S, zN0, zN1, zN2, zN3, zN4, zI0, zI1, zI2, zI3, reduceCtorEq, JH S, ZE, ZF, ZG, ZH, Z7, RA, S2, Option.map_some, Nat.zero_add, Nat.one_mul, Nat.zero_mul, and_self, true_and, and_true, show (0 : Nat) < 1 by decide, show (1 : Nat) * 24 <= Z5 by decide, show (24 : Nat) <= Z5 by decide, show (1 : Nat) <= Z5 by decide, Int.cast_ofNat_Int, Int.reduceToNat, Int.toNat_zero, Int.reduceMul, hld, eq_true hr, hk5, Int.natCast_nonneg, Int.toNat_natCast, wi k (by omega)]
    rw[<-hK,Z8 (on S _ _ [1,3,4] (by decide) rfl) rfl _ _ _ _ _ _ _ _ _ rfl]
    simp only[eG,go_sem,Z3 S,Z2 S,zN0,zN1,zN2,zN3,zN4,zI0,zI1,zI2,zI3,reduceCtorEq,JH S]
    exact skip hr
   ·simp only [eG, go_sem, Z3 S, Z2 S, zN0, zN1, zN2, zN3, zN4, zI0, zI1, zI2, zI3, reduceCtorEq, JH S, ZE, ZF, ZG, ZH, Z7, RA, S2, Option.map_some, Nat.zero_add, Nat.one_mul, Nat.zero_mul, and_self, true_and, and_true, show (0 : Nat) < 1 by decide, show (1 : Nat) * 24 <= Z5 by decide, show (24 : Nat) <= Z5 by decide, show (1 : Nat) <= Z5 by decide, Int.cast_ofNat_Int, Int.reduceToNat, Int.toNat_zero, Int.reduceMul, hld, hr, hk5, Int.natCast_nonneg, Int.toNat_natCast, wi k (by omega), k1, k2]
    rw[<-hK,Z8 (on S _ _ [1,3,4] (by decide) rfl) rfl _ _ _ _ _ _ _ _ _ rfl]
    simp only[eG,go_sem,Z3 S,Z2 S,zN0,zN1,zN2,zN3,zN4,zI0,zI1,zI2,zI3,reduceCtorEq,JH S]
    exact put hr
theorem Zl2 (dp:Nat)(p:Prog)(hms:∀ m ∈ p.mems,0<=m.n/\m.n<=16)(hml:p.mems.length<1000)(i:Nat)(e:MemT)(he:p.mems[i]? =some e)(kx:Nat->K)(P:Option DV->Prop)(Q:List Place)
  (hx:∀ T q,ZS .bot T 1=.ref 0 0 0->ZS .bot T 3=YG 1 (q:List Place)->ZS .bot T 5=aI (Zk (p.mems.take (i+1)))->ZS .bot T 6=aI i->F0 (Zk p.mems) q->(q.length:Int)<=4+Zk (p.mems.take (i+1))->q=Q->P (Zj (kx 4 (mk .bot 58 T) ([.cells ((Y1 p).map .d) 0 false]++Yw q)))):
  ∀(m k f:Nat) (q:List Place),((k+m:Nat):Int)=e.n->m<=f->F0 (Zk p.mems) q->(q.length:Int)<=4+Zk (p.mems.take i)+k->R7 e.secret m (Zk (p.mems.take i)+k) q=Q->
  P (Zj (KR (Zx E 27) (Z4 E fn dp) (Z9 26 KR (Zx E 27) (Z4 E fn dp) kx (ZY 0 [.tmp 2]) f) kx (ZY 0 [.tmp 2]) (mk .bot 58 [(1,.ref 0 0 0),(3,YG 1 q),(5,aI (Zk (p.mems.take i)+k)),(6,aI i),(7,aI k)]) ([.cells ((Y1 p).map .d) 0 false]++Yw q))):=by
 have hen:=hms e (List.mem_of_getElem? he)
 have hS:Zk (p.mems.take (i+1))=Zk (p.mems.take i)+e.n:=by rw[W8 he,Int.max_eq_left hen.1,Int.min_eq_left hen.2]
 have hS0:=N2 (p.mems.take i)
 have hSl:(p.mems.take i).length<=p.mems.length:=by simp;omega
 have hSm:=Zqf p.mems (i+1)
 have lim:Z5=1099511627776:=rfl
 intro m
 induction m with
 | zero=>
  intro k f q hk _ hq hl hQ
  have hkn:¬(k:Int)<e.n:=by omega
  have hat:Zk (p.mems.take i)+(k:Int)=Zk (p.mems.take (i+1)):=by omega
  rw[hat]
  generalize Z9 26 KR _ _ kx _ f=KK
  first | (conv=>lhs;rw[KR]) | rw[KR]
  by_cases h0:q.length=0
  ·have := fun T a b c d => hx T q a (by rw [DM h0]; exact b) c d hq (by omega) hQ
   rw[DK h0] at this
   rw[DM h0,DK h0]
   simp only[eG,go_sem,Z3 S,Z2 S,zN0,zN1,zN2,zN3,zN4,zI0,zI1,zI2,zI3,reduceCtorEq,JH S,Zv he,hkn]
   exact this _ rfl rfl rfl rfl
  ·have := fun T a b c d => hx T q a (by rw [ZB h0]; exact b) c d hq (by omega) hQ
   rw[ZA h0] at this
   rw[ZB h0,ZA h0]
   simp only[eG,go_sem,Z3 S,Z2 S,zN0,zN1,zN2,zN3,zN4,zI0,zI1,zI2,zI3,reduceCtorEq,JH S,Zv he,hkn]
   exact this _ rfl rfl rfl rfl
 | succ m ih=>
  intro k f q hk hf hq hl hQ
  obtain⟨f,rfl⟩:∃ g,f=g+1:=⟨f-1,by omega⟩
  have hkn:(k:Int)<e.n:=by omega
  generalize hK:Z9 26 KR _ _ kx _ (f+1)=KK
  first | (conv=>lhs;rw[KR]) | rw[KR]
  have k1:(q.length+1)*24<=Z5:=by omega
  have k2:q.length+1<=Z5:=by omega
  have wat:IntKind.i64.wrap (Zk (p.mems.take i)+(k:Int)+1)=Zk (p.mems.take i)+((k+1:Nat):Int):=by rw[YY (by omega) (by omega)];omega
  have put:=ih (k+1) f (q++[⟨false,Zk (p.mems.take i)+(k:Int),e.secret⟩]) (by omega) (by omega) (hq.app (fun h=>by cases h) (fun _=>by constructor<;>(show _;simp only;omega))) (by simp;omega) (by rw[<-hQ,R7];congr 1;omega)
  simp only[ZB (VD _ _),ZA (VD _ _)] at put
  rw[List.length_append,List.length_singleton] at put
  by_cases h0:q.length=0
  ·have hq0 : q = [] := List.length_eq_zero_iff.1 h0
   subst hq0
   rw[Y5,Y4,List.append_nil]
   simp only[eG,go_sem,Z3 S,Z2 S,zN0,zN1,zN2,zN3,zN4,zI0,zI1,zI2,zI3,reduceCtorEq,JH S,ZE,ZF,ZG,ZH,Z7,RA,S2,Option.map_some,Nat.zero_add,Nat.one_mul,Nat.zero_mul,and_self,true_and,and_true,show(0:Nat)<1 by decide,show(1:Nat)*24<=Z5 by decide,show(24:Nat)<=Z5 by decide,show(1:Nat)<=Z5 by decide,Int.cast_ofNat_Int,Int.reduceToNat,Int.toNat_zero,Int.reduceMul,Zv he,hkn,wi k (by omega),wat]
   rw[<-hK,Z8 (on S _ _ [1,3,5,6,7] (by decide) rfl) rfl _ _ _ _ _ _ _ _ _ rfl]
   simp only[eG,go_sem,Z3 S,Z2 S,zN0,zN1,zN2,zN3,zN4,zI0,zI1,zI2,zI3,reduceCtorEq,JH S]
   exact put
  ·rw [ZB h0, ZA h0]
   simp only[eG,go_sem,Z3 S,Z2 S,zN0,zN1,zN2,zN3,zN4,zI0,zI1,zI2,zI3,reduceCtorEq,JH S,ZE,ZF,ZG,ZH,Z7,RA,S2,Option.map_some,Nat.zero_add,Nat.one_mul,Nat.zero_mul,and_self,true_and,and_true,show(0:Nat)<1 by decide,show(1:Nat)*24<=Z5 by decide,show(24:Nat)<=Z5 by decide,show(1:Nat)<=Z5 by decide,Int.cast_ofNat_Int,Int.reduceToNat,Int.toNat_zero,Int.reduceMul,Zv he,hkn,wi k (by omega),wat,k1,k2]
   rw[<-hK,Z8 (on S _ _ [1,3,5,6,7] (by decide) rfl) rfl _ _ _ _ _ _ _ _ _ rfl]
   simp only[eG,go_sem,Z3 S,Z2 S,zN0,zN1,zN2,zN3,zN4,zI0,zI1,zI2,zI3,reduceCtorEq,JH S]
   exact put
theorem Zl3 (dp:Nat)(p:Prog)(hms:∀ m ∈ p.mems,0<=m.n/\m.n<=16)(hml:p.mems.length<1000)(kx:Nat->K)(P:Option DV->Prop)(Q:List Place)
  (hx:∀ T q,ZS .bot T 3=YG 1 (q:List Place)->F0 (Zk p.mems) q->q.length<=20000->q=Q->P (Zj (kx 2 (mk .bot 58 T) ([.cells ((Y1 p).map .d) 0 false]++Yw q)))):
  ∀(m i f:Nat) (q:List Place),i+m=p.mems.length->m<=f->F0 (Zk p.mems) q->(q.length:Int)<=4+Zk (p.mems.take i)->SJ (p.mems.drop i) (Zk (p.mems.take i)) q=Q->
  P (Zj (KS (Zx E 27) (Z4 E fn dp) (Z9 20 KS (Zx E 27) (Z4 E fn dp) kx (ZY 0 [.tmp 2]) f) kx (ZY 0 [.tmp 2]) (mk .bot 58 [(1,.ref 0 0 0),(3,YG 1 q),(5,aI (Zk (p.mems.take i))),(6,aI i)]) ([.cells ((Y1 p).map .d) 0 false]++Yw q))):=by
 intro m
 induction m with
 | zero=>
  intro i f q hk _ hq hl hQ
  rw[List.drop_of_length_le (by omega)] at hQ
  have hb:=N2 (p.mems.take i)
  have hbl:(p.mems.take i).length<=p.mems.length:=by simp;omega
  have hin:¬(i:Int)<p.mems.length:=by omega
  generalize Z9 20 KS _ _ kx _ f=KK
  first | (conv=>lhs;rw[KS]) | rw[KS]
  by_cases h0:q.length=0
  ·have := fun T b => hx T q (by rw [DM h0]; exact b) hq (by omega) hQ
   rw[DK h0] at this
   rw[DM h0,DK h0]
   simp only[eG,go_sem,Z3 S,Z2 S,zN0,zN1,zN2,zN3,zN4,zI0,zI1,zI2,zI3,reduceCtorEq,JH S,hin]
   exact this _ rfl
  ·have := fun T b => hx T q (by rw [ZB h0]; exact b) hq (by omega) hQ
   rw[ZA h0] at this
   rw[ZB h0,ZA h0]
   simp only[eG,go_sem,Z3 S,Z2 S,zN0,zN1,zN2,zN3,zN4,zI0,zI1,zI2,zI3,reduceCtorEq,JH S,hin]
   exact this _ rfl
 | succ m ih=>
  intro i f q hk hf hq hl hQ
  obtain⟨e,he⟩:=Q4 (show i<p.mems.length by omega)
  obtain⟨f,rfl⟩:∃ g,f=g+1:=⟨f-1,by omega⟩
  have hin:(i:Int)<p.mems.length:=by omega
  have hen:=hms e (List.mem_of_getElem? he)
  generalize hK:Z9 20 KS _ _ kx _ (f+1)=KK
  first | (conv=>lhs;rw[KS]) | rw[KS]
  have hS:Zk (p.mems.take (i+1))=Zk (p.mems.take i)+e.n:=by rw[W8 he,Int.max_eq_left hen.1,Int.min_eq_left hen.2]
  have hQ':SJ (p.mems.drop (i+1)) (Zk (p.mems.take (i+1))) (R7 e.secret e.n.toNat (Zk (p.mems.take i)) q)=Q:=by rw[<-hQ,CM he,SJ,hS]
  have inner:=fun(kx':Nat->K) hx'=>Zl2 S dp p hms hml i e he kx' P (R7 e.secret e.n.toNat (Zk (p.mems.take i)) q) hx' e.n.toNat 0 999999999999999999999999999999 q (by omega) (by omega) hq (by omega) (by simp)
  by_cases h0:q.length=0
  ·rw [DM h0, DK h0]
   simp only[DM h0,DK h0,Int.cast_ofNat_Int,Int.add_zero] at inner
   simp only[eG,go_sem,Z3 S,Z2 S,zN0,zN1,zN2,zN3,zN4,zI0,zI1,zI2,zI3,reduceCtorEq,JH S,hin]
   rw[Y9,Z8 (on S _ _ [1,3,5,6,7] (by decide) rfl) rfl _ _ _ _ _ _ _ _ _ rfl]
   simp only[eG,go_sem,Z3 S,Z2 S,zN0,zN1,zN2,zN3,zN4,zI0,zI1,zI2,zI3,reduceCtorEq,JH S]
   refine inner _ ?_
   intro T q' t1 t3 t5 t6 hq' hl' hQq
   have next:=ih (i+1) f q' (by omega) (by omega) hq' hl' (by rw[hQq];exact hQ')
   by_cases h1:q'.length=0
   ·rw [DM h1] at t3
    rw[DK h1]
    rw[DM h1,DK h1] at next
    simp only[eG,go_sem,Z3 S,Z2 S,zN0,zN1,zN2,zN3,zN4,zI0,zI1,zI2,zI3,reduceCtorEq,JH S,t1,t3,t5,t6,wi i (by omega)]
    rw[<-hK,Z8 (on S _ _ [1,3,5,6] (by decide) rfl) rfl _ _ _ _ _ _ _ _ _ rfl]
    simp only[eG,go_sem,Z3 S,Z2 S,zN0,zN1,zN2,zN3,zN4,zI0,zI1,zI2,zI3,reduceCtorEq,JH S,t1,t3,t5,t6]
    exact next
   ·rw [ZB h1] at t3
    rw[ZA h1]
    rw[ZB h1,ZA h1] at next
    simp only[eG,go_sem,Z3 S,Z2 S,zN0,zN1,zN2,zN3,zN4,zI0,zI1,zI2,zI3,reduceCtorEq,JH S,t1,t3,t5,t6,wi i (by omega)]
    rw[<-hK,Z8 (on S _ _ [1,3,5,6] (by decide) rfl) rfl _ _ _ _ _ _ _ _ _ rfl]
    simp only[eG,go_sem,Z3 S,Z2 S,zN0,zN1,zN2,zN3,zN4,zI0,zI1,zI2,zI3,reduceCtorEq,JH S,t1,t3,t5,t6]
    exact next
  ·rw [ZB h0, ZA h0]
   simp only[ZB h0,ZA h0,Int.cast_ofNat_Int,Int.add_zero] at inner
   simp only[eG,go_sem,Z3 S,Z2 S,zN0,zN1,zN2,zN3,zN4,zI0,zI1,zI2,zI3,reduceCtorEq,JH S,hin]
   rw[Y9,Z8 (on S _ _ [1,3,5,6,7] (by decide) rfl) rfl _ _ _ _ _ _ _ _ _ rfl]
   simp only[eG,go_sem,Z3 S,Z2 S,zN0,zN1,zN2,zN3,zN4,zI0,zI1,zI2,zI3,reduceCtorEq,JH S]
   refine inner _ ?_
   intro T q' t1 t3 t5 t6 hq' hl' hQq
   have next:=ih (i+1) f q' (by omega) (by omega) hq' hl' (by rw[hQq];exact hQ')
   by_cases h1:q'.length=0
   ·rw [DM h1] at t3
    rw[DK h1]
    rw[DM h1,DK h1] at next
    simp only[eG,go_sem,Z3 S,Z2 S,zN0,zN1,zN2,zN3,zN4,zI0,zI1,zI2,zI3,reduceCtorEq,JH S,t1,t3,t5,t6,wi i (by omega)]
    rw[<-hK,Z8 (on S _ _ [1,3,5,6] (by decide) rfl) rfl _ _ _ _ _ _ _ _ _ rfl]
    simp only[eG,go_sem,Z3 S,Z2 S,zN0,zN1,zN2,zN3,zN4,zI0,zI1,zI2,zI3,reduceCtorEq,JH S,t1,t3,t5,t6]
    exact next
   ·rw [ZB h1] at t3
    rw[ZA h1]
    rw[ZB h1,ZA h1] at next
    simp only[eG,go_sem,Z3 S,Z2 S,zN0,zN1,zN2,zN3,zN4,zI0,zI1,zI2,zI3,reduceCtorEq,JH S,t1,t3,t5,t6,wi i (by omega)]
    rw[<-hK,Z8 (on S _ _ [1,3,5,6] (by decide) rfl) rfl _ _ _ _ _ _ _ _ _ rfl]
    simp only[eG,go_sem,Z3 S,Z2 S,zN0,zN1,zN2,zN3,zN4,zI0,zI1,zI2,zI3,reduceCtorEq,JH S,t1,t3,t5,t6]
    exact next
end
theorem Zh3 (n:Nat):rep [zi] n=(rC (List.replicate n (0:Int))).map .d:=by
 induction n with
 | zero=>rfl
 | succ n ih=>show zi::rep [zi] n=_;rw[ih];rfl
theorem Z5u (n nb:Nat)(h:n<=100000):VJ [zi] 1 8 nb (aI n) (aI n)=some (.made (.sref nb 0 0 n 1 (some n)) [.cells ((rC (List.replicate n (0:Int))).map .d) 0 false]):=by
 have lim:Z5=1099511627776:=rfl
 show(if(0:Int)<=n/\(n:Int)<=n/\8*(n:Int)<=Z5/\(n:Int)<=Z5 then some (Done.made (.sref nb 0 0 (n:Int).toNat 1 (some (n:Int).toNat)) [.cells (rep [zi] (n:Int).toNat) 0 false]) else none)=_
 rw[if_pos (by omega),Int.toNat_natCast,Zh3]
theorem Z59 (E:Env)(call:cT)(tm:List AV)(A:List Blk)(nb:Nat)(z:List AV)(s bytes:Nat)(l c:Opd):NN z s bytes l c E call tm A nb=VJ z s bytes nb (look tm l) (look tm c):=id rfl
structure SOk (N:Int) (s:State):Prop where
 mem:(s.mem.length:Int)=N
 mv:∀ x ∈ s.mem,0<=x
 rg:0<=s.regs.r0/\0<=s.regs.r1/\0<=s.regs.r2/\0<=s.regs.r3
 stk:s.stack=[]
 pc:s.pc=0
variable {E:Env} {fn:FuncId->Option (Env->cT->cT)}
section
variable (S:Sur E fn)
include S
theorem Hj:E.lives 27 1=none/\E.lives 27 15=none:=⟨off S 27 1 (by decide) rfl,off S 27 15 (by decide) rfl⟩
theorem K6:E.lives 28 1=none/\E.lives 28 9=none/\E.lives 28 23=none:=⟨off S 28 1 (by decide) rfl,off S 28 9 (by decide) rfl,off S 28 23 (by decide) rfl⟩
theorem Z3z (dp:Nat)(p:Prog)(hms:∀ m ∈ p.mems,0<=m.n/\m.n<=16)(hml:p.mems.length<1000):Z6 E fn (dp+1) 27 [Zz p] (rD (places p))/\F0 (Zk p.mems) (places p)/\(places p).length<=20000:=by
 obtain⟨P,hP⟩:∃ P:Option DV->Prop,P=fun o=>o=some (rD (places p))/\F0 (Zk p.mems) (places p)/\(places p).length<=20000:=⟨_,rfl⟩
 have fin:∀ q:List Place,F0 (Zk p.mems) q->q.length<=20000->q=places p->P (some (rD q)):=fun q h1 h2 h3=>by subst h3;rw[hP];exact⟨rfl,h1,h2⟩
 have key:P (Zj (Z4 E fn (dp+1) 27 [.d (Zz p)] [])):=by
  clear hP
  rw[ZK,S.Z9c,ZM,Zei,ZN _ _ _ _ _ _ _ _ rfl]
  simp only[eG,go_sem,Z3 S,Z2 S,zN0,zN1,zN2,zN3,zN4,zI0,zI1,zI2,zI3,reduceCtorEq,Hj S]
  rw[Y9,Z8 (on S _ _ [1,3,4] (by decide) rfl) rfl _ _ _ _ _ _ _ _ _ rfl]
  simp only[eG,go_sem,Z3 S,Z2 S,zN0,zN1,zN2,zN3,zN4,zI0,zI1,zI2,zI3,reduceCtorEq,Hj S]
  refine Zl4 S dp (Zk p.mems) p _ P (R6 p 4 0 []) ?_ 4 0 _ [] (by omega) (by omega) (by intro x hx;cases hx) (by simp) rfl
  intro T q t1 t3 hq hl hQ
  have next:=fun(kx:Nat->K) hx=>Zl3 S dp p hms hml kx P (places p) hx p.mems.length 0 999999999999999999999999999999 q (by omega) (by omega) hq (by simp[Zk];omega) (by rw[hQ];rfl)
  have e0:Zk (p.mems.take 0)=0:=rfl
  rw[e0] at next
  by_cases h0:q.length=0
  ·rw [DM h0] at t3
   rw[DK h0]
   simp only[DM h0,DK h0] at next
   simp only[eG,go_sem,Z3 S,Z2 S,zN0,zN1,zN2,zN3,zN4,zI0,zI1,zI2,zI3,reduceCtorEq,Hj S,t1,t3]
   rw[Y9,Z8 (on S _ _ [1,3,5,6] (by decide) rfl) rfl _ _ _ _ _ _ _ _ _ rfl]
   simp only[eG,go_sem,Z3 S,Z2 S,zN0,zN1,zN2,zN3,zN4,zI0,zI1,zI2,zI3,reduceCtorEq,Hj S,t1,t3]
   refine next _ ?_
   intro T q' t3 hq' hl' hQ'
   by_cases h1:q'.length=0
   ·rw [DM h1] at t3
    rw[DK h1]
    simp only[eG,go_sem,Z3 S,Z2 S,zN0,zN1,zN2,zN3,zN4,zI0,zI1,zI2,zI3,reduceCtorEq,Hj S,t3]
    have e:q'=[]:=List.length_eq_zero_iff.1 h1
    subst e
    exact fin [] hq' hl' hQ'
   ·rw [ZB h1] at t3
    rw[ZA h1]
    have hne:q'≠[]:=fun e=>h1 (by rw[e];rfl)
    have hd:deep [.cells ((rC q').map .d) 0 false] 8 (.sref 0 0 0 q'.length 3 none)=some (.lst (rC q') q'.length none,[0]):=Cz q' hne _ rfl 6 3 none rfl
    simp only[eG,go_sem,Z3 S,Z2 S,zN0,zN1,zN2,zN3,zN4,zI0,zI1,zI2,zI3,reduceCtorEq,Hj S,t3,hd]
    exact fin q' hq' hl' hQ'
  ·rw [ZB h0] at t3
   rw[ZA h0]
   simp only[ZB h0,ZA h0] at next
   simp only[eG,go_sem,Z3 S,Z2 S,zN0,zN1,zN2,zN3,zN4,zI0,zI1,zI2,zI3,reduceCtorEq,Hj S,t1,t3]
   rw[Y9,Z8 (on S _ _ [1,3,5,6] (by decide) rfl) rfl _ _ _ _ _ _ _ _ _ rfl]
   simp only[eG,go_sem,Z3 S,Z2 S,zN0,zN1,zN2,zN3,zN4,zI0,zI1,zI2,zI3,reduceCtorEq,Hj S,t1,t3]
   refine next _ ?_
   intro T q' t3 hq' hl' hQ'
   by_cases h1:q'.length=0
   ·rw [DM h1] at t3
    rw[DK h1]
    simp only[eG,go_sem,Z3 S,Z2 S,zN0,zN1,zN2,zN3,zN4,zI0,zI1,zI2,zI3,reduceCtorEq,Hj S,t3]
    have e:q'=[]:=List.length_eq_zero_iff.1 h1
    subst e
    exact fin [] hq' hl' hQ'
   ·rw [ZB h1] at t3
    rw[ZA h1]
    have hne:q'≠[]:=fun e=>h1 (by rw[e];rfl)
    have hd:deep [.cells ((rC q').map .d) 0 false] 8 (.sref 0 0 0 q'.length 3 none)=some (.lst (rC q') q'.length none,[0]):=Cz q' hne _ rfl 6 3 none rfl
    simp only[eG,go_sem,Z3 S,Z2 S,zN0,zN1,zN2,zN3,zN4,zI0,zI1,zI2,zI3,reduceCtorEq,Hj S,t3,hd]
    exact fin q' hq' hl' hQ'
 rw[hP] at key
 exact key
def Sq:Blk:=.cells [zi,zi,zi,zi,zn,zn,zi] 0 false
def Sx (rg:Regs)(n:Nat):Blk:=.cells [.d (vi rg.r0),.d (vi rg.r1),.d (vi rg.r2),.d (vi rg.r3),.sref 3 0 0 n 1 (some n),zn,zi] 0 false
theorem Zg3 (dp:Nat)(p:Prog)(q:List Place)(n:Nat)(hq:F0 n q)(hql:q.length<=20000)(l:List Int)(hll:l.length=q.length)(kx:Nat->K)(P:Option DV->Prop)
  (hx:∀ T rg mem,ZS .bot T 4=.ref 1 0 0->ZS .bot T 7=.ref 2 0 0->(mem:List Int).length=n->(∀ x ∈ mem,0<=x)->(0<=rg.r0/\0<=rg.r1/\0<=rg.r2/\0<=rg.r3)->P (Zj (kx 0 (mk .bot 58 T) [.cells ((Y1 p).map .d) 0 false,Sq,Sx rg n,.cells ((rC mem).map .d) 0 false]))):
  ∀(m k f:Nat) (rg:Regs) (mem:List Int),k+m=q.length->m<=f->mem.length=n->(∀ x ∈ mem,0<=x)->(0<=rg.r0/\0<=rg.r1/\0<=rg.r2/\0<=rg.r3)->
  P (Zj (KT (Zx E 28) (Z4 E fn (dp+3)) (Z9 14 KT (Zx E 28) (Z4 E fn (dp+3)) kx (ZY 0 [.cell 4 true 7,.tmp 5]) f) kx (ZY 0 [.cell 4 true 7,.tmp 5]) (mk .bot 58 [(1,.d (rD l)),(2,.ref 0 0 0),(4,.ref 1 0 0),(6,.d (rD q)),(7,.ref 2 0 0),(8,aI k)]) [.cells ((Y1 p).map .d) 0 false,Sq,Sx rg n,.cells ((rC mem).map .d) 0 false])):=by
 intro m
 induction m with
 | zero=>
  intro k f rg mem hk _ hm hv hr
  have hkq:¬(k:Int)<q.length:=by omega
  generalize Z9 14 KT _ _ kx _ f=KK
  first | (conv=>lhs;rw[KT]) | rw[KT]
  simp only[eG,go_sem,Z3 S,Z2 S,zN0,zN1,zN2,zN3,zN4,zI0,zI1,zI2,zI3,reduceCtorEq,K6 S,hkq]
  exact hx _ rg mem rfl rfl hm hv hr
 | succ m ih=>
  intro k f rg mem hk hf hm hv hr
  obtain⟨x,hxq⟩:=Q4 (show k<q.length by omega)
  obtain⟨y,hyl⟩:=Q4 (show k<l.length by omega)
  obtain⟨f,rfl⟩:∃ g,f=g+1:=⟨f-1,by omega⟩
  have hkq:(k:Int)<q.length:=by omega
  have hx1:=hq x (List.mem_of_getElem? hxq)
  have hy0:=Md.P1 p.w y
  have next:=fun rg' mem' h1 h2 h3=>ih (k+1) f rg' mem' (by omega) (by omega) h1 h2 h3
  generalize hK:Z9 14 KT _ _ kx _ (f+1)=KK
  first | (conv=>lhs;rw[KT]) | rw[KT]
  unfold Sq Sx
  unfold Sq Sx at next
  cases hreg:x.reg with
  | true=>
   obtain⟨a0,a1⟩:=hx1.1 hreg
   have hst:∀(A:List Blk) (v:Int) (m s q:AV),storeAt A 2 0 (x.n.toNat*1) [.d (vi v)] 1 (some (.cells [.d (vi rg.r0),.d (vi rg.r1),.d (vi rg.r2),.d (vi rg.r3),m,s,q] 0 false))=some (A.set 2 (.cells [.d (vi (Md.CE rg x.n v).r0),.d (vi (Md.CE rg x.n v).r1),.d (vi (Md.CE rg x.n v).r2),.d (vi (Md.CE rg x.n v).r3),m,s,q] 0 false)):=fun A v m s q=>by
    have d4:x.n=0∨x.n=1∨x.n=2∨x.n=3:=by omega
    rcases d4 with d | d | d | d<;>rw[d]<;>rfl
   simp only[eG,go_sem,Z3 S,Z2 S,zN0,zN1,zN2,zN3,zN4,zI0,zI1,zI2,zI3,reduceCtorEq,K6 S,hkq,Zv hyl,Zv hxq,AG S,hreg,a0,a1,hst,Int.cast_ofNat_Int,true_and,and_self,if_true,Nat.zero_add,wi k (by omega)]
   rw[<-hK,Z8 (on S _ _ [1,2,4,6,7,8] (by decide) rfl) rfl _ _ _ _ _ _ _ _ _ rfl]
   simp only[eG,go_sem,Z3 S,Z2 S,zN0,zN1,zN2,zN3,zN4,zI0,zI1,zI2,zI3,reduceCtorEq,K6 S]
   exact next (Md.CE rg x.n (Md.Y2 p.w y)) mem hm hv (Md.Z3u hr x.n hy0)
  | false=>
   obtain⟨a0,a1⟩:=hx1.2 hreg
   have a2:x.n.toNat<mem.length:=by omega
   have hst:∀(A:List Blk) (j:Nat) (v:Int),storeAt A j 0 (x.n.toNat*1) [.d (vi v)] 1 (some (.cells ((rC mem).map .d) 0 false))=some (A.set j (.cells ((rC (mem.set x.n.toNat v)).map .d) 0 false)):=fun A j v=>
    M6 (o:=0) (e':=v) [vi v] (List.getElem?_eq_getElem a2) rfl rfl rfl rfl (by show 0+1<=1;decide) 1 rfl _ rfl
   simp only[eG,go_sem,Z3 S,Z2 S,zN0,zN1,zN2,zN3,zN4,zI0,zI1,zI2,zI3,reduceCtorEq,K6 S,hkq,Zv hyl,Zv hxq,AG S,hreg,a0,a1,hst,Int.cast_ofNat_Int,true_and,and_self,if_true,Nat.zero_add,wi k (by omega)]
   rw[<-hK,Z8 (on S _ _ [1,2,4,6,7,8] (by decide) rfl) rfl _ _ _ _ _ _ _ _ _ rfl]
   simp only[eG,go_sem,Z3 S,Z2 S,zN0,zN1,zN2,zN3,zN4,zI0,zI1,zI2,zI3,reduceCtorEq,K6 S]
   exact next rg (mem.set x.n.toNat (Md.Y2 p.w y)) (by rw[List.length_set];exact hm) (fun z hz=>by
    rcases List.mem_or_eq_of_mem_set hz with hz | rfl
    ·exact hv z hz
    ·exact hy0) hr
theorem Z3y (dp:Nat)(p:Prog)(hms:∀ m ∈ p.mems,0<=m.n/\m.n<=16)(hml:p.mems.length<1000)(q:List Place)(hsq:Z6 E fn (dp+3) 27 [Zz p] (rD q))(hq:F0 (Zk p.mems) q)(hql:q.length<=20000)(l:List Int)(hll:l.length=q.length):
  ∃ s:State,Z6 E fn (dp+4) 28 [Zz p,rD l] (.tup [AS s,vb true])/\SOk (Zk p.mems) s:=by
 have hcl:=N2 p.mems
 obtain⟨n,hn⟩:=Int.eq_ofNat_of_zero_le hcl.1
 have hn1:n<=100000:=by omega
 rw[hn] at hq ⊢
 obtain⟨P,hP⟩:∃ P:Option DV->Prop,P=fun o=>∃ s:State,o=some (.tup [AS s,vb true])/\SOk n s:=⟨_,rfl⟩
 have fin:∀ s:State,SOk n s->P (some (.tup [AS s,vb true])):=fun s h=>by rw[hP];exact⟨s,rfl,h⟩
 have cP:=fun(A:List Blk) (nb:Nat)=>Z6.deep hsq (np S 27 (by decide)) A nb
 simp only[Zz,Y1] at cP
 have hml':p.mems.length<1073741824:=by omega
 have cC:=fun(A:List Blk) (nb:Nat) (us:List Nat)=>Z6.flat (Zj2 S (dp+2) p hml' hms) (np S 52 (by decide)) rfl A nb us
 simp only[Zz,Y1,hn] at cC
 have key:P (Zj (Z4 E fn (dp+4) 28 [.d (Zz p),.d (rD l)] [])):=by
  clear hP
  show P (Zj (Z4 E fn (dp+3+1) 28 [.d (Zz p),.d (rD l)] []))
  rw[ZK,S.Z9b,ZM,Zeh,ZN _ _ _ _ _ _ _ _ rfl]
  simp only[eG,go_sem,Z3 S,Z2 S,zN0,zN1,zN2,zN3,zN4,zI0,zI1,zI2,zI3,reduceCtorEq,K6 S,cP,hll,cC,Z59,Z5u n _ hn1,ne_eq,not_true_eq_false]
  rw[Y9,Z8 (on S _ _ [1,2,4,6,7,8] (by decide) rfl) rfl _ _ _ _ _ _ _ _ _ rfl]
  simp only[eG,go_sem,Z3 S,Z2 S,zN0,zN1,zN2,zN3,zN4,zI0,zI1,zI2,zI3,reduceCtorEq,K6 S]
  refine Zg3 S dp p q n hq hql l hll _ P ?_ q.length 0 _ ⟨0,0,0,0⟩ (List.replicate n 0) (by omega) (by omega) (by simp) (fun x hx=>by rw[List.eq_of_mem_replicate hx];exact Int.le_refl _) ⟨Int.le_refl _,Int.le_refl _,Int.le_refl _,Int.le_refl _⟩
  intro T rg mem t4 t7 hm hv hr
  unfold Sq Sx
  have hl1:n*1<=((rC mem).map AV.d).length:=by rw[List.length_map,QN,hm];exact Nat.le_refl _
  have ht1:∀(A:List Blk) (m:Nat),YM (deep A (m+1)) (((rC mem).map AV.d).take (n*1))=some (rC mem,[]):=fun A m=>by
   rw[List.take_of_length_le (by rw[List.length_map,QN,hm];exact Nat.le_refl _),Hx]
  by_cases n0:n=0
  ·have e : mem = [] := List.length_eq_zero_iff.1 (by omega)
   subst e
   simp only[eG,go_sem,Z3 S,Z2 S,zN0,zN1,zN2,zN3,zN4,zI0,zI1,zI2,zI3,reduceCtorEq,K6 S,t4,t7,Yk,n0]
   exact fin ⟨rg,[],[],0⟩ ⟨by simp[n0],hv,hr,rfl,rfl⟩
  ·simp only [eG, go_sem, Z3 S, Z2 S, zN0, zN1, zN2, zN3, zN4, zI0, zI1, zI2, zI3, reduceCtorEq, K6 S, t4, t7, Yk, n0, hl1, ht1, Option.bind_some, Option.map_some]
   have hf:DV.lst (rC mem) n none=rD mem:=by unfold rD;rw[hm]
   rw[hf]
   exact fin ⟨rg,mem,[],0⟩ ⟨by simp[hm],hv,hr,rfl,rfl⟩
 rw[hP] at key
 obtain⟨s,h1,h2⟩:=key
 exact⟨s,h1,h2⟩
end
end Go.Aug.Mc
