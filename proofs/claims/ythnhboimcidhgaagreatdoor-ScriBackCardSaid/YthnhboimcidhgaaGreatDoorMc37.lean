import Derived.Test.YthnhboimcidhgaaGreatDoorMc36
import Derived.Test.YthnhboimcidhgaaGreatDoorMl
import Derived.Test.YthnhboimcidhgaaGreatDoorEvP
import Derived.Test.YthnhboimcidhgaaGreatDoorEvPc
import Derived.Test.YthnhboimcidhgaaGreatDoorMc14
import Derived.Test.YthnhboimcidhgaaGreatDoorBr
namespace Go.Aug.Md
open Go Go.Aug
set_option linter.unusedSimpArgs false
set_option linter.unusedVariables false
def Kept (c:Conf)(k:Nat)(R:Conf×List Obs):Prop:=
 ∃(px:Int) (bx:List Ent) (o:List Obs),R=(⟨⟨c.state.regs,c.state.mem,c.state.stack,px⟩,bx,c.rsb,0⟩,o)/\k<bx.length/\bx.length<=c.buf.length/\o.length<=1/\bx.take k=c.buf.take k/\
  (bx.length=c.buf.length->k+1<c.buf.length->px=c.state.pc)/\(bx.length<c.buf.length->k+1<bx.length->∃ e,c.buf[bx.length]? =some e/\px=e.pc)
section
variable {N:Int} {p:Prog} {c:Conf} {k:Nat}
theorem XX {l:List Ent}{k:Nat}{e:Ent}:(l.set k e).take k=l.take k:=List.take_set_of_le (Nat.le_refl _)
theorem HR (hend:c.end_=0)(hk:k<c.buf.length)(e:Ent)(o:List Obs)(ho:o.length<=1):Kept c k (put c (k:Int) e,o):=by
 refine⟨c.state.pc,c.buf.set k e,o,?_,by simpa using hk,by simp,ho,XX,fun _ _=>rfl,fun h=>by simp at h⟩
 unfold put
 rw[Int.toNat_natCast,<-hend]
theorem Z1n (hend:c.end_=0)(hk:k<c.buf.length)(e:Ent)(to:Int):Kept c k (B0 c (k:Int) e to):=by
 unfold B0
 split
 ·exact HR hend hk _ _ (by simp)
 ·refine ⟨to, (c.buf.set k { e with done := true, next := to }).take (k + 1), [⟨3, to⟩], ?_, by rw [List.length_take, List.length_set]; omega, by rw [List.length_take, List.length_set]; omega, Nat.le_refl 1, ?_, fun h1 h2 => ?_, fun h1 h2 => ?_⟩
  ·rw[Int.toNat_natCast,<-hend]
  ·rw[List.take_take,Nat.min_eq_left (by omega)];exact XX
  ·rw[List.length_take,List.length_set] at h1;omega
  ·rw[List.length_take,List.length_set] at h2;omega
theorem Zoz (hk:k<c.buf.length)(hc:can N p c (k:Int)=true):Kept c k (JU N p c (k:Int)):=by
 have hend:c.end_=0:=by
  simp only[can,Bool.and_eq_true] at hc
  exact(HF hc.1.1).1
 unfold JU
 generalize ZP c.buf (k:Int)=e
 generalize Yk p c (k:Int)=x
 unfold QQ
 split
 ·exact HR hend hk _ _ (by simp)
 split
 ·exact HR hend hk _ _ (by simp)
 split
 ·exact HR hend hk _ _ (by simp)
 split
 ·split
  ·exact HR hend hk _ _ (by simp)
  ·exact HR hend hk _ _ (by simp)
 split
 ·exact Z1n hend hk _ _
 split
 ·exact Z1n hend hk _ _
 split
 ·split
  ·exact HR hend hk _ _ (by simp)
  ·split
   ·exact HR hend hk _ _ (by simp)
   ·exact Z1n hend hk _ _
 ·exact HR hend hk _ _ (by simp)
theorem Zp0 (hk:k<c.buf.length)(hc:Q8 p c (k:Int)=true):Kept c k (EG N p c (k:Int)):=by
 have hend:c.end_=0:=by
  simp only[Q8,Bool.and_eq_true] at hc
  exact(HF hc.1.1.1.1).1
 unfold EG
 generalize ZP c.buf (k:Int)=e
 generalize QU p c (k:Int)=ad
 unfold M2
 split
 ·exact HR hend hk _ _ (by simp)
 ·rw [Int.toNat_natCast]
  generalize hL:c.buf.set k { e with addr:=ad,known:=true,fault:=false }=L
  have hLl:L.length=c.buf.length:=by rw[<-hL];exact List.length_set
  have hLt:L.take k=c.buf.take k:=by rw[<-hL];exact XX
  unfold Nz
  cases hz:(J9 p L (k:Int) ad).2 with
  | false=>
   refine⟨c.state.pc,L,[⟨2,ad⟩],?_,by omega,by omega,Nat.le_refl 1,hLt,fun _ _=>rfl,fun h=>by omega⟩
   simp only[cond_false]
   rw[<-hend]
  | true=>
   obtain⟨z1,z2⟩:=Z88 hz (by omega) (by omega)
   simp only[cond_true]
   generalize (J9 p L (k:Int) ad).1=z at *
   obtain⟨e2,he2⟩:∃ e,L[z.toNat]? =some e:=⟨_,List.getElem?_eq_getElem (by omega)⟩
   have he3:ZP L z=e2:=by unfold ZP;rw[he2];rfl
   have he4:c.buf[z.toNat]? =some e2:=by
    rw[<-hL,List.getElem?_set_ne (by omega)] at he2;exact he2
   have hlen:(L.take z.toNat).length=z.toNat:=by rw[List.length_take];omega
   refine⟨e2.pc,L.take z.toNat,[⟨2,ad⟩],?_,by omega,by omega,Nat.le_refl 1,?_,fun h1 h2=>by omega,fun h1 h2=>⟨e2,by rw[hlen];exact he4,rfl⟩⟩
   ·rw[he3,<-hend]
   ·rw[List.take_take,Nat.min_eq_left (by omega)];exact hLt
end
end Go.Aug.Md
namespace Go.Aug.Md
open Go Go.Aug
set_option linter.unusedSimpArgs false
set_option linter.unusedVariables false
section
variable {N:Int} {p:Prog} {c:Conf}
theorem Z51 (d:Dir)(hc:Q0 N p c d=true):(say N p c d).2.length<=1:=by
 unfold Q0 at hc
 unfold say
 split at hc
 ·rename_i h1;rw[if_pos h1];exact Nat.zero_le _
 rename_i h1;rw[if_neg h1]
 split at hc
 ·rename_i h2; rw [if_pos h2]
  have ho:QE p c d.n=true:=by
   simp only[can,Bool.and_eq_true] at hc;exact hc.1.1
  obtain⟨_,k,hk,hg⟩:=HF ho
  have hlt:=(List.getElem?_eq_some_iff.1 hg).1
  rw[hk] at hc ⊢
  obtain⟨px,bx,ob,hR,_,_,f5,_⟩:=Zoz hlt hc
  rw[hR]
  exact f5
 rename_i h2;rw[if_neg h2]
 split at hc
 ·rename_i h3; rw [if_pos h3]
  have ho:QE p c d.n=true:=by
   simp only[Q8,Bool.and_eq_true] at hc;exact hc.1.1.1.1
  obtain⟨_,k,hk,hg⟩:=HF ho
  have hlt:=(List.getElem?_eq_some_iff.1 hg).1
  rw[hk] at hc ⊢
  obtain⟨px,bx,ob,hR,_,_,f5,_⟩:=Zp0 (N:=N) hlt hc
  rw[hR]
  exact f5
 ·rename_i h3;rw[if_neg h3];exact Nat.zero_le _
end
end Go.Aug.Md
namespace Go.Aug.Mc
open Go Go.Aug
set_option linter.unusedSimpArgs false
set_option linter.unusedVariables false
set_option maxHeartbeats 40000000
set_option maxRecDepth 200000
def SQ (N:Int)(p:Prog)(a b:Conf)(d:Dir):Bool:=(Md.Q0 N p a d==Md.Q0 N p b d)&&decide ((A6 N p a d).2=(A6 N p b d).2)
theorem Zr1 {E:Env}{fn:FuncId->Option (Env->cT->cT)}(S:Sur E fn)(dp:Nat){p:Prog}(hp:Md.Fine p)(hml:p.mems.length<1000)(hN:Zz p.mems<=1000){c:Conf}(hI:Md.Inv (Zz p.mems) p c)(d:Dir)(A:List Blk)(nb:Nat):
  Zv false E (Z4 E fn (dp+11)) 46 A nb (some ([Zw p,ZS c,.agg [vi d.kind,vi d.n]],[]))=some (.made (.d (.tup [ZS (A6 (Zz p.mems) p c d).1,rD (A6 (Zz p.mems) p c d).2,vb (Md.Q0 (Zz p.mems) p c d)])) []):=by
 obtain⟨q1,q2,q3,q4,q5,y1,y2,y3,y4,y5,y6⟩:=RY hp hI hN d
 exact Z6.deep (Zlb S dp p c d q1 (by omega) (by omega) (by omega) (by omega) (by omega) y1 y4) (np S 46 (by decide)) A nb
variable {E:Env} {fn:FuncId->Option (Env->cT->cT)}
section
variable (S:Sur E fn)
include S
end
end Go.Aug.Mc
namespace Go.Aug
open Go
section
variable (E:Env) (call:cT) (kn:K) (kx:Nat->K) (kr k:K) (tm:List AV) (A A1:List Blk)
theorem UQ (l:List (Fl×Stp))(ps:List (Opd×Opd))(ls:List (Nat×Opd)):Z31 l ps ls E call kn kx kr tm A=Gw E call ls 0 l (H4 ps kn) tm A:=id rfl
theorem UJ (ls:List (Nat×Opd))(n:Nat):Gw E call ls n [] k tm A=k tm A:=id rfl
theorem UR (ls:List (Nat×Opd))(n:Nat)(fg:Fl)(d:Option Nat)(op:ZV)(l:List (Fl×Stp)):Gw E call ls n ((fg,⟨d,none,op⟩)::l) k tm A=F1 fg d (fun tm1 A1=>Gw E call ls (n+1) l (TG ls n A A1 k) tm1 A1) tm A (op E call tm A A.length):=id rfl
theorem UN (ls:List (Nat×Opd))(n:Nat)(B:List Blk):TG ls n A A1 k tm B=bif (ls.all fun p=> !Nat.beq p.1 n || Ek A A1 (look tm p.2)) then k tm B else none:=id rfl
theorem UM (i v o:Nat):Ek A A1 (.ref i v o)=SQ A[i]? A1[i]? :=id rfl
end
theorem V8 {α:Type}(f:α->α->Bool):QR.sameL f [] []=true:=id rfl
theorem SP {α:Type}(f:α->α->Bool)(x y:α)(l m:List α):QR.sameL f (x::l) (y::m)=(f x y&&QR.sameL f l m):=id rfl
theorem Z55 {α:Type}{f:α->α->Bool}:∀ l:List α,(∀ x,x ∈ l->f x x=true)->QR.sameL f l l=true
 | [],_=>rfl
 | x::l,h=>by
  rw[SP,h x List.mem_cons_self,Z55 l fun y hy=>h y (List.mem_cons_of_mem _ hy)];rfl
theorem UU (cs:List AV)(v:Nat)(r:Bool):SQ (some (.cells cs v r)) (some (.cells cs v r))=QR.sameL (QR 8) cs cs:=by
 show(QR.sameL (QR 8) cs cs&&Nat.beq v v&&(r==r))=_
 rw[Nat.beq_refl];simp
theorem Mw (n:Nat)(a:Int):QR (n+1) (.d (vi a)) (.d (vi a))=true:=by simp[QR]
theorem UT (n:Nat)(a:Bool):QR (n+1) (.d (vb a)) (.d (vb a))=true:=by simp[QR]
theorem XH (n:Nat)(a:ByteArray):QR (n+1) (.d (vt a)) (.d (vt a))=true:=by simp[QR]
class ClS (α:Type) [Cl α]:Prop where
 same:∀(n:Nat) (a:α),∀ c ∈ Cl.cells a,QR (n+1) (.d c) (.d c)=true
instance:ClS Int:=⟨fun n a c h=>(show c=vi a by simpa [Cl.cells] using h) ▸ Mw n a⟩
instance:ClS Ent:=⟨fun n a c h=>by simp only[Cl.cells,List.mem_cons,List.not_mem_nil,or_false] at h;rcases h with rfl | rfl | rfl | rfl | rfl | rfl | rfl | rfl<;>first | exact Mw n _ | exact UT n _⟩
instance:ClS Obs:=⟨fun n a c h=>by simp only[Cl.cells,List.mem_cons,List.not_mem_nil,or_false] at h;rcases h with rfl | rfl<;>exact Mw n _⟩
instance:ClS Dir:=⟨fun n a c h=>by simp only[Cl.cells,List.mem_cons,List.not_mem_nil,or_false] at h;rcases h with rfl | rfl<;>exact Mw n _⟩
instance:ClS Ins:=⟨fun n a c h=>by simp only[Cl.cells,List.mem_cons,List.not_mem_nil,or_false] at h;rcases h with rfl | rfl | rfl | rfl | rfl | rfl | rfl | rfl | rfl<;>first | exact Mw n _ | exact UT n _ | exact XH n _⟩
instance:ClS MemT:=⟨fun n a c h=>by simp only[Cl.cells,List.mem_cons,List.not_mem_nil,or_false] at h;rcases h with rfl | rfl | rfl<;>first | exact Mw n _ | exact UT n _ | exact XH n _⟩
instance:ClS Label:=⟨fun n a c h=>by simp only[Cl.cells,List.mem_cons,List.not_mem_nil,or_false] at h;rcases h with rfl | rfl<;>first | exact Mw n _ | exact XH n _⟩
theorem Zh1 {α:Type} [Cl α] [ClS α] (n:Nat)(l:List α):QR (n+2) (.d (rD l)) (.d (rD l))=true:=by
 show(QR.sameL (fun x y=>QR (n+1) (.d x) (.d y)) (rC l) (rC l)&&Nat.beq l.length l.length)=true
 rw[Nat.beq_refl,Bool.and_true]
 refine Z55 _ fun x hx=> ?_
 obtain⟨a,_,ha⟩:=List.mem_flatMap.1 hx
 exact ClS.same n a x ha
theorem UH {α:Type} [Cl α] [ClS α] (l:List α):QR 8 (.d (rD l)) (.d (rD l))=true:=Zh1 6 l
theorem UP (a:Int):QR 8 (.d (vi a)) (.d (vi a))=true:=Mw 7 a
theorem US (a:Bool):QR 8 (.d (vb a)) (.d (vb a))=true:=UT 7 a
end Go.Aug
namespace Go.Aug.Mc
open Go Go.Aug
open Nat renaming reduceLT -> zN0, reduceEqDiff -> zN1, reduceAdd -> zN2, reduceMul -> zN3, reduceLeDiff -> zN4
open Int renaming reduceEq -> zI0, reduceLT -> zI1, reduceLE -> zI2, reduceNeg -> zI3
set_option linter.unusedSimpArgs false
set_option linter.unusedVariables false
set_option maxHeartbeats 40000000
set_option maxRecDepth 200000
def E4 (N:Int)(p:Prog):List Dir->Conf->Nat->Conf×List Obs×Nat
 | [],c,k=>(c,[],k)
 | d::l,c,k=>bif Md.Q0 N p c d then((E4 N p l (Md.say N p c d).1 (k+1)).1,(Md.say N p c d).2++(E4 N p l (Md.say N p c d).1 (k+1)).2.1,(E4 N p l (Md.say N p c d).1 (k+1)).2.2) else(c,[],k)
theorem Zic (N:Int)(p:Prog)(c:Conf)(k:Nat):E4 N p [] c k=(c,[],k):=rfl
theorem Z5d (N:Int)(p:Prog)(d:Dir)(l:List Dir)(c:Conf)(k:Nat):E4 N p (d::l) c k=bif Md.Q0 N p c d then((E4 N p l (Md.say N p c d).1 (k+1)).1,(Md.say N p c d).2++(E4 N p l (Md.say N p c d).1 (k+1)).2.1,(E4 N p l (Md.say N p c d).1 (k+1)).2.2) else(c,[],k):=rfl
theorem Zte {A:List Blk}{bytes j v:Nat}{out:List Obs}{x:Obs}(hA:A[j]? =some (.cells ((rC out).map .d) v false))(h1:(out.length+1)*bytes<=Z5)(h2:out.length+1<=Z5):
  YU A 2 bytes (.sref j v 0 out.length 2 none) ((rC [x]).map .d) 1=some (.turn j (.cells ((rC (out++[x])).map .d) (v+1) false) (.sref j (v+1) 0 (out.length+1) 2 none)):=
 M0 (x:=x) hA rfl (by decide) (by rw[Z5f]) h1 h2
variable {E:Env} {fn:FuncId->Option (Env->cT->cT)}
section
variable (S:Sur E fn)
include S
theorem Gk:E.lives 16 1=none/\E.lives 16 19=none:=⟨off S 16 1 (by decide) rfl,off S 16 19 (by decide) rfl⟩
theorem Zom (dp:Nat)(p:Prog)(hp:Md.Fine p)(hml:p.mems.length<1000)(hN:Zz p.mems<=1000)(l:List Dir)(hl:l.length<1000000)(kx:Nat->K)
  (hx:∀ T (c':Conf) (o':List Obs),ZX .bot T 2=.d (rD l)->ZX .bot T 4=.ref 1 0 0->ZX .bot T 6=.ref 2 0 0->ZX .bot T 9=YN 3 o'->Z7 (kx 0 (mk .bot 46 T) ([.cells ((Y3 p).map .d) 0 false,.cells ((Jq c').map .d) 0 false,.cells [zi,zi,zi,zi,zn,zn,zi,zn,zn,zi] 0 false]++Yz o'))=some (.tup [ZS c',rD o',vi l.length])):
  ∀(m k f:Nat) (c:Conf) (o:List Obs),Md.Inv (Zz p.mems) p c->k+m=l.length->m<=f->o.length<=k->
  Z7 (GK (Zj E 16) (Z4 E fn (dp+11)) (Z9 10 GK (Zj E 16) (Z4 E fn (dp+11)) kx (ZY 0 [.cell 6 true 10,.tmp 7,.tmp 8]) f) kx (ZY 0 [.cell 6 true 10,.tmp 7,.tmp 8]) (mk .bot 46 [(2,.d (rD l)),(3,.ref 0 0 0),(4,.ref 1 0 0),(6,.ref 2 0 0),(9,YN 3 o),(17,.d (rD l)),(18,aI l.length),(19,aI k)]) ([.cells ((Y3 p).map .d) 0 false,.cells ((Jq c).map .d) 0 false,.cells [zi,zi,zi,zi,zn,zn,zi,zn,zn,zi] 0 false]++Yz o))=
  some (.tup [ZS (E4 (Zz p.mems) p (l.drop k) c k).1,rD (o++(E4 (Zz p.mems) p (l.drop k) c k).2.1),vi (E4 (Zz p.mems) p (l.drop k) c k).2.2]):=by
 intro m
 induction m with
 | zero=>
  intro k f c o _ hk _ _
  obtain rfl:k=l.length:=by omega
  rw[List.drop_length,Zic,List.append_nil]
  generalize Z9 10 GK _ _ kx _ f=KK
  first | (conv=>lhs;rw[GK]) | rw[GK]
  by_cases h0:o.length=0
  ·have : o = [] := List.length_eq_zero_iff.1 h0
   subst this
   simp only[eG,go_sem,Z3 S,Z2 S,zN0,zN1,zN2,zN3,zN4,zI0,zI1,zI2,zI3,reduceCtorEq,Gk S,Yv,Yw,Int.lt_irrefl]
   exact hx _ c [] rfl rfl rfl rfl
  ·rw [ZN h0, ZM h0]
   simp only[eG,go_sem,Z3 S,Z2 S,zN0,zN1,zN2,zN3,zN4,zI0,zI1,zI2,zI3,reduceCtorEq,Gk S,Int.lt_irrefl]
   have:=fun T z a b d=>hx T c o z a b (by rw[ZN h0];exact d)
   rw[ZM h0] at this
   exact this _ rfl rfl rfl rfl
 | succ m ih=>
  intro k f c o hI hk hf ho
  obtain⟨f,rfl⟩:∃ g,f=g+1:=⟨f-1,by omega⟩
  obtain⟨d,hd⟩:=YK (show k<l.length by omega)
  have hkl:(k:Int)<l.length:=by omega
  have cS:=fun(A:List Blk) (nb:Nat)=>Zr1 S dp hp hml hN hI d A nb
  rw[Aj hd,Z5d]
  cases hc:Md.Q0 (Zz p.mems) p c d with
  | false=>
   have e1:A6 (Zz p.mems) p c d=(Md.B1,[]):=by unfold A6;rw[hc];rfl
   rw[hc,e1] at cS
   simp only[Zw,Y3,ZS,Jq,Jx,cond_false] at cS
   rw[cond_false,List.append_nil]
   generalize Z9 10 GK _ _ kx _ (f+1)=KK
   first | (conv=>lhs;rw[GK]) | rw[GK]
   by_cases h0:o.length=0
   ·have : o = [] := List.length_eq_zero_iff.1 h0
    subst this
    simp only[eG,go_sem,Z3 S,Z2 S,zN0,zN1,zN2,zN3,zN4,zI0,zI1,zI2,zI3,reduceCtorEq,Gk S,Yv,Yw,hkl,Zx hd,cS,Bool.not_false,Bool.not_true]
    try rfl
   ·rw [ZN h0, ZM h0]
    have hne:o≠[]:=fun e=>h0 (by rw[e];rfl)
    have hd1:deep [.cells ((rC o).map .d) 0 false] 7 (.sref 0 0 0 o.length 2 none)=some (.lst (rC o) o.length none,[0]):=Ax o hne _ rfl 5 2 none rfl
    simp only[eG,go_sem,Z3 S,Z2 S,zN0,zN1,zN2,zN3,zN4,zI0,zI1,zI2,zI3,reduceCtorEq,Gk S,hkl,Zx hd,cS,Bool.not_false,Bool.not_true,hd1]
    try rfl
  | true=>
   have e1:A6 (Zz p.mems) p c d=Md.say (Zz p.mems) p c d:=by unfold A6;rw[hc];rfl
   have hobs:=Md.Z51 (N:=Zz p.mems) (p:=p) (c:=c) d hc
   have hI':=hI.said hp d hc
   rw[hc,e1] at cS
   rw[cond_true]
   have next:=fun hh=>ih (k+1) f (Md.say (Zz p.mems) p c d).1 (o++(Md.say (Zz p.mems) p c d).2) hI' (by omega) (by omega) hh
   generalize Md.say (Zz p.mems) p c d=X at *
   obtain⟨X,s⟩:=X
   simp only at hobs hI' next ⊢
   simp only[Zw,Y3,ZS,Jq,Jx] at cS
   rw[<-List.append_assoc]
   generalize hK:Z9 10 GK _ _ kx _ (f+1)=KK
   first | (conv=>lhs;rw[GK]) | rw[GK]
   have k1:(o.length+1)*16<=Z5:=by have:Z5=1099511627776:=rfl;omega
   have k2:o.length+1<=Z5:=by have:Z5=1099511627776:=rfl;omega
   match s,hobs with
   | [],_=>
    simp only[List.append_nil] at next ⊢
    have next:=next (by omega)
    by_cases h0:o.length=0
    ·have : o = [] := List.length_eq_zero_iff.1 h0
     subst this
     rw[Yv,Yw] at *
     simp only[eG,go_sem,Z3 S,Z2 S,zN0,zN1,zN2,zN3,zN4,zI0,zI1,zI2,zI3,reduceCtorEq,Gk S,hkl,Zx hd,cS,Bool.not_true,UQ,UJ,UR,UN,UM,UU,V8,SP,UH,UP,US,List.all_cons,List.all_nil,Nat.beq,QA,Qw,Qv,Qz,wi k (by omega)]
     rw[<-hK,Z8 (on S _ _ [2,3,4,6,9,17,18,19] (by decide) rfl) rfl _ _ _ _ _ _ _ _ _ rfl]
     simp only[eG,go_sem,Z3 S,Z2 S,zN0,zN1,zN2,zN3,zN4,zI0,zI1,zI2,zI3,reduceCtorEq,Gk S]
     exact next
    ·rw [ZN h0, ZM h0] at *
     simp only[eG,go_sem,Z3 S,Z2 S,zN0,zN1,zN2,zN3,zN4,zI0,zI1,zI2,zI3,reduceCtorEq,Gk S,hkl,Zx hd,cS,Bool.not_true,UQ,UJ,UR,UN,UM,UU,V8,SP,UH,UP,US,List.all_cons,List.all_nil,Nat.beq,QA,Qw,Qv,Qz,wi k (by omega)]
     rw[<-hK,Z8 (on S _ _ [2,3,4,6,9,17,18,19] (by decide) rfl) rfl _ _ _ _ _ _ _ _ _ rfl]
     simp only[eG,go_sem,Z3 S,Z2 S,zN0,zN1,zN2,zN3,zN4,zI0,zI1,zI2,zI3,reduceCtorEq,Gk S]
     exact next
   | [x],_=>
    have next:=next (by simp;omega)
    rw[ZN (HK _ _),ZM (HK _ _)] at next
    by_cases h0:o.length=0
    ·have : o = [] := List.length_eq_zero_iff.1 h0
     subst this
     rw[Yv,Yw]
     simp only[eG,go_sem,Z3 S,Z2 S,zN0,zN1,zN2,zN3,zN4,zI0,zI1,zI2,zI3,reduceCtorEq,Gk S,hkl,Zx hd,cS,Bool.not_true,UQ,UJ,UR,UN,UM,UU,V8,SP,UH,UP,US,List.all_cons,List.all_nil,Nat.beq,QA,Qw,Qv,Qz,wi k (by omega),ZE,ZF,Zq,J7,JK,JJ,JH,Option.map_some,Nat.zero_add,Nat.one_mul,Nat.zero_mul,and_self,true_and,show(0:Nat)<1 by decide]
     rw[<-hK,Z8 (on S _ _ [2,3,4,6,9,17,18,19] (by decide) rfl) rfl _ _ _ _ _ _ _ _ _ rfl]
     simp only[eG,go_sem,Z3 S,Z2 S,zN0,zN1,zN2,zN3,zN4,zI0,zI1,zI2,zI3,reduceCtorEq,Gk S]
     exact next
    ·rw [ZN h0, ZM h0]
     simp only[eG,go_sem,Z3 S,Z2 S,zN0,zN1,zN2,zN3,zN4,zI0,zI1,zI2,zI3,reduceCtorEq,Gk S,hkl,Zx hd,cS,Bool.not_true,UQ,UJ,UR,UN,UM,UU,V8,SP,UH,UP,US,List.all_cons,List.all_nil,Nat.beq,QA,Qw,Qv,Qz,wi k (by omega),ZE,ZF,Zq,J7,Zte,k1,k2,Option.map_some]
     rw[<-hK,Z8 (on S _ _ [2,3,4,6,9,17,18,19] (by decide) rfl) rfl _ _ _ _ _ _ _ _ _ rfl]
     simp only[eG,go_sem,Z3 S,Z2 S,zN0,zN1,zN2,zN3,zN4,zI0,zI1,zI2,zI3,reduceCtorEq,Gk S]
     rw[List.length_append,List.length_singleton] at next
     exact next
end
variable {E:Env} {fn:FuncId->Option (Env->cT->cT)}
section
variable (S:Sur E fn)
include S
theorem RJ:E.lives 74 1=none:=off S 74 1 (by decide) rfl
theorem Zob (dp:Nat)(p:Prog)(hl:p.mems.length<1073741824)(hr:∀ m ∈ p.mems,0<=m.n/\m.n<=16)(kx:Nat->K)(kr:K):∀ m k f,k+m=p.mems.length->m<=f->
  PX (Zj E 74) (Z4 E fn dp) (Z9 8 PX (Zj E 74) (Z4 E fn dp) kx kr f) kx kr (mk .bot 21 [(1,.ref 0 0 0),(3,aI (Zz (p.mems.take k))),(4,aI k)]) [.cells ((Y3 p).map .d) 0 false]=
  kx 0 (mk .bot 21 [(9,Yx false),(8,aI p.mems.length),(7,.d (rD p.mems)),(6,.ref 0 0 7),(5,aI p.mems.length),(1,.ref 0 0 0),(3,aI (Zz p.mems)),(4,aI p.mems.length)]) [.cells ((Y3 p).map .d) 0 false]:=by
 intro m
 induction m with
 | zero=>
  intro k f hk _
  obtain rfl:k=p.mems.length:=by omega
  generalize Z9 8 PX _ _ kx kr f=KK
  rw[PX,List.take_of_length_le (by omega)]
  simp only[eG,go_sem,Z3 S,Z2 S,zN0,zN1,zN2,zN3,zN4,zI0,zI1,zI2,zI3,reduceCtorEq,RJ S,Int.lt_irrefl]
 | succ m ih=>
  intro k f hk hf
  obtain⟨e,he⟩:=YK (show k<p.mems.length by omega)
  obtain⟨f,rfl⟩:∃ g,f=g+1:=⟨f-1,by omega⟩
  generalize hK:Z9 8 PX _ _ kx kr (f+1)=KK
  rw[PX]
  have hb:=NA (p.mems.take k)
  have hbl:(p.mems.take k).length<=p.mems.length:=by simp;omega
  have hen:=hr e (List.mem_of_getElem? he)
  have hw:IntKind.i64.wrap (Zz (p.mems.take k)+e.n)=Zz (p.mems.take (k+1)):=by
   rw[WY he,Int.max_eq_left hen.1,Int.min_eq_left hen.2]
   exact YH (by omega) (by omega)
  simp only[eG,go_sem,Z3 S,Z2 S,zN0,zN1,zN2,zN3,zN4,zI0,zI1,zI2,zI3,reduceCtorEq,RJ S,show(k:Int)<p.mems.length by omega,Zx he,wi k (by omega),hw]
  rw[<-hK,Z8 (on S _ _ [1,3,4] (by decide) rfl) rfl _ _ _ _ _ _ _ _ _ rfl]
  simp only[eG,go_sem,Z3 S,Z2 S,zN0,zN1,zN2,zN3,zN4,zI0,zI1,zI2,zI3,reduceCtorEq,RJ S]
  exact ih (k+1) f (by omega) (by omega)
theorem Zki (dp:Nat)(p:Prog)(hl:p.mems.length<1073741824)(hr:∀ m ∈ p.mems,0<=m.n/\m.n<=16):Z6 E fn (dp+1) 74 [Zw p] (vi (Zz p.mems)):=by
 unfold Z6
 show Z7 (Z4 E fn (dp+1) 74 [.d (Zw p)] [])=_
 rw[ZD,S.Zam,ZG,Zfz,ZC _ _ _ _ _ _ _ _ rfl]
 simp only[eG,go_sem,Z3 S,Z2 S,zN0,zN1,zN2,zN3,zN4,zI0,zI1,zI2,zI3,reduceCtorEq,RJ S]
 rw[Y7,Z8 (on S _ _ [1,3,4] (by decide) rfl) rfl _ _ _ _ _ _ _ _ _ rfl]
 simp only[eG,go_sem,Z3 S,Z2 S,zN0,zN1,zN2,zN3,zN4,zI0,zI1,zI2,zI3,reduceCtorEq,RJ S]
 have:=fun kx kr=>Zob S dp p hl hr kx kr p.mems.length 0 999999999999999999999999999999 (by omega) (by omega)
 simp only[go_sem,List.take_zero,Int.cast_ofNat_Int,show Zz ([]:List MemT)=0 from rfl] at this
 rw[this]
 simp only[eG,go_sem,Z3 S,Z2 S,zN0,zN1,zN2,zN3,zN4,zI0,zI1,zI2,zI3,reduceCtorEq,RJ S]
end
def F9 (n:Int)(q:List Place):Prop:=∀ x ∈ q,(x.reg=true->0<=x.n/\x.n<4)/\(x.reg=false->0<=x.n/\x.n<n)
theorem F9.app {n:Int}{q:List Place}(h:F9 n q){x:Place}(h1:x.reg=true->0<=x.n/\x.n<4)(h2:x.reg=false->0<=x.n/\x.n<n):F9 n (q++[x]):=by
 intro y hy
 rcases List.mem_append.1 hy with hy | hy
 ·exact h y hy
 ·simp at hy;subst hy;exact⟨h1,h2⟩
def RG (p:Prog):Nat->Nat->List Place->List Place
 | 0,_,q=>q
 | m+1,k,q=>RG p m (k+1) (if Md.Bx p.regs k=0 then q else q++[⟨true,(k:Int),decide (Md.Bx p.regs k=2)⟩])
def RH (s:Bool):Nat->Int->List Place->List Place
 | 0,_,q=>q
 | m+1,a,q=>RH s m (a+1) (q++[⟨false,a,s⟩])
def T6:List MemT->Int->List Place->List Place
 | [],_,q=>q
 | e::l,a,q=>T6 l (a+e.n) (RH e.secret e.n.toNat a q)
def places (p:Prog):List Place:=T6 p.mems 0 (RG p 4 0 [])
theorem Zrs (l:List MemT)(i:Nat):Zz (l.take i)<=Zz l:=by
 have h:Zz l=Zz (l.take i)+Zz (l.drop i):=by
  unfold Zz
  rw[<-List.sum_append,<-List.map_append,List.take_append_drop]
 have:=(NA (l.drop i)).1
 omega
theorem SD {A:List Blk}{bytes j v:Nat}{out:List Place}{a b:Bool}{n:Int}(hA:A[j]? =some (.cells ((rC out).map .d) v false))(h1:(out.length+1)*bytes<=Z5)(h2:out.length+1<=Z5):
  YU A 3 bytes (.sref j v 0 out.length 3 none) [.d (vb a),.d (vi n),.d (vb b)] 1=some (.turn j (.cells ((rC (out++[⟨a,n,b⟩])).map .d) (v+1) false) (.sref j (v+1) 0 (out.length+1) 3 none)):=
 M0 (x:=(⟨a,n,b⟩:Place)) hA rfl (by decide) rfl h1 h2
theorem RS (A:List Blk)(x y z:DV)(k:Option Nat):E9 A false 3 (.d (.lst [x,y,z] 1 k))=some ([.d x,.d y,.d z],1):=rfl
theorem W8 {α:Type}(o:List α)(x:α):(o++[x]).length≠0:=by simp
theorem DN {α:Type} [Cl α] {l:List α}(h:l.length=0)(i:Nat):YN i l=.d (.lst [] 0 (some 0)):=by rw[List.length_eq_zero_iff.1 h];rfl
theorem DM {α:Type} [Cl α] {l:List α}(h:l.length=0):Yz l=[]:=by rw[List.length_eq_zero_iff.1 h];rfl
variable {E:Env} {fn:FuncId->Option (Env->cT->cT)}
section
variable (S:Sur E fn)
include S
theorem J6:E.lives 41 1=none/\E.lives 41 15=none:=⟨off S 41 1 (by decide) rfl,off S 41 15 (by decide) rfl⟩
theorem Zmm (dp:Nat)(N:Int)(p:Prog)(kx:Nat->K)(P:Option DV->Prop)(Q:List Place)
  (hx:∀ T q,ZX .bot T 1=.ref 0 0 0->ZX .bot T 3=YN 1 (q:List Place)->F9 N q->q.length<=4->q=Q->P (Z7 (kx 0 (mk .bot 58 T) ([.cells ((Y3 p).map .d) 0 false]++Yz q)))):
  ∀(m k f:Nat) (q:List Place),k+m=4->m<=f->F9 N q->q.length<=k->RG p m k q=Q->
  P (Z7 (M6 (Zj E 41) (Z4 E fn dp) (Z9 8 M6 (Zj E 41) (Z4 E fn dp) kx (ZY 0 [.tmp 2]) f) kx (ZY 0 [.tmp 2]) (mk .bot 58 [(1,.ref 0 0 0),(3,YN 1 q),(4,aI k)]) ([.cells ((Y3 p).map .d) 0 false]++Yz q))):=by
 intro m
 induction m with
 | zero=>
  intro k f q hk _ hq hl hQ
  obtain rfl:k=4:=by omega
  generalize Z9 8 M6 _ _ kx _ f=KK
  first | (conv=>lhs;rw[M6]) | rw[M6]
  by_cases h0:q.length=0
  ·rw [DN h0, DM h0]
   have:=fun T a b=>hx T q a (by rw[DN h0];exact b) hq (by omega) hQ
   rw[DM h0] at this
   simp only[eG,go_sem,Z3 S,Z2 S,zN0,zN1,zN2,zN3,zN4,zI0,zI1,zI2,zI3,reduceCtorEq,J6 S,Int.cast_ofNat_Int]
   exact this _ rfl rfl
  ·rw [ZN h0, ZM h0]
   have:=fun T a b=>hx T q a (by rw[ZN h0];exact b) hq (by omega) hQ
   rw[ZM h0] at this
   simp only[eG,go_sem,Z3 S,Z2 S,zN0,zN1,zN2,zN3,zN4,zI0,zI1,zI2,zI3,reduceCtorEq,J6 S,Int.cast_ofNat_Int]
   exact this _ rfl rfl
 | succ m ih=>
  intro k f q hk hf hq hl hQ
  obtain⟨f,rfl⟩:∃ g,f=g+1:=⟨f-1,by omega⟩
  generalize hK:Z9 8 M6 _ _ kx _ (f+1)=KK
  first | (conv=>lhs;rw[M6]) | rw[M6]
  have lim:Z5=1099511627776:=rfl
  have k1:(q.length+1)*24<=Z5:=by omega
  have k2:q.length+1<=Z5:=by omega
  have skip:=fun(h:Md.Bx p.regs k=0)=>ih (k+1) f q (by omega) (by omega) hq (by omega) (by rw[<-hQ,RG,if_pos h])
  have put:=fun(h:¬Md.Bx p.regs k=0)=>ih (k+1) f (q++[⟨true,(k:Int),decide (Md.Bx p.regs k=2)⟩]) (by omega) (by omega) (hq.app (fun _=>by constructor<;>(show _;simp only;omega)) (fun h=>by cases h)) (by simp;omega) (by rw[<-hQ,RG,if_neg h])
  simp only[ZN (W8 _ _),ZM (W8 _ _),List.length_append,List.length_singleton] at put
  have hk4:k=0∨k=1∨k=2∨k=3:=by omega
  have hk5:(k:Int)<4:=by omega
  have hld:BF false 1 ([AV.d (vi p.w),AV.d (vi p.window),AV.d (vi p.fuel),AV.d (vi p.regs.r0),AV.d (vi p.regs.r1),AV.d (vi p.regs.r2),AV.d (vi p.regs.r3),AV.d (rD p.mems),AV.d (rD p.labels),AV.d (rD p.ins)].drop (3+k*1))=some (.d (vi (Md.Bx p.regs k))):=by
   rcases hk4 with rfl | rfl | rfl | rfl<;>rfl
  clear hQ
  generalize Md.Bx p.regs k=r at hld skip put
  by_cases h0:q.length=0
  ·have hq0 : q = [] := List.length_eq_zero_iff.1 h0
   subst hq0
   simp only[Yv,Yw,List.append_nil] at skip ⊢
   by_cases hr:r=0
   ·simp only [eG, go_sem, Z3 S, Z2 S, zN0, zN1, zN2, zN3, zN4, zI0, zI1, zI2, zI3, reduceCtorEq, J6 S, ZH, ZJ, ZE, ZF, Zq, RS, SD, Option.map_some, Nat.zero_add, Nat.one_mul, Nat.zero_mul, and_self, true_and, and_true, show (0 : Nat) < 1 by decide, show (1 : Nat) * 24 <= Z5 by decide, show (24 : Nat) <= Z5 by decide, show (1 : Nat) <= Z5 by decide, Int.cast_ofNat_Int, Int.reduceToNat, Int.toNat_zero, Int.reduceMul, hld, eq_true hr, hk5, Int.natCast_nonneg, Int.toNat_natCast, wi k (by omega)]
    rw[<-hK,Z8 (on S _ _ [1,3,4] (by decide) rfl) rfl _ _ _ _ _ _ _ _ _ rfl]
    simp only[eG,go_sem,Z3 S,Z2 S,zN0,zN1,zN2,zN3,zN4,zI0,zI1,zI2,zI3,reduceCtorEq,J6 S]
    exact skip hr
   ·simp only [eG, go_sem, Z3 S, Z2 S, zN0, zN1, zN2, zN3, zN4, zI0, zI1, zI2, zI3, reduceCtorEq, J6 S, ZH, ZJ, ZE, ZF, Zq, RS, SD, Option.map_some, Nat.zero_add, Nat.one_mul, Nat.zero_mul, and_self, true_and, and_true, show (0 : Nat) < 1 by decide, show (1 : Nat) * 24 <= Z5 by decide, show (24 : Nat) <= Z5 by decide, show (1 : Nat) <= Z5 by decide, Int.cast_ofNat_Int, Int.reduceToNat, Int.toNat_zero, Int.reduceMul, hld, hr, hk5, Int.natCast_nonneg, Int.toNat_natCast, wi k (by omega)]
    rw[<-hK,Z8 (on S _ _ [1,3,4] (by decide) rfl) rfl _ _ _ _ _ _ _ _ _ rfl]
    simp only[eG,go_sem,Z3 S,Z2 S,zN0,zN1,zN2,zN3,zN4,zI0,zI1,zI2,zI3,reduceCtorEq,J6 S]
    exact put hr
  ·simp only [ZN h0, ZM h0] at skip ⊢
   by_cases hr:r=0
   ·simp only [eG, go_sem, Z3 S, Z2 S, zN0, zN1, zN2, zN3, zN4, zI0, zI1, zI2, zI3, reduceCtorEq, J6 S, ZH, ZJ, ZE, ZF, Zq, RS, SD, Option.map_some, Nat.zero_add, Nat.one_mul, Nat.zero_mul, and_self, true_and, and_true, show (0 : Nat) < 1 by decide, show (1 : Nat) * 24 <= Z5 by decide, show (24 : Nat) <= Z5 by decide, show (1 : Nat) <= Z5 by decide, Int.cast_ofNat_Int, Int.reduceToNat, Int.toNat_zero, Int.reduceMul, hld, eq_true hr, hk5, Int.natCast_nonneg, Int.toNat_natCast, wi k (by omega)]
    rw[<-hK,Z8 (on S _ _ [1,3,4] (by decide) rfl) rfl _ _ _ _ _ _ _ _ _ rfl]
    simp only[eG,go_sem,Z3 S,Z2 S,zN0,zN1,zN2,zN3,zN4,zI0,zI1,zI2,zI3,reduceCtorEq,J6 S]
    exact skip hr
   ·simp only [eG, go_sem, Z3 S, Z2 S, zN0, zN1, zN2, zN3, zN4, zI0, zI1, zI2, zI3, reduceCtorEq, J6 S, ZH, ZJ, ZE, ZF, Zq, RS, SD, Option.map_some, Nat.zero_add, Nat.one_mul, Nat.zero_mul, and_self, true_and, and_true, show (0 : Nat) < 1 by decide, show (1 : Nat) * 24 <= Z5 by decide, show (24 : Nat) <= Z5 by decide, show (1 : Nat) <= Z5 by decide, Int.cast_ofNat_Int, Int.reduceToNat, Int.toNat_zero, Int.reduceMul, hld, hr, hk5, Int.natCast_nonneg, Int.toNat_natCast, wi k (by omega), k1, k2]
    rw[<-hK,Z8 (on S _ _ [1,3,4] (by decide) rfl) rfl _ _ _ _ _ _ _ _ _ rfl]
    simp only[eG,go_sem,Z3 S,Z2 S,zN0,zN1,zN2,zN3,zN4,zI0,zI1,zI2,zI3,reduceCtorEq,J6 S]
    exact put hr
theorem Zmk (dp:Nat)(p:Prog)(hms:∀ m ∈ p.mems,0<=m.n/\m.n<=16)(hml:p.mems.length<1000)(i:Nat)(e:MemT)(he:p.mems[i]? =some e)(kx:Nat->K)(P:Option DV->Prop)(Q:List Place)
  (hx:∀ T q,ZX .bot T 1=.ref 0 0 0->ZX .bot T 3=YN 1 (q:List Place)->ZX .bot T 5=aI (Zz (p.mems.take (i+1)))->ZX .bot T 6=aI i->F9 (Zz p.mems) q->(q.length:Int)<=4+Zz (p.mems.take (i+1))->q=Q->P (Z7 (kx 4 (mk .bot 58 T) ([.cells ((Y3 p).map .d) 0 false]++Yz q)))):
  ∀(m k f:Nat) (q:List Place),((k+m:Nat):Int)=e.n->m<=f->F9 (Zz p.mems) q->(q.length:Int)<=4+Zz (p.mems.take i)+k->RH e.secret m (Zz (p.mems.take i)+k) q=Q->
  P (Z7 (M9 (Zj E 41) (Z4 E fn dp) (Z9 26 M9 (Zj E 41) (Z4 E fn dp) kx (ZY 0 [.tmp 2]) f) kx (ZY 0 [.tmp 2]) (mk .bot 58 [(1,.ref 0 0 0),(3,YN 1 q),(5,aI (Zz (p.mems.take i)+k)),(6,aI i),(7,aI k)]) ([.cells ((Y3 p).map .d) 0 false]++Yz q))):=by
 have hen:=hms e (List.mem_of_getElem? he)
 have hS:Zz (p.mems.take (i+1))=Zz (p.mems.take i)+e.n:=by rw[WY he,Int.max_eq_left hen.1,Int.min_eq_left hen.2]
 have hS0:=NA (p.mems.take i)
 have hSl:(p.mems.take i).length<=p.mems.length:=by simp;omega
 have hSm:=Zrs p.mems (i+1)
 have lim:Z5=1099511627776:=rfl
 intro m
 induction m with
 | zero=>
  intro k f q hk _ hq hl hQ
  have hkn:¬(k:Int)<e.n:=by omega
  have hat:Zz (p.mems.take i)+(k:Int)=Zz (p.mems.take (i+1)):=by omega
  rw[hat]
  generalize Z9 26 M9 _ _ kx _ f=KK
  first | (conv=>lhs;rw[M9]) | rw[M9]
  by_cases h0:q.length=0
  ·have := fun T a b c d => hx T q a (by rw [DN h0]; exact b) c d hq (by omega) hQ
   rw[DM h0] at this
   rw[DN h0,DM h0]
   simp only[eG,go_sem,Z3 S,Z2 S,zN0,zN1,zN2,zN3,zN4,zI0,zI1,zI2,zI3,reduceCtorEq,J6 S,Zx he,hkn]
   exact this _ rfl rfl rfl rfl
  ·have := fun T a b c d => hx T q a (by rw [ZN h0]; exact b) c d hq (by omega) hQ
   rw[ZM h0] at this
   rw[ZN h0,ZM h0]
   simp only[eG,go_sem,Z3 S,Z2 S,zN0,zN1,zN2,zN3,zN4,zI0,zI1,zI2,zI3,reduceCtorEq,J6 S,Zx he,hkn]
   exact this _ rfl rfl rfl rfl
 | succ m ih=>
  intro k f q hk hf hq hl hQ
  obtain⟨f,rfl⟩:∃ g,f=g+1:=⟨f-1,by omega⟩
  have hkn:(k:Int)<e.n:=by omega
  generalize hK:Z9 26 M9 _ _ kx _ (f+1)=KK
  first | (conv=>lhs;rw[M9]) | rw[M9]
  have k1:(q.length+1)*24<=Z5:=by omega
  have k2:q.length+1<=Z5:=by omega
  have wat:IntKind.i64.wrap (Zz (p.mems.take i)+(k:Int)+1)=Zz (p.mems.take i)+((k+1:Nat):Int):=by rw[YH (by omega) (by omega)];omega
  have put:=ih (k+1) f (q++[⟨false,Zz (p.mems.take i)+(k:Int),e.secret⟩]) (by omega) (by omega) (hq.app (fun h=>by cases h) (fun _=>by constructor<;>(show _;simp only;omega))) (by simp;omega) (by rw[<-hQ,RH];congr 1;omega)
  simp only[ZN (W8 _ _),ZM (W8 _ _)] at put
  rw[List.length_append,List.length_singleton] at put
  by_cases h0:q.length=0
  ·have hq0 : q = [] := List.length_eq_zero_iff.1 h0
   subst hq0
   rw[Yv,Yw,List.append_nil]
   simp only[eG,go_sem,Z3 S,Z2 S,zN0,zN1,zN2,zN3,zN4,zI0,zI1,zI2,zI3,reduceCtorEq,J6 S,ZH,ZJ,ZE,ZF,Zq,RS,SD,Option.map_some,Nat.zero_add,Nat.one_mul,Nat.zero_mul,and_self,true_and,and_true,show(0:Nat)<1 by decide,show(1:Nat)*24<=Z5 by decide,show(24:Nat)<=Z5 by decide,show(1:Nat)<=Z5 by decide,Int.cast_ofNat_Int,Int.reduceToNat,Int.toNat_zero,Int.reduceMul,Zx he,hkn,wi k (by omega),wat]
   rw[<-hK,Z8 (on S _ _ [1,3,5,6,7] (by decide) rfl) rfl _ _ _ _ _ _ _ _ _ rfl]
   simp only[eG,go_sem,Z3 S,Z2 S,zN0,zN1,zN2,zN3,zN4,zI0,zI1,zI2,zI3,reduceCtorEq,J6 S]
   exact put
  ·rw [ZN h0, ZM h0]
   simp only[eG,go_sem,Z3 S,Z2 S,zN0,zN1,zN2,zN3,zN4,zI0,zI1,zI2,zI3,reduceCtorEq,J6 S,ZH,ZJ,ZE,ZF,Zq,RS,SD,Option.map_some,Nat.zero_add,Nat.one_mul,Nat.zero_mul,and_self,true_and,and_true,show(0:Nat)<1 by decide,show(1:Nat)*24<=Z5 by decide,show(24:Nat)<=Z5 by decide,show(1:Nat)<=Z5 by decide,Int.cast_ofNat_Int,Int.reduceToNat,Int.toNat_zero,Int.reduceMul,Zx he,hkn,wi k (by omega),wat,k1,k2]
   rw[<-hK,Z8 (on S _ _ [1,3,5,6,7] (by decide) rfl) rfl _ _ _ _ _ _ _ _ _ rfl]
   simp only[eG,go_sem,Z3 S,Z2 S,zN0,zN1,zN2,zN3,zN4,zI0,zI1,zI2,zI3,reduceCtorEq,J6 S]
   exact put
theorem Zml (dp:Nat)(p:Prog)(hms:∀ m ∈ p.mems,0<=m.n/\m.n<=16)(hml:p.mems.length<1000)(kx:Nat->K)(P:Option DV->Prop)(Q:List Place)
  (hx:∀ T q,ZX .bot T 3=YN 1 (q:List Place)->F9 (Zz p.mems) q->q.length<=20000->q=Q->P (Z7 (kx 2 (mk .bot 58 T) ([.cells ((Y3 p).map .d) 0 false]++Yz q)))):
  ∀(m i f:Nat) (q:List Place),i+m=p.mems.length->m<=f->F9 (Zz p.mems) q->(q.length:Int)<=4+Zz (p.mems.take i)->T6 (p.mems.drop i) (Zz (p.mems.take i)) q=Q->
  P (Z7 (Mj (Zj E 41) (Z4 E fn dp) (Z9 20 Mj (Zj E 41) (Z4 E fn dp) kx (ZY 0 [.tmp 2]) f) kx (ZY 0 [.tmp 2]) (mk .bot 58 [(1,.ref 0 0 0),(3,YN 1 q),(5,aI (Zz (p.mems.take i))),(6,aI i)]) ([.cells ((Y3 p).map .d) 0 false]++Yz q))):=by
 intro m
 induction m with
 | zero=>
  intro i f q hk _ hq hl hQ
  rw[List.drop_of_length_le (by omega)] at hQ
  have hb:=NA (p.mems.take i)
  have hbl:(p.mems.take i).length<=p.mems.length:=by simp;omega
  have hin:¬(i:Int)<p.mems.length:=by omega
  generalize Z9 20 Mj _ _ kx _ f=KK
  first | (conv=>lhs;rw[Mj]) | rw[Mj]
  by_cases h0:q.length=0
  ·have := fun T b => hx T q (by rw [DN h0]; exact b) hq (by omega) hQ
   rw[DM h0] at this
   rw[DN h0,DM h0]
   simp only[eG,go_sem,Z3 S,Z2 S,zN0,zN1,zN2,zN3,zN4,zI0,zI1,zI2,zI3,reduceCtorEq,J6 S,hin]
   exact this _ rfl
  ·have := fun T b => hx T q (by rw [ZN h0]; exact b) hq (by omega) hQ
   rw[ZM h0] at this
   rw[ZN h0,ZM h0]
   simp only[eG,go_sem,Z3 S,Z2 S,zN0,zN1,zN2,zN3,zN4,zI0,zI1,zI2,zI3,reduceCtorEq,J6 S,hin]
   exact this _ rfl
 | succ m ih=>
  intro i f q hk hf hq hl hQ
  obtain⟨e,he⟩:=YK (show i<p.mems.length by omega)
  obtain⟨f,rfl⟩:∃ g,f=g+1:=⟨f-1,by omega⟩
  have hin:(i:Int)<p.mems.length:=by omega
  have hen:=hms e (List.mem_of_getElem? he)
  generalize hK:Z9 20 Mj _ _ kx _ (f+1)=KK
  first | (conv=>lhs;rw[Mj]) | rw[Mj]
  have hS:Zz (p.mems.take (i+1))=Zz (p.mems.take i)+e.n:=by rw[WY he,Int.max_eq_left hen.1,Int.min_eq_left hen.2]
  have hQ':T6 (p.mems.drop (i+1)) (Zz (p.mems.take (i+1))) (RH e.secret e.n.toNat (Zz (p.mems.take i)) q)=Q:=by rw[<-hQ,Aj he,T6,hS]
  have inner:=fun(kx':Nat->K) hx'=>Zmk S dp p hms hml i e he kx' P (RH e.secret e.n.toNat (Zz (p.mems.take i)) q) hx' e.n.toNat 0 999999999999999999999999999999 q (by omega) (by omega) hq (by omega) (by simp)
  by_cases h0:q.length=0
  ·rw [DN h0, DM h0]
   simp only[DN h0,DM h0,Int.cast_ofNat_Int,Int.add_zero] at inner
   simp only[eG,go_sem,Z3 S,Z2 S,zN0,zN1,zN2,zN3,zN4,zI0,zI1,zI2,zI3,reduceCtorEq,J6 S,hin]
   rw[Y7,Z8 (on S _ _ [1,3,5,6,7] (by decide) rfl) rfl _ _ _ _ _ _ _ _ _ rfl]
   simp only[eG,go_sem,Z3 S,Z2 S,zN0,zN1,zN2,zN3,zN4,zI0,zI1,zI2,zI3,reduceCtorEq,J6 S]
   refine inner _ ?_
   intro T q' t1 t3 t5 t6 hq' hl' hQq
   have next:=ih (i+1) f q' (by omega) (by omega) hq' hl' (by rw[hQq];exact hQ')
   by_cases h1:q'.length=0
   ·rw [DN h1] at t3
    rw[DM h1]
    rw[DN h1,DM h1] at next
    simp only[eG,go_sem,Z3 S,Z2 S,zN0,zN1,zN2,zN3,zN4,zI0,zI1,zI2,zI3,reduceCtorEq,J6 S,t1,t3,t5,t6,wi i (by omega)]
    rw[<-hK,Z8 (on S _ _ [1,3,5,6] (by decide) rfl) rfl _ _ _ _ _ _ _ _ _ rfl]
    simp only[eG,go_sem,Z3 S,Z2 S,zN0,zN1,zN2,zN3,zN4,zI0,zI1,zI2,zI3,reduceCtorEq,J6 S,t1,t3,t5,t6]
    exact next
   ·rw [ZN h1] at t3
    rw[ZM h1]
    rw[ZN h1,ZM h1] at next
    simp only[eG,go_sem,Z3 S,Z2 S,zN0,zN1,zN2,zN3,zN4,zI0,zI1,zI2,zI3,reduceCtorEq,J6 S,t1,t3,t5,t6,wi i (by omega)]
    rw[<-hK,Z8 (on S _ _ [1,3,5,6] (by decide) rfl) rfl _ _ _ _ _ _ _ _ _ rfl]
    simp only[eG,go_sem,Z3 S,Z2 S,zN0,zN1,zN2,zN3,zN4,zI0,zI1,zI2,zI3,reduceCtorEq,J6 S,t1,t3,t5,t6]
    exact next
  ·rw [ZN h0, ZM h0]
   simp only[ZN h0,ZM h0,Int.cast_ofNat_Int,Int.add_zero] at inner
   simp only[eG,go_sem,Z3 S,Z2 S,zN0,zN1,zN2,zN3,zN4,zI0,zI1,zI2,zI3,reduceCtorEq,J6 S,hin]
   rw[Y7,Z8 (on S _ _ [1,3,5,6,7] (by decide) rfl) rfl _ _ _ _ _ _ _ _ _ rfl]
   simp only[eG,go_sem,Z3 S,Z2 S,zN0,zN1,zN2,zN3,zN4,zI0,zI1,zI2,zI3,reduceCtorEq,J6 S]
   refine inner _ ?_
   intro T q' t1 t3 t5 t6 hq' hl' hQq
   have next:=ih (i+1) f q' (by omega) (by omega) hq' hl' (by rw[hQq];exact hQ')
   by_cases h1:q'.length=0
   ·rw [DN h1] at t3
    rw[DM h1]
    rw[DN h1,DM h1] at next
    simp only[eG,go_sem,Z3 S,Z2 S,zN0,zN1,zN2,zN3,zN4,zI0,zI1,zI2,zI3,reduceCtorEq,J6 S,t1,t3,t5,t6,wi i (by omega)]
    rw[<-hK,Z8 (on S _ _ [1,3,5,6] (by decide) rfl) rfl _ _ _ _ _ _ _ _ _ rfl]
    simp only[eG,go_sem,Z3 S,Z2 S,zN0,zN1,zN2,zN3,zN4,zI0,zI1,zI2,zI3,reduceCtorEq,J6 S,t1,t3,t5,t6]
    exact next
   ·rw [ZN h1] at t3
    rw[ZM h1]
    rw[ZN h1,ZM h1] at next
    simp only[eG,go_sem,Z3 S,Z2 S,zN0,zN1,zN2,zN3,zN4,zI0,zI1,zI2,zI3,reduceCtorEq,J6 S,t1,t3,t5,t6,wi i (by omega)]
    rw[<-hK,Z8 (on S _ _ [1,3,5,6] (by decide) rfl) rfl _ _ _ _ _ _ _ _ _ rfl]
    simp only[eG,go_sem,Z3 S,Z2 S,zN0,zN1,zN2,zN3,zN4,zI0,zI1,zI2,zI3,reduceCtorEq,J6 S,t1,t3,t5,t6]
    exact next
end
end Go.Aug.Mc
