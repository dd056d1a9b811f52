import Derived.Test.YthnhboimcidhgaaGreatDoorBr
namespace Go.Aug.Mc
open Go Go.Aug
open Nat renaming reduceLT -> zN0, reduceEqDiff -> zN1, reduceAdd -> zN2, reduceMul -> zN3, reduceLeDiff -> zN4
open Int renaming reduceEq -> zI0, reduceLT -> zI1, reduceLE -> zI2, reduceNeg -> zI3
set_option linter.unusedSimpArgs false
set_option linter.unusedVariables false
set_option maxHeartbeats 40000000
theorem Z7p {l:List Ent}{k:Nat}{e:Ent}(h:k<l.length):BF true 8 (((rC (l.set k e)).map AV.d).drop (k*8))=some (.agg [.d (vi e.pc),.d (vi e.val),.d (vi e.addr),.d (vi e.frm),.d (vi e.next),.d (vb e.done),.d (vb e.known),.d (vb e.fault)]):=by
 have:=TW (e:=e) h 0 (by decide)
 rw[Nat.add_zero] at this;rw[this];rfl
theorem Zow {l:List Ent}{k:Nat}{e:Ent}(h:k<l.length):BF false 1 (((rC (l.set k e)).map AV.d).drop (k*8+3))=some (.d (vi e.frm)):=by rw[TW h 3 (by decide)];rfl
theorem Zi1 {l:List Ent}{k:Nat}{e:Ent}(h:l[k]? =some e):l.set k e=l:=by
 obtain⟨hi,rfl⟩:=List.getElem?_eq_some_iff.1 h
 exact List.set_getElem_self hi
variable {E:Env} {fn:FuncId->Option (Env->cT->cT)}
section
variable (S:Sur E fn)
include S
theorem GX:E.lives 157 1=none/\E.lives 157 7=none/\E.lives 157 19=none:=⟨off S 157 1 (by decide) rfl,off S 157 7 (by decide) rfl,off S 157 19 (by decide) rfl⟩
theorem Zmg (dp:Nat)(l:List Ent)(n:Nat)(hn:n<1073741824)(kx:Nat->K)(P:Option (AV×List Blk)->Prop)(R:List Ent)
  (hx:∀ T,ZX .bot T 0=.d (rD l)->ZX .bot T 2=.ref 0 0 0->ZX .bot T 5=.sref 1 0 0 n 8 none->P (kx 0 (mk .bot 38 T) [.cells [zi,zi,zi,zi,zi,zb,zb,zb] 0 false,.cells ((rC R).map .d) 0 false])):
  ∀(m k f:Nat) (L:List Ent),k+m=n->m<=f->L.length=n->L.take k++(L.drop k).map Md.J5=R->
  P (GJ (Zj E 157) (Z4 E fn dp) (Z9 12 GJ (Zj E 157) (Z4 E fn dp) kx (ZY 0 [.cell 2 true 8,.tmp 3,.tmp 4]) f) kx (ZY 0 [.cell 2 true 8,.tmp 3,.tmp 4]) (mk .bot 38 [(0,.d (rD l)),(2,.ref 0 0 0),(5,.sref 1 0 0 n 8 none),(15,.sref 1 0 0 n 8 none),(16,aI n),(17,aI k)]) [.cells [zi,zi,zi,zi,zi,zb,zb,zb] 0 false,.cells ((rC L).map .d) 0 false]):=by
 intro m
 induction m with
 | zero=>
  intro k f L hk _ hL hr
  rw[List.drop_of_length_le (by omega),List.take_of_length_le (by omega)] at hr
  have hr:L=R:=by simpa using hr
  subst hr
  generalize Z9 12 GJ _ _ kx _ f=KK
  first | (conv=>lhs;rw[GJ]) | rw[GJ]
  simp only[eG,go_sem,Z3 S,Z2 S,zN0,zN1,zN2,zN3,zN4,zI0,zI1,zI2,zI3,reduceCtorEq,GX S,show ¬(k:Int)<n by omega]
  exact hx _ rfl rfl rfl
 | succ m ih=>
  intro k f L hk hf hL hr
  have hkL:k<L.length:=by omega
  obtain⟨e,he⟩:=YK hkL
  obtain⟨f,rfl⟩:∃ g,f=g+1:=⟨f-1,by omega⟩
  have hkg:(k:Int)<n:=by omega
  have h0:(0:Int)<=k:=by omega
  have hr':(L.set k (Md.J5 e)).take (k+1)++((L.set k (Md.J5 e)).drop (k+1)).map Md.J5=R:=by
   rw[<-hr,XY (List.getElem?_set_self hkL),List.take_set_of_le (Nat.le_refl k),List.drop_set_of_lt (by omega),Aj he,List.map_cons,List.append_assoc];rfl
  have next:=ih (k+1) f (L.set k (Md.J5 e)) (by omega) (by omega) (by rw[List.length_set];exact hL) hr'
  generalize hK:Z9 12 GJ _ _ kx _ (f+1)=KK
  first | (conv=>lhs;rw[GJ]) | rw[GJ]
  rw[<-Zi1 he]
  by_cases h:0<=e.frm
  ·have hp : Md.J5 e = { e with frm := Md.ZW (e.frm - 1) } := by unfold Md.J5; rw [if_pos h]
   rw[hp] at next
   simp only[eG,go_sem,Z3 S,Z2 S,zN0,zN1,zN2,zN3,zN4,zI0,zI1,zI2,zI3,reduceCtorEq,GX S,hkg,h0,ge_iff_le,h,Z7p hkL,Zow hkL,CP hkL,wi k (by omega),Int.toNat_natCast,Nat.zero_add]
   rw[<-hK,Z8 (on S _ _ [0,2,5,15,16,17] (by decide) rfl) rfl _ _ _ _ _ _ _ _ _ rfl]
   simp only[eG,go_sem,Z3 S,Z2 S,zN0,zN1,zN2,zN3,zN4,zI0,zI1,zI2,zI3,reduceCtorEq,GX S]
   exact next
  ·have hp : Md.J5 e = e := by unfold Md.J5; rw [if_neg h]
   rw[hp] at next
   simp only[eG,go_sem,Z3 S,Z2 S,zN0,zN1,zN2,zN3,zN4,zI0,zI1,zI2,zI3,reduceCtorEq,GX S,hkg,h0,ge_iff_le,h,Z7p hkL,wi k (by omega),Int.toNat_natCast,Nat.zero_add]
   rw[<-hK,Z8 (on S _ _ [0,2,5,15,16,17] (by decide) rfl) rfl _ _ _ _ _ _ _ _ _ rfl]
   simp only[eG,go_sem,Z3 S,Z2 S,zN0,zN1,zN2,zN3,zN4,zI0,zI1,zI2,zI3,reduceCtorEq,GX S]
   exact next
theorem Zjf (dp:Nat)(l:List Ent)(hl:l.length<1073741823)(h0:0<l.length):Z6 E fn (dp+1) 157 [rD l] (.tup [.agg (Cl.cells (Md.ZP l 0)),rD (Md.J1 l),vb true]):=by
 unfold Z6
 show Z7 (Z4 E fn (dp+1) 157 [.d (rD l)] [])=_
 rw[ZD,S.Z9d,ZG,Zer,ZC _ _ _ _ _ _ _ _ rfl]
 obtain⟨e,he⟩:=YK h0
 have he0:Md.ZP l 0=e:=by unfold Md.ZP;rw[show(0:Int).toNat=0 from rfl,he];rfl
 have w0:=E1 (l:=l) (i:=0) (by decide) he .i64 8 rfl
 have hdl:(l.drop 1).length=l.length-1:=List.length_drop
 have hd2:(l.drop 1).length<1073741824:=by omega
 have hne:(l.length:Int)≠0:=by omega
 have bd:=Sw l.length .i64 1 (by omega) (by omega)
 have h1:(1:Int).toNat=1:=rfl
 have n1:(l.drop 1).length*48<=Z5:=by unfold Z5;omega
 rw[he0]
 have htk:(l.drop 1).take (l.length-1)=l.drop 1:=List.take_of_length_le (by omega)
 by_cases hz:(l.drop 1).length=0
 ·have hz1 : l.drop 1 = [] := List.length_eq_zero_iff.1 hz
  have hpop:Md.J1 l=[]:=by unfold Md.J1;rw[hz1];rfl
  have oa:∀ i,YN i (l.drop 1)=.d (.lst [] 0 (some 0)):=fun i=>by rw[hz1];rfl
  have ob:Yz (l.drop 1)=[]:=by rw[hz1];rfl
  rw[hpop]
  simp only[eG,go_sem,Z3 S,Z2 S,zN0,zN1,zN2,zN3,zN4,zI0,zI1,zI2,zI3,reduceCtorEq,GX S,htk,hne,bd,h1,w0,RK S hd2,Nat.zero_add,Nat.one_mul,Nat.zero_mul,Bool.not_true,Bool.not_false,List.drop_drop,oa,ob]
  rw[Y7,Z8 (on S _ _ [0,2,5,15,16,17] (by decide) rfl) rfl _ _ _ _ _ _ _ _ _ rfl]
  simp only[eG,go_sem,Z3 S,Z2 S,zN0,zN1,zN2,zN3,zN4,zI0,zI1,zI2,zI3,reduceCtorEq,GX S]
  generalize Z9 12 GJ _ _ _ _ _=KK
  first | (conv=>lhs;rw[GJ]) | rw[GJ]
  simp only[eG,go_sem,Z3 S,Z2 S,zN0,zN1,zN2,zN3,zN4,zI0,zI1,zI2,zI3,reduceCtorEq,GX S,w0,show ¬(0:Int)<((0:Nat):Int) by decide]
 ·simp only [eG, go_sem, Z3 S, Z2 S, zN0, zN1, zN2, zN3, zN4, zI0, zI1, zI2, zI3, reduceCtorEq, GX S, htk, hne, bd, h1, w0, RK S hd2, Nat.zero_add, Nat.one_mul, Nat.zero_mul, Bool.not_true, Bool.not_false, List.drop_drop, ZN hz, ZM hz]
  rw[Y7,Z8 (on S _ _ [0,2,5,15,16,17] (by decide) rfl) rfl _ _ _ _ _ _ _ _ _ rfl]
  simp only[eG,go_sem,Z3 S,Z2 S,zN0,zN1,zN2,zN3,zN4,zI0,zI1,zI2,zI3,reduceCtorEq,GX S]
  have go:=fun(kx:Nat->K) (P:Option (AV×List Blk)->Prop) hx=>Zmg S dp l (l.drop 1).length hd2 kx P (Md.J1 l) hx (l.drop 1).length 0 999999999999999999999999999999 (l.drop 1) (by omega) (by omega) rfl (by rw[List.take_zero];rfl)
  simp only[Int.cast_ofNat_Int] at go
  refine go _ (fun r=>Z7 r=_) ?_
  intro T t0 t2 t5
  have hpl:(Md.J1 l).length=(l.drop 1).length:=by unfold Md.J1;rw[List.length_map]
  have hd:deep [.cells ((rC (Md.J1 l)).map .d) 0 false] 7 (.sref 0 0 0 (l.drop 1).length 8 none)=some (.lst (rC (Md.J1 l)) (Md.J1 l).length none,[0]):=Ax (Md.J1 l) (fun h=>hz (by rw[<-hpl,h];rfl)) _ hpl.symm 5 8 none rfl
  simp only[eG,go_sem,Z3 S,Z2 S,zN0,zN1,zN2,zN3,zN4,zI0,zI1,zI2,zI3,reduceCtorEq,GX S,htk,hne,bd,h1,w0,RK S hd2,Nat.zero_add,Nat.one_mul,Nat.zero_mul,Bool.not_true,Bool.not_false,List.drop_drop,t0,t2,t5,hd]
  rfl
theorem Ev (dp:Nat)(l:List Ent)(hl:l.length<1073741823)(h0:0<l.length)(A:List Blk)(nb:Nat):Zv false E (Z4 E fn (dp+1)) 157 A nb (some ([rD l],[]))=some (.made (.d (.tup [.agg (Cl.cells (Md.ZP l 0)),rD (Md.J1 l),vb true])) []):=
 Z6.deep (Zjf S dp l hl h0) (np S 157 (by decide)) A nb
end
def CS:Option (List Int)->DV
 | none=>.tup [rD ([]:List Int),vb false]
 | some r=>.tup [rD r,vb true]
theorem Z3j {i:Nat}{out junk:List Int}{k:Option Nat}{A:List Blk}{b:Bool}(hA:A[i]? =some (.cells ((rC (out++junk)).map .d) 0 false)):
  Z7 (Dw 0 (some (.tup [.sref i 0 0 out.length 1 k,Yx b],A)))=some (.tup [rD out,vb b]):=by
 have hi:¬A.length<=i:=by
  intro h;rw[List.getElem?_eq_none h] at hA;cases hA
 cases out with
 | nil=>simp only[eG,go_sem,PP,hA,hi,List.not_mem_nil,false_or,or_false,Nat.not_lt_zero,if_false]
 | cons x xs=>
  have hd:deep [.cells ((rC (x::xs++junk)).map .d) 0 false] 7 (.sref 0 0 0 (x::xs).length 1 k)=some (.lst (rC (x::xs)) (x::xs).length k,[0]):=Zcd (by simp) rfl _ _ _ rfl
  simp only[eG,go_sem,PP,hA,hi,List.not_mem_nil,false_or,or_false,Nat.not_lt_zero,if_false] at hd ⊢
  rw[hd]
  rfl
variable {E:Env} {fn:FuncId->Option (Env->cT->cT)}
section
variable (S:Sur E fn)
include S
theorem C6:E.lives 133 1=none/\E.lives 133 17=none/\E.lives 133 19=none/\E.lives 133 25=none/\E.lives 133 27=none:=⟨off S 133 1 (by decide) rfl,off S 133 17 (by decide) rfl,off S 133 19 (by decide) rfl,off S 133 25 (by decide) rfl,off S 133 27 (by decide) rfl⟩
theorem Z7h (dp:Nat)(p:Prog)(l:List Ent)(i:Int)(hl:l.length<1073741824)(kx:Nat->K)
  (hx:∀ T out junk k,ZX .bot T 10=.sref 1 0 0 (out:List Int).length 1 k->Z7 (kx 0 (mk .bot 59 T) [.cells ((Y3 p).map .d) 0 false,.cells ((rC (out++junk)).map .d) 0 false])=some (CS (some out))):
  ∀(m k fuel:Nat) (out junk:List Int) (q:Option Nat),k+m=(Md.cut l i).length->m<=fuel->out.length<1073741824->(q=none∨q=some 0/\out=[]/\junk=[])->Z7 (G0 (Zj E 133) (Z4 E fn (dp+1)) (Z9 8 G0 (Zj E 133) (Z4 E fn (dp+1)) kx (ZY 0 [.tmp 8,.tmp 9]) fuel) kx (ZY 0 [.tmp 8,.tmp 9])
   (mk .bot 59 [(2,.d (rD l)),(3,aI i),(4,.ref 0 0 0),(10,.sref 1 0 0 out.length 1 q),(11,aI k)]) [.cells ((Y3 p).map .d) 0 false,.cells ((rC (out++junk)).map .d) 0 false])=
   some (CS (Md.QX p ((Md.cut l i).drop k) out)):=by
 intro m
 have hcl:(Md.cut l i).length=min i.toNat l.length:=by simp[Md.cut]
 induction m with
 | zero=>
  intro k fuel out junk q hk _ ho hq
  generalize Z9 8 G0 _ _ kx _ fuel=KK
  rw[G0,List.drop_of_length_le (by omega)]
  by_cases h1:(k:Int)<i
  ·simp only [eG, go_sem, Z3 S, Z2 S, zN0, zN1, zN2, zN3, zN4, zI0, zI1, zI2, zI3, reduceCtorEq, C6 S, h1, show ¬ (k : Int) < l.length by omega, Md.QX]
   exact hx _ _ _ q rfl
  ·simp only [eG, go_sem, Z3 S, Z2 S, zN0, zN1, zN2, zN3, zN4, zI0, zI1, zI2, zI3, reduceCtorEq, C6 S, h1, Md.QX]
   exact hx _ _ _ q rfl
 | succ m ih=>
  intro k fuel out junk q hk hf ho hq
  obtain⟨e,he⟩:=YK (show k<l.length by omega)
  have hc:(Md.cut l i)[k]? =some e:=by unfold Md.cut;rw[List.getElem?_take,if_pos (by omega),he]
  obtain⟨fuel,rfl⟩:∃ m,fuel=m+1:=⟨fuel-1,by omega⟩
  generalize hK:Z9 8 G0 _ _ kx _ (fuel+1)=KK
  rw[G0,Aj hc,Md.QX]
  have h1:(k:Int)<i:=by omega
  have h2:(k:Int)<l.length:=by omega
  by_cases k8:(Md.at_ p e.pc).kind=8
  ·by_cases h4 : 4 <= out.length
   ·simp only[eG,go_sem,Z3 S,Z2 S,zN0,zN1,zN2,zN3,zN4,zI0,zI1,zI2,zI3,reduceCtorEq,C6 S,Zx he,ZU S,wi k (by omega),h1,h2,ge_iff_le,k8,h4,show(4:Int)<=out.length by omega,CS]
   ·have l1 : (out.length + 1) * 8 <= Z5 := by unfold Z5; omega
    have l2:out.length+1<=Z5:=by unfold Z5;omega
    rcases hq with rfl | ⟨rfl,rfl,rfl⟩
    ·cases junk with
     | nil=>
      simp only[List.append_nil]
      simp only[eG,go_sem,Z3 S,Z2 S,zN0,zN1,zN2,zN3,zN4,zI0,zI1,zI2,zI3,reduceCtorEq,C6 S,Zx he,ZU S,wi k (by omega),h1,h2,ge_iff_le,k8,h4,show ¬(4:Int)<=out.length by omega,Zq,BU,l1,l2]
      rw[<-hK,Z8 (on S _ _ [2,3,4,10,11] (by decide) rfl) rfl _ _ _ _ _ _ _ _ _ rfl]
      simp only[eG,go_sem,Z3 S,Z2 S,zN0,zN1,zN2,zN3,zN4,zI0,zI1,zI2,zI3,reduceCtorEq,C6 S,Zx he,ZU S,wi k (by omega),h1,h2,ge_iff_le]
      have e1:out.length+1=(out++[Md.ZW (e.pc+1)]).length:=by simp
      have:=ih (k+1) fuel (out++[Md.ZW (e.pc+1)]) [] none (by omega) (by omega) (by simp;omega) (.inl rfl)
      rw[<-e1,List.append_nil] at this
      exact this
     | cons y junk=>
      simp only[eG,go_sem,Z3 S,Z2 S,zN0,zN1,zN2,zN3,zN4,zI0,zI1,zI2,zI3,reduceCtorEq,C6 S,Zx he,ZU S,wi k (by omega),h1,h2,ge_iff_le,k8,h4,show ¬(4:Int)<=out.length by omega,Zq,Z3i (y:=y) (junk:=junk),l1,l2]
      rw[<-hK,Z8 (on S _ _ [2,3,4,10,11] (by decide) rfl) rfl _ _ _ _ _ _ _ _ _ rfl]
      simp only[eG,go_sem,Z3 S,Z2 S,zN0,zN1,zN2,zN3,zN4,zI0,zI1,zI2,zI3,reduceCtorEq,C6 S,Zx he,ZU S,wi k (by omega),h1,h2,ge_iff_le]
      have e1:out.length+1=(out++[Md.ZW (e.pc+1)]).length:=by simp
      have:=ih (k+1) fuel (out++[Md.ZW (e.pc+1)]) junk none (by omega) (by omega) (by simp;omega) (.inl rfl)
      rw[<-e1,List.append_assoc] at this
      exact this
    ·simp only [eG, go_sem, Z3 S, Z2 S, zN0, zN1, zN2, zN3, zN4, zI0, zI1, zI2, zI3, reduceCtorEq, C6 S, Zx he, ZU S, wi k (by omega), h1, h2, ge_iff_le, k8, List.length_nil, show ¬ (4 : Int) <= (0 : Nat) by omega, Zq, Cw (cs := []), Nat.succ_ne_zero, show (1 : Nat) * 8 <= Z5 by decide, show (1 : Nat) <= Z5 by decide, ne_eq, not_false_eq_true]
     rw[<-hK,Z8 (on S _ _ [2,3,4,10,11] (by decide) rfl) rfl _ _ _ _ _ _ _ _ _ rfl]
     simp only[eG,go_sem,Z3 S,Z2 S,zN0,zN1,zN2,zN3,zN4,zI0,zI1,zI2,zI3,reduceCtorEq,C6 S,Zx he,ZU S,wi k (by omega),h1,h2,ge_iff_le]
     exact ih (k+1) fuel [Md.ZW (e.pc+1)] [] none (by omega) (by omega) (by simp) (.inl rfl)
  ·by_cases k9 : (Md.at_ p e.pc).kind = 9
   ·cases hr : out.reverse with
    | nil=>
     have:out=[]:=List.reverse_eq_nil_iff.1 hr
     subst this
     simp only[eG,go_sem,Z3 S,Z2 S,zN0,zN1,zN2,zN3,zN4,zI0,zI1,zI2,zI3,reduceCtorEq,C6 S,Zx he,ZU S,wi k (by omega),h1,h2,ge_iff_le,k8,k9,List.length_nil,CS,zI0,Int.natCast_eq_zero]
    | cons y r=>
     have e0:out=r.reverse++[y]:=by rw[<-List.reverse_reverse out,hr,List.reverse_cons]
     subst e0
     have e1:(r.reverse++[y]).dropLast=r.reverse:=List.dropLast_concat
     have e2:(r.reverse++[y]).length=r.reverse.length+1:=by simp
     rcases hq with rfl | ⟨_,h,_⟩
     ·have w1 : IntKind.i64.wrap (((r.reverse.length + 1 : Nat) : Int) - 1) = (r.reverse.length : Int) := by rw [e2] at ho; rw [YH (by omega) (by omega)]; omega
      have bd:=Hk (r.reverse.length+1) .i64 (r.reverse.length:Int) (by omega) (by omega)
      rw[e2,e1]
      simp only[eG,go_sem,Z3 S,Z2 S,zN0,zN1,zN2,zN3,zN4,zI0,zI1,zI2,zI3,reduceCtorEq,C6 S,Zx he,ZU S,wi k (by omega),h1,h2,ge_iff_le,k8,k9,w1,bd,Int.toNat_natCast,Nat.succ_ne_zero,Int.natCast_eq_zero,ne_eq,not_true_eq_false,and_false,Nat.zero_mul,Nat.sub_zero,Nat.add_zero,Nat.zero_add]
      rw[<-hK,Z8 (on S _ _ [2,3,4,10,11] (by decide) rfl) rfl _ _ _ _ _ _ _ _ _ rfl]
      simp only[eG,go_sem,Z3 S,Z2 S,zN0,zN1,zN2,zN3,zN4,zI0,zI1,zI2,zI3,reduceCtorEq,C6 S,Zx he,ZU S,wi k (by omega),h1,h2,ge_iff_le]
      have:=ih (k+1) fuel r.reverse ([y]++junk) none (by omega) (by omega) (by omega) (.inl rfl)
      rw[<-List.append_assoc] at this
      exact this
     ·simp at h
   ·simp only [eG, go_sem, Z3 S, Z2 S, zN0, zN1, zN2, zN3, zN4, zI0, zI1, zI2, zI3, reduceCtorEq, C6 S, Zx he, ZU S, wi k (by omega), h1, h2, ge_iff_le, k8, k9]
    rw[<-hK,Z8 (on S _ _ [2,3,4,10,11] (by decide) rfl) rfl _ _ _ _ _ _ _ _ _ rfl]
    simp only[eG,go_sem,Z3 S,Z2 S,zN0,zN1,zN2,zN3,zN4,zI0,zI1,zI2,zI3,reduceCtorEq,C6 S,Zx he,ZU S,wi k (by omega),h1,h2,ge_iff_le]
    exact ih (k+1) fuel out junk q (by omega) (by omega) ho hq
def EE {α:Type}:Option α->Bool
 | some _=>true
 | none=>false
def B6:Option (List Int)->List Int
 | some l=>l
 | none=>[]
theorem Zk0 (dp:Nat)(p:Prog)(sk:List Int)(l:List Ent)(i:Int)(hl:l.length<1073741824)(hs:sk.length<1073741824):Z6 E fn (dp+2) 133 [Zw p,rD sk,rD l,vi i] (.tup [rD (B6 (Md.real p sk l i)),vb (EE (Md.real p sk l i))]):=by
 unfold Z6
 show Z7 (Z4 E fn (dp+1+1) 133 [.d (Zw p),.d (rD sk),.d (rD l),.d (vi i)] [])=_
 rw[ZD,S.Z1x,ZG,Z3n,ZC _ _ _ _ _ _ _ _ rfl]
 have fin:∀ X:Option (List Int),DV.tup [rD (B6 X),vb (EE X)]=CS X:=fun X=>by cases X<;>rfl
 rw[fin]
 by_cases h0:sk.length=0
 ·have : sk = [] := List.length_eq_zero_iff.1 h0
  subst this
  simp only[eG,go_sem,Z3 S,Z2 S,zN0,zN1,zN2,zN3,zN4,zI0,zI1,zI2,zI3,reduceCtorEq,C6 S,YS]
  rw[Y7,Z8 (on S _ _ [2,3,4,10,11] (by decide) rfl) rfl _ _ _ _ _ _ _ _ _ rfl]
  simp only[eG,go_sem,Z3 S,Z2 S,zN0,zN1,zN2,zN3,zN4,zI0,zI1,zI2,zI3,reduceCtorEq,C6 S]
  refine Z7h S dp p l i hl _ ?_ (Md.cut l i).length 0 _ [] [] (some 0) (by omega) (by have:=K4 l i;omega) (by simp) (.inr ⟨rfl,rfl,rfl⟩)
  intro T out junk k h
  simp only[go_sem,Z3 S,Z2 S,zN0,zN1,zN2,zN3,zN4,zI0,zI1,zI2,zI3,reduceCtorEq,C6 S,h]
  exact Z3j rfl
 ·have l1 : sk.length * 8 <= Z5 := by unfold Z5; omega
  have l2:sk.length<=Z5:=by unfold Z5;omega
  have l3:(((rC sk).map AV.d).all AV.one)=true:=G5 _
  simp only[eG,go_sem,Z3 S,Z2 S,zN0,zN1,zN2,zN3,zN4,zI0,zI1,zI2,zI3,reduceCtorEq,C6 S,YS,Cw (cs:=[]),l1,l2,l3,ne_eq,h0,not_false_eq_true]
  rw[Y7,Z8 (on S _ _ [2,3,4,10,11] (by decide) rfl) rfl _ _ _ _ _ _ _ _ _ rfl]
  simp only[eG,go_sem,Z3 S,Z2 S,zN0,zN1,zN2,zN3,zN4,zI0,zI1,zI2,zI3,reduceCtorEq,C6 S]
  have:=Z7h S dp p l i hl (Hq 0 (cQ (Z1 [st 58 (oV (.t 10)),st 8 (oV (.t 58)),st 9 (oV (.c (.v (.bool true))))]) cZ (Zj E 133) (Z4 E fn (dp+1)) (ZY 0 [.tmp 8,.tmp 9]) (fun _ _ _=>none) (ZY 0 [.tmp 8,.tmp 9])) (fun _ _ _=>none)) ?_ (Md.cut l i).length 0 999999999999999999999999999999 sk [] none (by omega) (by have:=K4 l i;omega) hs (.inl rfl)
  ·rw [List.append_nil] at this
   exact this
  intro T out junk k h
  simp only[go_sem,Z3 S,Z2 S,zN0,zN1,zN2,zN3,zN4,zI0,zI1,zI2,zI3,reduceCtorEq,C6 S,h]
  exact Z3j rfl
theorem JW (dp:Nat)(p_w p_wn p_fu p_r0 p_r1 p_r2 p_r3:Int)(p_ms:List MemT)(p_ls:List Label)(p_is:List Ins)(sk:List Int)(l:List Ent)(i:Int)(hl:l.length<1073741824)(hs:sk.length<1073741824)(A:List Blk)(nb:Nat):Zv false E (Z4 E fn (dp+2)) 133 A nb (some ([.agg [vi p_w,vi p_wn,vi p_fu,vi p_r0,vi p_r1,vi p_r2,vi p_r3,rD p_ms,rD p_ls,rD p_is],rD sk,rD l,vi i],[]))=some (.made (.d (.tup [rD (B6 (Md.real (⟨p_w,p_wn,p_fu,⟨p_r0,p_r1,p_r2,p_r3⟩,p_ms,p_ls,p_is⟩:Prog) sk l i)),vb (EE (Md.real (⟨p_w,p_wn,p_fu,⟨p_r0,p_r1,p_r2,p_r3⟩,p_ms,p_ls,p_is⟩:Prog) sk l i))])) []):=
 Z6.deep (Zk0 S dp (⟨p_w,p_wn,p_fu,⟨p_r0,p_r1,p_r2,p_r3⟩,p_ms,p_ls,p_is⟩:Prog) sk l i hl hs) (np S 133 (by decide)) A nb
end
variable {E:Env} {fn:FuncId->Option (Env->cT->cT)}
section
variable (S:Sur E fn)
include S
theorem Zk1 (dp:Nat)(l:List Int)(x:Int)(hl:l.length<1073741823):Z6 E fn (dp+1) 134 [rD l,vi x] (rD (Md.push l x)):=by
 unfold Z6
 show Z7 (Z4 E fn (dp+1) 134 [.d (rD l),.d (vi x)] [])=_
 rw[ZD,S.Za1,ZG,Zfe,ZC _ _ _ _ _ _ _ _ rfl]
 by_cases h0:l.length=0
 ·have : l = [] := List.length_eq_zero_iff.1 h0
  subst this
  have bd:=Sw 1 .i64 0 (by omega) (by omega)
  have w1:max (IntKind.i64.wrap (((0+1:Nat):Int)-2)) 0=0:=by decide
  simp only[eG,go_sem,Z3 S,Z2 S,Nat.reduceLT,Nat.reduceEqDiff,Nat.reduceAdd,Nat.reduceMul,Nat.reduceLeDiff,Int.reduceEq,Int.reduceLT,Int.reduceLE,Int.reduceNeg,reduceCtorEq,YS,Zq,Cw (cs:=[]),ne_eq,Nat.succ_ne_zero,not_false_eq_true,show(1:Nat)*8<=Z5 by decide,show(1:Nat)<=Z5 by decide,Int.natCast_one,Nat.zero_add,Int.reduceSub,show IntKind.i64.wrap (-1)= -1 by decide,show max (-1:Int) 0=0 by decide,bd,Int.toNat_zero,and_false,not_true_eq_false,false_and,Nat.zero_mul,Nat.sub_zero,Nat.add_zero,Md.push,List.drop_zero,Y9,Nat.one_mul,Nat.le_refl,Nat.zero_ne_one,Nat.one_ne_zero]
  rfl
 ·have l1 : l.length * 8 <= Z5 := by unfold Z5; omega
  have l2:l.length<=Z5:=by unfold Z5;omega
  have l3:(((rC l).map AV.d).all AV.one)=true:=G5 _
  have l4:(l.length+1)*8<=Z5:=by unfold Z5;omega
  have l5:l.length+1<=Z5:=by unfold Z5;omega
  have w1:max (IntKind.i64.wrap (((l.length+1:Nat):Int)-2)) 0=((l.length-1:Nat):Int):=by rw[YH (by omega) (by omega)];omega
  have bd:=Sw (l.length+1) .i64 ((l.length-1:Nat):Int) (by omega) (by omega)
  have n1:¬(l.length-1=l.length+1):=by omega
  simp only[eG,go_sem,Z3 S,Z2 S,Nat.reduceLT,Nat.reduceEqDiff,Nat.reduceAdd,Nat.reduceMul,Nat.reduceLeDiff,Int.reduceEq,Int.reduceLT,Int.reduceLE,Int.reduceNeg,reduceCtorEq,YS,Zq,Cw (cs:=[]),l1,l2,l3,ne_eq,h0,not_false_eq_true,BU,l4,l5,w1,bd,Int.toNat_natCast,n1,false_and,Nat.mul_one,Nat.zero_add]
  have e1:l++[x]=(l++[x]).take (l.length-1)++((l++[x]).drop (l.length-1)++[]):=by rw[List.append_nil,List.take_append_drop]
  have hd:∀ j A,A[j]? =some (.cells ((rC (l++[x])).map .d) 0 false)->deep A 8 (.sref j 0 (l.length-1) (l.length+1-(l.length-1)) 1 none)=some (.lst (rC ((l++[x]).drop (l.length-1))) (l.length+1-(l.length-1)) none,[j]):=by
   intro j A hA
   refine Z2e (pre:=(l++[x]).take (l.length-1)) (junk:=[]) (by rw[<-e1];exact hA) ?_ 6 _ _ _ _ rfl ?_ ?_
   ·intro h
    have:=congrArg List.length h
    simp at this
    omega
   ·simp[Z6y];omega
   ·simp
  have:=hd 0 [.cells ((rC (l++[x])).map .d) 0 false] rfl
  rw[this]
  have e2:l.length+1-(l.length-1)=(Md.push l x).length:=by simp[Md.push]
  rw[e2]
  rfl
theorem K6 (dp:Nat)(l:List Int)(x:Int)(hl:l.length<1073741823)(A:List Blk)(nb:Nat):Zv false E (Z4 E fn (dp+1)) 134 A nb (some ([rD l,vi x],[]))=some (.made (.d (rD (Md.push l x))) []):=
 Z6.deep (Zk1 S dp l x hl) (np S 134 (by decide)) A nb
end
theorem Z1k {l:List Int}(h:l.length≠0):l[l.length-1]? =some (Md.C9 l):=by
 unfold Md.C9
 rw[List.getLast?_eq_getElem?]
 obtain⟨e,he⟩:=YK (show l.length-1<l.length by omega)
 rw[he];rfl
theorem Z1g {A:List Blk}{i:Nat}{b:Blk}(h:A[i]? =some b):¬A.length<=i:=by
 intro hl
 rw[List.getElem?_eq_none hl] at h
 cases h
theorem Ztj {L:List Ent}{A:List Blk}{j v len:Nat}{k:Option Nat}{r0 r1 r2 r3 mm sk pc rb en x:DV}
  (hA:A[j]? =some (.cells ((rC L).map .d) v false)) (h0:L≠[]) (hl:len=L.length) (f0:[r0,r1,r2,r3,mm,sk,pc,rb,en].map (fk 2)=[r0,r1,r2,r3,mm,sk,pc,rb,en]) (fx:fk 3 x=x):
  Z7 (Dw 0 (some (.tup [.agg [.d r0,.d r1,.d r2,.d r3,.d mm,.d sk,.d pc,.sref j v 0 len 8 k,.d rb,.d en],.d x],A)))=some (.tup [.agg [r0,r1,r2,r3,mm,sk,pc,rD L,rb,en],x]):=by
 subst hl
 have hi:=Z1g hA
 have hd:=Ax L h0 L.length rfl 4 8 k rfl
 simp only[List.map_cons,List.map_nil,List.cons.injEq,and_true] at f0
 simp only[eG,go_sem,PP,hA,hi,List.not_mem_nil,false_or,or_false,Nat.not_lt_zero,if_false,hd,f0,fx]
 rfl
theorem Zti {L:List Ent}{R:List Int}{A:List Blk}{j v len j2 v2 len2:Nat}{k k2:Option Nat}{r0 r1 r2 r3 mm sk pc en x:DV}
  (hA:A[j]? =some (.cells ((rC L).map .d) v false)) (h0:L≠[]) (hl:len=L.length) (hB:A[j2]? =some (.cells ((rC R).map .d) v2 false)) (h2:len2=R.length) (hj:j≠j2) (f0:[r0,r1,r2,r3,mm,sk,pc,en].map (fk 2)=[r0,r1,r2,r3,mm,sk,pc,en]) (fx:fk 3 x=x):
  Z7 (Dw 0 (some (.tup [.agg [.d r0,.d r1,.d r2,.d r3,.d mm,.d sk,.d pc,.sref j v 0 len 8 k,.sref j2 v2 0 len2 1 k2,.d en],.d x],A)))=some (.tup [.agg [r0,r1,r2,r3,mm,sk,pc,rD L,rD R,en],x]):=by
 subst hl h2
 have hi:=Z1g hA
 have hi2:=Z1g hB
 have hj':j2≠j:=fun e=>hj e.symm
 have hd:deep [.cells ((rC L).map .d) 0 false,.cells ((rC R).map .d) 0 false] 6 (.sref 0 0 0 L.length 8 k)=some (.lst (rC L) L.length k,[0]):=Bv rfl h0 4 _ 8 k rfl rfl
 simp only[List.map_cons,List.map_nil,List.cons.injEq,and_true] at f0
 by_cases hR:R=[]
 ·subst hR
  simp only[eG,go_sem,PP,hA,hB,hi,hi2,hj,hj',List.not_mem_nil,List.mem_cons,false_or,or_false,Nat.not_lt_zero,if_false,f0,fx] at hd ⊢
  simp only[hd,go_sem,f0,fx]
  rfl
 ·have hd2 : deep [.cells ((rC L).map .d) 0 false, .cells ((rC R).map .d) 0 false] 6 (.sref 1 0 0 R.length 1 k2) = some (.lst (rC R) R.length k2, [1]) := Bv rfl hR 4 _ 1 k2 rfl rfl
  simp only[eG,go_sem,PP,hA,hB,hi,hi2,hj,hj',List.not_mem_nil,List.mem_cons,false_or,or_false,Nat.not_lt_zero,if_false,hd,hd2,f0,fx]
  rfl
theorem Cv {l:List Ent}{e:Ent}{D:DV}{A:List Blk}{j v len:Nat}{k:Option Nat}{r0 r1 r2 r3 mm sk pc rb en x:DV}
  (hA:A[j]? =some (.cells ((rC (l++[e])).map .d) v false)) (hD:D=.tup [.agg [r0,r1,r2,r3,mm,sk,pc,rD (l++[e]),rb,en],x]) (f0:[r0,r1,r2,r3,mm,sk,pc,rb,en].map (fk 2)=[r0,r1,r2,r3,mm,sk,pc,rb,en]) (hl:len=(l++[e]).length) (fx:fk 3 x=x) (_:0=0):
  Z7 (Dw 0 (some (.tup [.agg [.d r0,.d r1,.d r2,.d r3,.d mm,.d sk,.d pc,.sref j v 0 len 8 k,.d rb,.d en],.d x],A)))=some D:=by
 rw[hD];exact Ztj hA (by simp) hl f0 fx
theorem Xv {l:List Ent}{e:Ent}{R:List Int}{D:DV}{A:List Blk}{j v len j2 v2 len2:Nat}{k k2:Option Nat}{r0 r1 r2 r3 mm sk pc en x:DV}
  (hA:A[j]? =some (.cells ((rC (l++[e])).map .d) v false)) (hB:A[j2]? =some (.cells ((rC R).map .d) v2 false)) (hD:D=.tup [.agg [r0,r1,r2,r3,mm,sk,pc,rD (l++[e]),rD R,en],x]) (hj:j≠j2) (hl:len=(l++[e]).length) (f0:[r0,r1,r2,r3,mm,sk,pc,en].map (fk 2)=[r0,r1,r2,r3,mm,sk,pc,en]) (fx:fk 3 x=x) (h2:len2=R.length:=by first | rfl | simp):
  Z7 (Dw 0 (some (.tup [.agg [.d r0,.d r1,.d r2,.d r3,.d mm,.d sk,.d pc,.sref j v 0 len 8 k,.sref j2 v2 0 len2 1 k2,.d en],.d x],A)))=some D:=by
 rw[hD];exact Zti hA (by simp) hl hB h2 hj f0 fx
def H1 (p:Prog)(c:Conf)(g:Int):Conf:=bif Md.BC p c g then Md.BK p c g else Md.B1
variable {E:Env} {fn:FuncId->Option (Env->cT->cT)}
section
variable (S:Sur E fn)
include S
theorem Gj:E.lives 80 7=none/\E.lives 80 19=none/\E.lives 80 21=none/\E.lives 80 25=none/\E.lives 80 29=none/\E.lives 80 33=none/\E.lives 80 39=none/\E.lives 80 45=none/\E.lives 80 53=none/\E.lives 80 55=none:=⟨off S 80 7 (by decide) rfl,off S 80 19 (by decide) rfl,off S 80 21 (by decide) rfl,off S 80 25 (by decide) rfl,off S 80 29 (by decide) rfl,off S 80 33 (by decide) rfl,off S 80 39 (by decide) rfl,off S 80 45 (by decide) rfl,off S 80 53 (by decide) rfl,off S 80 55 (by decide) rfl⟩
theorem Zk7 (dp:Nat)(p:Prog)(c:Conf)(g:Int)(hi:p.ins.length<1073741824)(hb:c.buf.length<1073741823)(hs:c.state.stack.length<1073741824)(hr:c.rsb.length<1073741823):Z6 E fn (dp+3) 80 [Zw p,ZS c,vi g] (.tup [ZS (H1 p c g),vb (Md.BC p c g)]):=by
 unfold Z6
 show Z7 (Z4 E fn (dp+2+1) 80 [.d (Zw p),.d (ZS c),.d (vi g)] [])=_
 rw[ZD,S.Za7,ZG,Zfk,ZC _ _ _ _ _ _ _ _ rfl]
 have hb':c.buf.length<1073741824:=by omega
 by_cases g0:g<0
 ·simp only[eG,go_sem,Z3 S,Z2 S,zN0,zN1,zN2,zN3,zN4,zI0,zI1,zI2,zI3,reduceCtorEq,Gj S,g0,H1,Md.BC,show ¬0<=g by omega,Md.B1]
 by_cases g1:g>=Md.Qq p c
 ·simp only[eG,go_sem,Z3 S,Z2 S,zN0,zN1,zN2,zN3,zN4,zI0,zI1,zI2,zI3,reduceCtorEq,Gj S,g0,g1,H1,Md.BC,show ¬g<Md.Qq p c by omega,Md.B1,EB S,hi]
 have hc:Md.BC p c g=true:=by simp[Md.BC];omega
 unfold H1
 rw[hc,cond_true]
 by_cases h0:c.buf.length=0
 ·have hbn : c.buf = [] := List.length_eq_zero_iff.1 h0
  simp only[go_sem,Z3 S,Z2 S,zN0,zN1,zN2,zN3,zN4,zI0,zI1,zI2,zI3,reduceCtorEq,Gj S,g0,g1,EB S,hi,ZU S,JW S,K6 S,hb,hb',hs,hr,YS,Zq,show(1:Nat)*48<=Z5 by decide,show(1:Nat)<=Z5 by decide,ne_eq,not_false_eq_true,Nat.one_ne_zero,Md.ZW,Md.BK,Md.Qx,if_true,if_false,FW,Cw (cs:=[]),false_and,and_false,h0]
  by_cases k5:(Md.at_ p c.state.pc).kind=5
  ·by_cases hg : g = 1
   ·simp only [k5, hg, decide_true, decide_false, cond_true, cond_false, if_true, if_false, zI0, or_self, or_true, true_or]
    rw[hbn]
    refine Cv (l:=[]) ?_ rfl rfl ?_ rfl rfl
    ·rfl
    ·first | rfl | simp
   ·simp only [k5, hg, decide_true, decide_false, cond_true, cond_false, if_true, if_false, zI0, or_self, or_true, true_or]
    rw[hbn]
    refine Cv (l:=[]) ?_ rfl rfl ?_ rfl rfl
    ·rfl
    ·first | rfl | simp
  by_cases k6:(Md.at_ p c.state.pc).kind=6
  ·simp only [k6, decide_true, decide_false, cond_true, cond_false, if_true, if_false, zI0, or_self, or_true, true_or]
   rw[hbn]
   refine Cv (l:=[]) ?_ rfl rfl ?_ rfl rfl
   ·rfl
   ·first | rfl | simp
  by_cases k7:(Md.at_ p c.state.pc).kind=7
  ·simp only [k7, decide_true, decide_false, cond_true, cond_false, if_true, if_false, zI0, or_self, or_true, true_or]
   rw[hbn]
   refine Cv (l:=[]) ?_ rfl rfl ?_ rfl rfl
   ·rfl
   ·first | rfl | simp
  by_cases k9:(Md.at_ p c.state.pc).kind=9
  ·by_cases hz : c.rsb.length = 0
   ·simp only [k9, hz, decide_true, decide_false, cond_true, cond_false, if_true, if_false, zI0, or_self, or_true, true_or, show ¬ ((0 : Nat) : Int) > 0 by omega]
    rw[hbn]
    refine Cv (l:=[]) ?_ rfl rfl ?_ rfl rfl
    ·rfl
    ·first | rfl | simp
   ·have w2 : IntKind.i64.wrap ((c.rsb.length : Int) - 1) = ((c.rsb.length - 1 : Nat) : Int) := by rw [YH (by omega) (by omega)]; omega
    have bd:=Hk c.rsb.length .i64 ((c.rsb.length-1:Nat):Int) (by omega) (by omega)
    have hlast:=Z1k hz
    have hdl:c.rsb.take (c.rsb.length-1)=c.rsb.dropLast:=List.dropLast_eq_take.symm
    simp only[k9,hz,decide_true,decide_false,cond_true,cond_false,if_true,if_false,zI0,or_self,or_true,true_or,show(c.rsb.length:Int)>0 by omega]
    by_cases hq:c.rsb.dropLast.length=0
    ·have hq2 : c.rsb.dropLast = [] := List.length_eq_zero_iff.1 hq
     simp only[go_sem,Z3 S,Z2 S,zN0,zN1,zN2,zN3,zN4,zI0,zI1,zI2,zI3,reduceCtorEq,Gj S,g0,g1,EB S,hi,ZU S,JW S,K6 S,hb,hb',hs,hr,YS,Zq,show(1:Nat)*48<=Z5 by decide,show(1:Nat)<=Z5 by decide,ne_eq,not_false_eq_true,Nat.one_ne_zero,Md.ZW,Md.BK,Md.Qx,if_true,if_false,FW,Cw (cs:=[]),false_and,and_false,h0,w2,bd,Zx hlast,Int.toNat_natCast,List.drop_zero,Nat.sub_zero,hdl,hq2]
     rw[hbn]
     refine Xv (l:=[]) (R:=[]) ?_ ?_ rfl ?_ ?_ rfl rfl ?_
     ·rfl
     ·rfl
     ·decide
     ·first | rfl | simp
     ·first | rfl | simp
    ·have q1 : c.rsb.dropLast.length * 8 <= Z5 := by unfold Z5; simp; omega
     have q2:c.rsb.dropLast.length<=Z5:=by unfold Z5;simp;omega
     have q3:(((rC c.rsb.dropLast).map AV.d).all AV.one)=true:=G5 _
     simp only[go_sem,Z3 S,Z2 S,zN0,zN1,zN2,zN3,zN4,zI0,zI1,zI2,zI3,reduceCtorEq,Gj S,g0,g1,EB S,hi,ZU S,JW S,K6 S,hb,hb',hs,hr,YS,Zq,show(1:Nat)*48<=Z5 by decide,show(1:Nat)<=Z5 by decide,ne_eq,not_false_eq_true,Nat.one_ne_zero,Md.ZW,Md.BK,Md.Qx,if_true,if_false,FW,Cw (cs:=[]),false_and,and_false,h0,w2,bd,Zx hlast,Int.toNat_natCast,List.drop_zero,Nat.sub_zero,hdl,hq,q1,q2,q3]
     rw[hbn]
     refine Xv (l:=[]) (R:=c.rsb.dropLast) ?_ ?_ rfl ?_ ?_ rfl rfl ?_
     ·rfl
     ·rfl
     ·decide
     ·first | rfl | simp
     ·first | rfl | simp
  by_cases k8:(Md.at_ p c.state.pc).kind=8
  ·simp only [k8, decide_true, decide_false, cond_true, cond_false, if_true, if_false, zI0, or_self, or_true, true_or]
   cases hreal:Md.real p c.state.stack c.buf c.buf.length with
   | none=>
    rw[h0] at hreal
    have hr4:=hreal
    simp only[go_sem,Z3 S,Z2 S,zN0,zN1,zN2,zN3,zN4,zI0,zI1,zI2,zI3,reduceCtorEq,Gj S,g0,g1,EB S,hi,ZU S,JW S,K6 S,hb,hb',hs,hr,YS,Zq,show(1:Nat)*48<=Z5 by decide,show(1:Nat)<=Z5 by decide,ne_eq,not_false_eq_true,Nat.one_ne_zero,Md.ZW,Md.BK,Md.Qx,if_true,if_false,FW,Cw (cs:=[]),false_and,and_false,h0,hreal,B6,EE,hr4]
    rw[hbn]
    refine Cv (l:=[]) ?_ rfl rfl ?_ rfl rfl
    ·rfl
    ·first | rfl | simp
   | some r=>
    have hr4:decide ((r.length:Int)>=4)=decide (4<=r.length):=decide_eq_decide.2 (by omega)
    rw[h0] at hreal
    simp only[go_sem,Z3 S,Z2 S,zN0,zN1,zN2,zN3,zN4,zI0,zI1,zI2,zI3,reduceCtorEq,Gj S,g0,g1,EB S,hi,ZU S,JW S,K6 S,hb,hb',hs,hr,YS,Zq,show(1:Nat)*48<=Z5 by decide,show(1:Nat)<=Z5 by decide,ne_eq,not_false_eq_true,Nat.one_ne_zero,Md.ZW,Md.BK,Md.Qx,if_true,if_false,FW,Cw (cs:=[]),false_and,and_false,h0,hreal,B6,EE,hr4]
    rw[hbn]
    refine Cv (l:=[]) ?_ rfl rfl ?_ rfl rfl
    ·rfl
    ·first | rfl | simp
  by_cases k11:(Md.at_ p c.state.pc).kind=11
  ·simp only [k11, decide_true, decide_false, cond_true, cond_false, if_true, if_false, zI0, or_self, or_true, true_or]
   rw[hbn]
   refine Cv (l:=[]) ?_ rfl rfl ?_ rfl rfl
   ·rfl
   ·first | rfl | simp
  by_cases k12:(Md.at_ p c.state.pc).kind=12
  ·simp only [k12, decide_true, decide_false, cond_true, cond_false, if_true, if_false, zI0, or_self, or_true, true_or]
   rw[hbn]
   refine Cv (l:=[]) ?_ rfl rfl ?_ rfl rfl
   ·rfl
   ·first | rfl | simp
  ·simp only [k5, k6, k7, k8, k9, k11, k12, decide_true, decide_false, cond_true, cond_false, if_true, if_false, zI0, or_self, or_true, true_or]
   rw[hbn]
   refine Cv (l:=[]) ?_ rfl rfl ?_ rfl rfl
   ·rfl
   ·first | rfl | simp
 ·have l1 : c.buf.length * 48 <= Z5 := by unfold Z5; omega
  have l2:c.buf.length<=Z5:=by unfold Z5;omega
  have l3:(((rC c.buf).map AV.d).all AV.one)=true:=G5 _
  have l4:(c.buf.length+1)*48<=Z5:=by unfold Z5;omega
  have l5:c.buf.length+1<=Z5:=by unfold Z5;omega
  simp only[go_sem,Z3 S,Z2 S,zN0,zN1,zN2,zN3,zN4,zI0,zI1,zI2,zI3,reduceCtorEq,Gj S,g0,g1,EB S,hi,ZU S,JW S,K6 S,hb,hb',hs,hr,YS,Zq,show(1:Nat)*48<=Z5 by decide,show(1:Nat)<=Z5 by decide,ne_eq,not_false_eq_true,Nat.one_ne_zero,Md.ZW,Md.BK,Md.Qx,if_true,if_false,FW,Cw (cs:=[]),false_and,and_false,h0,l1,l2,l3,l4,l5]
  by_cases k5:(Md.at_ p c.state.pc).kind=5
  ·by_cases hg : g = 1
   ·simp only [k5, hg, decide_true, decide_false, cond_true, cond_false, if_true, if_false, zI0, or_self, or_true, true_or]
    refine Cv (l:=c.buf) ?_ rfl rfl ?_ rfl rfl
    ·rfl
    ·first | rfl | simp
   ·simp only [k5, hg, decide_true, decide_false, cond_true, cond_false, if_true, if_false, zI0, or_self, or_true, true_or]
    refine Cv (l:=c.buf) ?_ rfl rfl ?_ rfl rfl
    ·rfl
    ·first | rfl | simp
  by_cases k6:(Md.at_ p c.state.pc).kind=6
  ·simp only [k6, decide_true, decide_false, cond_true, cond_false, if_true, if_false, zI0, or_self, or_true, true_or]
   refine Cv (l:=c.buf) ?_ rfl rfl ?_ rfl rfl
   ·rfl
   ·first | rfl | simp
  by_cases k7:(Md.at_ p c.state.pc).kind=7
  ·simp only [k7, decide_true, decide_false, cond_true, cond_false, if_true, if_false, zI0, or_self, or_true, true_or]
   refine Cv (l:=c.buf) ?_ rfl rfl ?_ rfl rfl
   ·rfl
   ·first | rfl | simp
  by_cases k9:(Md.at_ p c.state.pc).kind=9
  ·by_cases hz : c.rsb.length = 0
   ·simp only [k9, hz, decide_true, decide_false, cond_true, cond_false, if_true, if_false, zI0, or_self, or_true, true_or, show ¬ ((0 : Nat) : Int) > 0 by omega]
    refine Cv (l:=c.buf) ?_ rfl rfl ?_ rfl rfl
    ·rfl
    ·first | rfl | simp
   ·have w2 : IntKind.i64.wrap ((c.rsb.length : Int) - 1) = ((c.rsb.length - 1 : Nat) : Int) := by rw [YH (by omega) (by omega)]; omega
    have bd:=Hk c.rsb.length .i64 ((c.rsb.length-1:Nat):Int) (by omega) (by omega)
    have hlast:=Z1k hz
    have hdl:c.rsb.take (c.rsb.length-1)=c.rsb.dropLast:=List.dropLast_eq_take.symm
    simp only[k9,hz,decide_true,decide_false,cond_true,cond_false,if_true,if_false,zI0,or_self,or_true,true_or,show(c.rsb.length:Int)>0 by omega]
    by_cases hq:c.rsb.dropLast.length=0
    ·have hq2 : c.rsb.dropLast = [] := List.length_eq_zero_iff.1 hq
     simp only[go_sem,Z3 S,Z2 S,zN0,zN1,zN2,zN3,zN4,zI0,zI1,zI2,zI3,reduceCtorEq,Gj S,g0,g1,EB S,hi,ZU S,JW S,K6 S,hb,hb',hs,hr,YS,Zq,show(1:Nat)*48<=Z5 by decide,show(1:Nat)<=Z5 by decide,ne_eq,not_false_eq_true,Nat.one_ne_zero,Md.ZW,Md.BK,Md.Qx,if_true,if_false,FW,Cw (cs:=[]),false_and,and_false,h0,l1,l2,l3,l4,l5,w2,bd,Zx hlast,Int.toNat_natCast,List.drop_zero,Nat.sub_zero,hdl,hq2]
     refine Xv (l:=c.buf) (R:=[]) ?_ ?_ rfl ?_ ?_ rfl rfl ?_
     ·rfl
     ·rfl
     ·decide
     ·first | rfl | simp
     ·first | rfl | simp
    ·have q1 : c.rsb.dropLast.length * 8 <= Z5 := by unfold Z5; simp; omega
     have q2:c.rsb.dropLast.length<=Z5:=by unfold Z5;simp;omega
     have q3:(((rC c.rsb.dropLast).map AV.d).all AV.one)=true:=G5 _
     simp only[go_sem,Z3 S,Z2 S,zN0,zN1,zN2,zN3,zN4,zI0,zI1,zI2,zI3,reduceCtorEq,Gj S,g0,g1,EB S,hi,ZU S,JW S,K6 S,hb,hb',hs,hr,YS,Zq,show(1:Nat)*48<=Z5 by decide,show(1:Nat)<=Z5 by decide,ne_eq,not_false_eq_true,Nat.one_ne_zero,Md.ZW,Md.BK,Md.Qx,if_true,if_false,FW,Cw (cs:=[]),false_and,and_false,h0,l1,l2,l3,l4,l5,w2,bd,Zx hlast,Int.toNat_natCast,List.drop_zero,Nat.sub_zero,hdl,hq,q1,q2,q3]
     refine Xv (l:=c.buf) (R:=c.rsb.dropLast) ?_ ?_ rfl ?_ ?_ rfl rfl ?_
     ·rfl
     ·rfl
     ·decide
     ·first | rfl | simp
     ·first | rfl | simp
  by_cases k8:(Md.at_ p c.state.pc).kind=8
  ·simp only [k8, decide_true, decide_false, cond_true, cond_false, if_true, if_false, zI0, or_self, or_true, true_or]
   cases hreal:Md.real p c.state.stack c.buf c.buf.length with
   | none=>
    have hr4:=hreal
    simp only[go_sem,Z3 S,Z2 S,zN0,zN1,zN2,zN3,zN4,zI0,zI1,zI2,zI3,reduceCtorEq,Gj S,g0,g1,EB S,hi,ZU S,JW S,K6 S,hb,hb',hs,hr,YS,Zq,show(1:Nat)*48<=Z5 by decide,show(1:Nat)<=Z5 by decide,ne_eq,not_false_eq_true,Nat.one_ne_zero,Md.ZW,Md.BK,Md.Qx,if_true,if_false,FW,Cw (cs:=[]),false_and,and_false,h0,l1,l2,l3,l4,l5,hreal,B6,EE,hr4]
    refine Cv (l:=c.buf) ?_ rfl rfl ?_ rfl rfl
    ·rfl
    ·first | rfl | simp
   | some r=>
    have hr4:decide ((r.length:Int)>=4)=decide (4<=r.length):=decide_eq_decide.2 (by omega)
    simp only[go_sem,Z3 S,Z2 S,zN0,zN1,zN2,zN3,zN4,zI0,zI1,zI2,zI3,reduceCtorEq,Gj S,g0,g1,EB S,hi,ZU S,JW S,K6 S,hb,hb',hs,hr,YS,Zq,show(1:Nat)*48<=Z5 by decide,show(1:Nat)<=Z5 by decide,ne_eq,not_false_eq_true,Nat.one_ne_zero,Md.ZW,Md.BK,Md.Qx,if_true,if_false,FW,Cw (cs:=[]),false_and,and_false,h0,l1,l2,l3,l4,l5,hreal,B6,EE,hr4]
    refine Cv (l:=c.buf) ?_ rfl rfl ?_ rfl rfl
    ·rfl
    ·first | rfl | simp
  by_cases k11:(Md.at_ p c.state.pc).kind=11
  ·simp only [k11, decide_true, decide_false, cond_true, cond_false, if_true, if_false, zI0, or_self, or_true, true_or]
   refine Cv (l:=c.buf) ?_ rfl rfl ?_ rfl rfl
   ·rfl
   ·first | rfl | simp
  by_cases k12:(Md.at_ p c.state.pc).kind=12
  ·simp only [k12, decide_true, decide_false, cond_true, cond_false, if_true, if_false, zI0, or_self, or_true, true_or]
   refine Cv (l:=c.buf) ?_ rfl rfl ?_ rfl rfl
   ·rfl
   ·first | rfl | simp
  ·simp only [k5, k6, k7, k8, k9, k11, k12, decide_true, decide_false, cond_true, cond_false, if_true, if_false, zI0, or_self, or_true, true_or]
   refine Cv (l:=c.buf) ?_ rfl rfl ?_ rfl rfl
   ·rfl
   ·first | rfl | simp
end
section
variable (S:Sur E fn)
include S
theorem Z6u:E.lives 136 7=none:=off S 136 7 (by decide) rfl
theorem HU (dp:Nat)(l:List Ent)(e:Ent)(i to r0 r1 r2 r3 pc en:Int)(mm sk rb:List Int)(h0:0<=i)(h1:i.toNat<l.length)(hl:l.length<1073741824):
  Z4 E fn (dp+1) 136 [.agg [.d (vi r0),.d (vi r1),.d (vi r2),.d (vi r3),.d (rD mm),.d (rD sk),.d (vi pc),.sref 0 0 0 l.length 8 none,.d (rD rb),.d (vi en)],.d (vi i),.d (vi to)] [.cells ((rC (l.set i.toNat e)).map .d) 0 false]=
  bif decide (e.next=to) then some (.tup [.agg [.d (vi r0),.d (vi r1),.d (vi r2),.d (vi r3),.d (rD mm),.d (rD sk),.d (vi pc),.sref 0 0 0 l.length 8 none,.d (rD rb),.d (vi en)],.d (.lst [vi 3,vi to] 1 (some 1))],[.cells ((rC (l.set i.toNat e)).map .d) 0 false])
  else some (.tup [.agg [.d (vi r0),.d (vi r1),.d (vi r2),.d (vi r3),.d (rD mm),.d (rD sk),.d (vi to),.sref 0 0 0 (i.toNat+1) 8 none,.d (rD rb),.d (vi en)],.d (.lst [vi 3,vi to] 1 (some 1))],[.cells ((rC (l.set i.toNat { e with next:=to })).map .d) 0 false]):=by
 have hi:i<l.length:=by omega
 have w1:IntKind.i64.wrap (i+1)=i+1:=YH (by omega) (by omega)
 have bd:=Hk l.length .i64 (i+1) (by omega) (by omega)
 have t1:(i+1).toNat=i.toNat+1:=by omega
 rw[ZD,S.Z9u,ZG,Zf7,ZC _ _ _ _ _ _ _ _ rfl]
 by_cases h:e.next=to
 ·simp only[go_sem,Z3 S,Z2 S,Nat.reduceLT,Nat.reduceEqDiff,Nat.reduceAdd,Nat.reduceMul,Nat.reduceLeDiff,Int.reduceEq,Int.reduceLT,Int.reduceLE,Int.reduceNeg,reduceCtorEq,Z6u S,JN,Jv,JA,JE,JF,List.take_succ_cons,List.take_zero,ZH,ZJ,ZE,ZF,Zq,Option.map_some,h0,hi,Z7q h1,h,Bool.not_true,Nat.zero_add]
 ·simp only[go_sem,Z3 S,Z2 S,Nat.reduceLT,Nat.reduceEqDiff,Nat.reduceAdd,Nat.reduceMul,Nat.reduceLeDiff,Int.reduceEq,Int.reduceLT,Int.reduceLE,Int.reduceNeg,reduceCtorEq,Z6u S,JN,Jv,JA,JE,JF,List.take_succ_cons,List.take_zero,ZH,ZJ,ZE,ZF,Zq,Option.map_some,h0,hi,Z7q h1,h,Bool.not_false,Nat.zero_add,Zh3 h1,w1,bd,t1,Nat.zero_mul,Nat.add_zero,Nat.sub_zero,Option.map_none,ne_eq,not_true_eq_false,and_false]
end
set_option maxRecDepth 200000
theorem JZ (A:List Blk)(s bytes n:Nat)(new:List AV)(h0:n≠0)(h1:n*bytes<=Z5)(h2:n<=Z5):YU A s bytes (.d (.lst [] 0 (some 0))) new n=some (.fresh new n):=by
 obtain⟨m,rfl⟩:∃ m,n=m+1:=⟨n-1,by omega⟩
 rw[Zds,Nat.zero_add,if_pos ⟨by omega,by simp,h1,h2⟩];rfl
theorem Z3r {l:List Int}{k:Nat}(h:k<l.length)(i v:Nat)(A:List Blk)(n:Int):storeAt A i v (k*1) [.d (vi n)] 1 (some (.cells ((rC l).map .d) v false))=some (A.set i (.cells ((rC (l.set k n)).map .d) v false)):=by
 have he:l[k]? =some l[k]:=List.getElem?_eq_getElem h
 exact NX (o:=0) (e':=n) [vi n] he rfl rfl rfl rfl (by show 0+1<=1;decide) 1 rfl _ rfl
theorem JT (l:List Int)(n:Nat)(hn:n<=l.length):n*1<=((rC l).map AV.d).length:=by
 rw[List.length_map,J4];exact Nat.mul_le_mul_right _ hn
theorem Ak (A:List Blk)(m n:Nat)(l:List Int):YD (deep A (m+1)) (((rC l).map AV.d).take (n*1))=some (rC (l.take n),[]):=by
 rw[<-List.map_take,show n*1=n*Cl.n Int from rfl,SV,KF]
theorem Dq (A:List Blk)(x:DV)(k:Option Nat):E9 A false 1 (.d (.lst [x] 1 k))=some ([.d x],1):=rfl
theorem A8 (l:List Int)(n:Nat)(h:n<=l.length):DV.lst (rC (l.take n)) n none=rD (l.take n):=by
 unfold rD;rw[List.length_take,Nat.min_eq_left h]
theorem A4 (l:List Int)(k:Nat)(v:Int):(l.set k v).take l.length=l.set k v:=List.take_of_length_le (by rw[List.length_set];exact Nat.le_refl _)
theorem A9 (l:List Int)(k:Nat)(v:Int):DV.lst (rC (l.set k v)) l.length none=rD (l.set k v):=by
 unfold rD;rw[List.length_set]
def QT (p:Prog)(c:Conf):Conf:=bif Md.QC p c then Md.QS p c else Md.B1
theorem Vj {p:Prog}{c:Conf}(h:Md.QC p c=true):∃ e,c.buf[0]? =some e/\Md.ZP c.buf 0=e/\c.end_=0:=by
 simp only[Md.QC,Bool.and_eq_true,beq_iff_eq,decide_eq_true_eq] at h
 obtain⟨e,he⟩:=YK (show 0<c.buf.length by omega)
 exact⟨e,he,by unfold Md.ZP;rw[show(0:Int).toNat=0 from rfl,he];rfl,h.1.1.1⟩
theorem Ztm {n:Int}(h:n=0∨n=1∨n=2∨n=3):YT .and (.d (vi n)) (.d (vi 3))=some (.d (vi n)):=by
 rcases h with rfl | rfl | rfl | rfl<;>rfl
variable {E:Env} {fn:FuncId->Option (Env->cT->cT)}
section
variable (S:Sur E fn)
include S
theorem FA:E.lives 83 7=none/\E.lives 83 21=none/\E.lives 83 25=none/\E.lives 83 29=none/\E.lives 83 33=none/\E.lives 83 37=none/\E.lives 83 41=none/\E.lives 83 45=none:=⟨off S 83 7 (by decide) rfl,off S 83 21 (by decide) rfl,off S 83 25 (by decide) rfl,off S 83 29 (by decide) rfl,off S 83 33 (by decide) rfl,off S 83 37 (by decide) rfl,off S 83 41 (by decide) rfl,off S 83 45 (by decide) rfl⟩
theorem Zjy (dp:Nat)(p:Prog)(c:Conf)(hl:c.buf.length<1073741824)(hm:c.state.mem.length<1073741824)(hs:c.state.stack.length<1073741823)(hd:0<=(Md.at_ p (Md.ZP c.buf 0).pc).d/\(Md.at_ p (Md.ZP c.buf 0).pc).d<=3)(hx:Md.QC p c=true->(Md.at_ p (Md.ZP c.buf 0).pc).kind=3->(Md.ZP c.buf 0).fault=false->0<=(Md.ZP c.buf 0).addr/\(Md.ZP c.buf 0).addr<c.state.mem.length)(hy:Md.QC p c=true->(Md.at_ p (Md.ZP c.buf 0).pc).kind=9->(Md.ZP c.buf 0).fault=false->c.state.stack≠[]):Z6 E fn (dp+4) 83 [Zw p,ZS c] (.tup [ZS (QT p c),vb (Md.QC p c)]):=by
 unfold Z6
 show Z7 (Z4 E fn (dp+3+1) 83 [.d (Zw p),.d (ZS c)] [])=_
 rw[ZD,S.Z9z,ZG,Zfc,ZC _ _ _ _ _ _ _ _ rfl]
 cases hcan:Md.QC p c with
 | false=>simp only[eG,go_sem,Z3 S,Z2 S,zN0,zN1,zN2,zN3,zN4,zI0,zI1,zI2,zI3,reduceCtorEq,FA S,Jz S,hcan,Bool.not_false,QT,Md.B1]
 | true=>
  replace hx:=hx hcan
  replace hy:=hy hcan
  obtain⟨e,he,he0,hend⟩:=Vj hcan
  rw[he0] at hx hy hd
  have hgo:=he0
  generalize hxx:Md.at_ p e.pc=x at *
  have w0:=E1 (l:=c.buf) (i:=0) (by decide) he .i64 8 rfl
  have n1:c.state.mem.length*8<=Z5:=by unfold Z5;omega
  have n2:c.state.mem.length<=Z5:=by unfold Z5;omega
  have n3:c.state.stack.length*8<=Z5:=by unfold Z5;omega
  have n4:c.state.stack.length<=Z5:=by unfold Z5;omega
  have n5:(c.state.stack.length+1)*8<=Z5:=by unfold Z5;omega
  have n6:c.state.stack.length+1<=Z5:=by unfold Z5;omega
  have e1:c.state.mem.length=0->c.state.mem=[]:=List.length_eq_zero_iff.1
  have e2:c.state.stack.length=0->c.state.stack=[]:=List.length_eq_zero_iff.1
  have hdl:deep [.cells ((rC (c.state.stack++[IntKind.i64.wrap (e.pc+1)])).map .d) 0 false] 6 (.sref 0 0 0 (c.state.stack.length+1) 1 none)=some (.lst (rC (c.state.stack++[IntKind.i64.wrap (e.pc+1)])) (c.state.stack++[IntKind.i64.wrap (e.pc+1)]).length none,[0]):=Ax _ (by simp) _ (by simp) 4 1 none rfl
  have d4:x.d=0∨x.d=1∨x.d=2∨x.d=3:=by omega
  have hdl2:deep [.cells ((rC c.state.mem).map .d) 0 false,.cells ((rC (c.state.stack++[IntKind.i64.wrap (e.pc+1)])).map .d) 0 false] 6 (.sref 1 0 0 (c.state.stack.length+1) 1 none)=some (.lst (rC (c.state.stack++[IntKind.i64.wrap (e.pc+1)])) (c.state.stack++[IntKind.i64.wrap (e.pc+1)]).length none,[1]):=by
   rw[show c.state.stack.length+1=(c.state.stack++[IntKind.i64.wrap (e.pc+1)]).length by simp]
   exact Bv rfl (by simp) 4 _ 1 none rfl rfl
  have hand:=Ztm d4
  have d0:=hd.1
  have d1:x.d<4:=by omega
  have hst:∀(A:List Blk) (m s q:AV),storeAt A 5 0 (x.d.toNat*1) [.d (vi e.val)] 1 (some (.cells [.d (vi c.state.regs.r0),.d (vi c.state.regs.r1),.d (vi c.state.regs.r2),.d (vi c.state.regs.r3),m,s,q] 0 false))=some (A.set 5 (.cells [.d (vi (Md.CD c.state.regs x.d e.val).r0),.d (vi (Md.CD c.state.regs x.d e.val).r1),.d (vi (Md.CD c.state.regs x.d e.val).r2),.d (vi (Md.CD c.state.regs x.d e.val).r3),m,s,q] 0 false)):=fun A m s q=>by
   rcases d4 with d | d | d | d<;>rw[d]<;>rfl
  by_cases m0:c.state.mem.length=0<;>by_cases s0:c.state.stack.length=0
  all_goals
   generalize hB:(ZR 0 _:CT)=BB
   simp only[eG,go_sem,Z3 S,Z2 S,zN0,zN1,zN2,zN3,zN4,zI0,zI1,zI2,zI3,reduceCtorEq,FA S,Jz S,hcan,Bool.not_true,Bool.not_false,w0,ZU S,hxx,Gv S,hl,ZH,ZJ,ZE,ZF,YS,Zq,JZ,n1,n2,n3,n4,n5,n6,ne_eq,not_false_eq_true,not_true_eq_false,Nat.zero_add,Nat.add_zero,Nat.zero_mul,Y9,JT,Ak,Nat.le_refl,Option.bind_some,Option.map_some,Option.map_none,A8,A4,A9,List.take_length,QZ,List.length_set,QT,Md.QS,he0,Md.QY,Md.Az,eq_true hend,Md.ZW,m0,s0]
   rw[<-hB]
   clear hB BB
   cases hf:e.fault with
   | true=>simp only[eG,go_sem,Z3 S,Z2 S,zN0,zN1,zN2,zN3,zN4,zI0,zI1,zI2,zI3,reduceCtorEq,FA S,Jz S,hcan,Bool.not_true,Bool.not_false,w0,ZU S,hxx,Gv S,hl,ZH,ZJ,ZE,ZF,YS,Zq,JZ,n1,n2,n3,n4,n5,n6,ne_eq,not_false_eq_true,not_true_eq_false,Nat.zero_add,Nat.add_zero,Nat.zero_mul,Y9,JT,Ak,Nat.le_refl,Option.bind_some,Option.map_some,Option.map_none,A8,A4,A9,List.take_length,QZ,List.length_set,QT,Md.QS,he0,Md.QY,Md.Az,eq_true hend,Md.ZW,m0,s0,hf];(first | done | rfl | (rw[e1 m0];rfl) | (rw[e2 s0];rfl) | (rw[e1 m0,e2 s0];rfl))
   | false=>
    by_cases k12:x.kind=12
    ·simp only[eG,go_sem,Z3 S,Z2 S,zN0,zN1,zN2,zN3,zN4,zI0,zI1,zI2,zI3,reduceCtorEq,FA S,Jz S,hcan,Bool.not_true,Bool.not_false,w0,ZU S,hxx,Gv S,hl,ZH,ZJ,ZE,ZF,YS,Zq,JZ,n1,n2,n3,n4,n5,n6,ne_eq,not_false_eq_true,not_true_eq_false,Nat.zero_add,Nat.add_zero,Nat.zero_mul,Y9,JT,Ak,Nat.le_refl,Option.bind_some,Option.map_some,Option.map_none,A8,A4,A9,List.take_length,QZ,List.length_set,QT,Md.QS,he0,Md.QY,Md.Az,eq_true hend,Md.ZW,m0,s0,hf,k12];(first | done | rfl | (rw[e1 m0];rfl) | (rw[e2 s0];rfl) | (rw[e1 m0,e2 s0];rfl))
    by_cases k11:x.kind=11
    ·simp only[eG,go_sem,Z3 S,Z2 S,zN0,zN1,zN2,zN3,zN4,zI0,zI1,zI2,zI3,reduceCtorEq,FA S,Jz S,hcan,Bool.not_true,Bool.not_false,w0,ZU S,hxx,Gv S,hl,ZH,ZJ,ZE,ZF,YS,Zq,JZ,n1,n2,n3,n4,n5,n6,ne_eq,not_false_eq_true,not_true_eq_false,Nat.zero_add,Nat.add_zero,Nat.zero_mul,Y9,JT,Ak,Nat.le_refl,Option.bind_some,Option.map_some,Option.map_none,A8,A4,A9,List.take_length,QZ,List.length_set,QT,Md.QS,he0,Md.QY,Md.Az,eq_true hend,Md.ZW,m0,s0,hf,k11];(first | done | rfl | (rw[e1 m0];rfl) | (rw[e2 s0];rfl) | (rw[e1 m0,e2 s0];rfl))
    by_cases k1:x.kind=1
    ·simp only[eG,go_sem,Z3 S,Z2 S,zN0,zN1,zN2,zN3,zN4,zI0,zI1,zI2,zI3,reduceCtorEq,FA S,Jz S,hcan,Bool.not_true,Bool.not_false,w0,ZU S,hxx,Gv S,hl,ZH,ZJ,ZE,ZF,YS,Zq,JZ,n1,n2,n3,n4,n5,n6,ne_eq,not_false_eq_true,not_true_eq_false,Nat.zero_add,Nat.add_zero,Nat.zero_mul,Y9,JT,Ak,Nat.le_refl,Option.bind_some,Option.map_some,Option.map_none,A8,A4,A9,List.take_length,QZ,List.length_set,QT,Md.QS,he0,Md.QY,Md.Az,eq_true hend,Md.ZW,Int.cast_ofNat_Int,true_and,if_true,hand,d0,d1,hst,m0,s0,hf,k1];(first | done | rfl | (rw[e1 m0];rfl) | (rw[e2 s0];rfl) | (rw[e1 m0,e2 s0];rfl))
    by_cases k2:x.kind=2
    ·simp only[eG,go_sem,Z3 S,Z2 S,zN0,zN1,zN2,zN3,zN4,zI0,zI1,zI2,zI3,reduceCtorEq,FA S,Jz S,hcan,Bool.not_true,Bool.not_false,w0,ZU S,hxx,Gv S,hl,ZH,ZJ,ZE,ZF,YS,Zq,JZ,n1,n2,n3,n4,n5,n6,ne_eq,not_false_eq_true,not_true_eq_false,Nat.zero_add,Nat.add_zero,Nat.zero_mul,Y9,JT,Ak,Nat.le_refl,Option.bind_some,Option.map_some,Option.map_none,A8,A4,A9,List.take_length,QZ,List.length_set,QT,Md.QS,he0,Md.QY,Md.Az,eq_true hend,Md.ZW,Int.cast_ofNat_Int,true_and,if_true,hand,d0,d1,hst,m0,s0,hf,k2];(first | done | rfl | (rw[e1 m0];rfl) | (rw[e2 s0];rfl) | (rw[e1 m0,e2 s0];rfl))
    by_cases k4:x.kind=4
    ·simp only[eG,go_sem,Z3 S,Z2 S,zN0,zN1,zN2,zN3,zN4,zI0,zI1,zI2,zI3,reduceCtorEq,FA S,Jz S,hcan,Bool.not_true,Bool.not_false,w0,ZU S,hxx,Gv S,hl,ZH,ZJ,ZE,ZF,YS,Zq,JZ,n1,n2,n3,n4,n5,n6,ne_eq,not_false_eq_true,not_true_eq_false,Nat.zero_add,Nat.add_zero,Nat.zero_mul,Y9,JT,Ak,Nat.le_refl,Option.bind_some,Option.map_some,Option.map_none,A8,A4,A9,List.take_length,QZ,List.length_set,QT,Md.QS,he0,Md.QY,Md.Az,eq_true hend,Md.ZW,Int.cast_ofNat_Int,true_and,if_true,hand,d0,d1,hst,m0,s0,hf,k4];(first | done | rfl | (rw[e1 m0];rfl) | (rw[e2 s0];rfl) | (rw[e1 m0,e2 s0];rfl))
    by_cases k3:x.kind=3
    ·obtain ⟨a0, a1⟩ := hx k3 hf
     have a2:e.addr.toNat<c.state.mem.length:=by omega
     first
      | (exfalso;omega)
      | (simp only[eG,go_sem,Z3 S,Z2 S,zN0,zN1,zN2,zN3,zN4,zI0,zI1,zI2,zI3,reduceCtorEq,FA S,Jz S,hcan,Bool.not_true,Bool.not_false,w0,ZU S,hxx,Gv S,hl,ZH,ZJ,ZE,ZF,YS,Zq,JZ,n1,n2,n3,n4,n5,n6,ne_eq,not_false_eq_true,not_true_eq_false,Nat.zero_add,Nat.add_zero,Nat.zero_mul,Y9,JT,Ak,Nat.le_refl,Option.bind_some,Option.map_some,Option.map_none,A8,A4,A9,List.take_length,QZ,List.length_set,QT,Md.QS,he0,Md.QY,Md.Az,eq_true hend,Md.ZW,m0,s0,hf,k3,a0,a1,Z3r a2,and_self];(first | done | rfl | (rw[e1 m0];rfl) | (rw[e2 s0];rfl) | (rw[e1 m0,e2 s0];rfl)))
    by_cases k8:x.kind=8
    ·simp only[eG,go_sem,Z3 S,Z2 S,zN0,zN1,zN2,zN3,zN4,zI0,zI1,zI2,zI3,reduceCtorEq,FA S,Jz S,hcan,Bool.not_true,Bool.not_false,w0,ZU S,hxx,Gv S,hl,ZH,ZJ,ZE,ZF,YS,Zq,JZ,n1,n2,n3,n4,n5,n6,ne_eq,not_false_eq_true,not_true_eq_false,Nat.zero_add,Nat.add_zero,Nat.zero_mul,Y9,JT,Ak,Nat.le_refl,Option.bind_some,Option.map_some,Option.map_none,A8,A4,A9,List.take_length,QZ,List.length_set,QT,Md.QS,he0,Md.QY,Md.Az,eq_true hend,Md.ZW,m0,s0,hf,k8,Dq,BU,show(1:Nat)*8<=Z5 by decide,show(8:Nat)<=Z5 by decide,show(1:Nat)<=Z5 by decide,show(1:Nat)*1<=1 by decide,Nat.lt_add_one,Nat.one_ne_zero,Nat.one_mul,show(0:Nat)<1 by decide,hdl,hdl2];(first | done | rfl | (rw[e1 m0];rfl) | (rw[e2 s0];rfl) | (rw[e1 m0,e2 s0];rfl))
    by_cases k9:x.kind=9
    ·have hne : c.state.stack.length ≠ 0 := fun h => hy k9 hf (List.length_eq_zero_iff.1 h)
     have wl:IntKind.i64.wrap ((c.state.stack.length:Int)-1)=((c.state.stack.length-1:Nat):Int):=by rw[YH (by omega) (by omega)];omega
     have bd:=Hk c.state.stack.length .i64 ((c.state.stack.length-1:Nat):Int) (by omega) (by omega)
     have le1:c.state.stack.length-1<=c.state.stack.length:=by omega
     by_cases s1:c.state.stack.length-1=0
     ·have dl : c.state.stack.dropLast = [] := by rw [List.dropLast_eq_take, s1]; rfl
      have bd0:=bd
      rw[s1] at bd0
      first
       | (exfalso;omega)
       | (simp only[eG,go_sem,Z3 S,Z2 S,zN0,zN1,zN2,zN3,zN4,zI0,zI1,zI2,zI3,reduceCtorEq,FA S,Jz S,hcan,Bool.not_true,Bool.not_false,w0,ZU S,hxx,Gv S,hl,ZH,ZJ,ZE,ZF,YS,Zq,JZ,n1,n2,n3,n4,n5,n6,ne_eq,not_false_eq_true,not_true_eq_false,Nat.zero_add,Nat.add_zero,Nat.zero_mul,Y9,JT,Ak,Nat.le_refl,Option.bind_some,Option.map_some,Option.map_none,A8,A4,A9,List.take_length,QZ,List.length_set,QT,Md.QS,he0,Md.QY,Md.Az,eq_true hend,Md.ZW,m0,s0,hf,k9,wl,bd0,Int.toNat_natCast,s1,dl,Nat.sub_zero,and_false];(first | done | rfl | (rw[e1 m0];rfl) | (rw[e2 s0];rfl) | (rw[e1 m0,e2 s0];rfl)))
     ·first
       | (exfalso;omega)
       | (simp only[eG,go_sem,Z3 S,Z2 S,zN0,zN1,zN2,zN3,zN4,zI0,zI1,zI2,zI3,reduceCtorEq,FA S,Jz S,hcan,Bool.not_true,Bool.not_false,w0,ZU S,hxx,Gv S,hl,ZH,ZJ,ZE,ZF,YS,Zq,JZ,n1,n2,n3,n4,n5,n6,ne_eq,not_false_eq_true,not_true_eq_false,Nat.zero_add,Nat.add_zero,Nat.zero_mul,Y9,JT,Ak,Nat.le_refl,Option.bind_some,Option.map_some,Option.map_none,A8,A4,A9,List.take_length,QZ,List.length_set,QT,Md.QS,he0,Md.QY,Md.Az,eq_true hend,Md.ZW,m0,s0,hf,k9,wl,bd,Int.toNat_natCast,s1,le1,List.dropLast_eq_take,Nat.sub_zero,and_false];(first | done | rfl | (rw[e1 m0];rfl) | (rw[e2 s0];rfl) | (rw[e1 m0,e2 s0];rfl)))
    simp only[eG,go_sem,Z3 S,Z2 S,zN0,zN1,zN2,zN3,zN4,zI0,zI1,zI2,zI3,reduceCtorEq,FA S,Jz S,hcan,Bool.not_true,Bool.not_false,w0,ZU S,hxx,Gv S,hl,ZH,ZJ,ZE,ZF,YS,Zq,JZ,n1,n2,n3,n4,n5,n6,ne_eq,not_false_eq_true,not_true_eq_false,Nat.zero_add,Nat.add_zero,Nat.zero_mul,Y9,JT,Ak,Nat.le_refl,Option.bind_some,Option.map_some,Option.map_none,A8,A4,A9,List.take_length,QZ,List.length_set,QT,Md.QS,he0,Md.QY,Md.Az,eq_true hend,Md.ZW,m0,s0,hf,k1,k2,k3,k4,k8,k9,k11,k12];(first | done | rfl | (rw[e1 m0];rfl) | (rw[e2 s0];rfl) | (rw[e1 m0,e2 s0];rfl))
end
end Go.Aug.Mc
