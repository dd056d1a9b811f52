import Derived.Test.YtmfdoekbjkgckaaGreatMc11
namespace Go.Aug.Mc
open Go Go.Aug
set_option linter.unusedSimpArgs false
set_option linter.unusedVariables false
set_option maxHeartbeats 40000000
variable {E:Env} {fn:FuncId->Option (Env->cT->cT)}
section
variable (S:Sur E fn)
include S
end
open Nat renaming reduceLT -> zN0, reduceEqDiff -> zN1, reduceAdd -> zN2, reduceMul -> zN3, reduceLeDiff -> zN4
open Int renaming reduceEq -> zI0, reduceLT -> zI1, reduceLE -> zI2, reduceNeg -> zI3
def RQ (Z:Option (AV×List Blk)):Option (List Int)->Prop
 | none=>Z=some (.tup [.d (.lst [] 0 (some 0)),ZZ false],[])
 | some out=>∃ junk k,Z=some (.tup [.sref 0 0 0 out.length 1 k,ZZ true],[.cells ((rC (out++junk)).map .d) 0 false])
theorem UY (Z:Option (AV×List Blk)):RQ Z none=(Z=some (.tup [.d (.lst [] 0 (some 0)),ZZ false],[])):=id rfl
theorem Z1v {Z:Option (AV×List Blk)}{out:List Int}(junk:List Int)(k:Option Nat)(h:Z=some (.tup [.sref 0 0 0 out.length 1 k,ZZ true],[.cells ((rC (out++junk)).map .d) 0 false])):RQ Z (some out):=⟨junk,k,h⟩
theorem Z5p {i:Nat}{out junk:List Int}{k:Option Nat}{A:List Blk}{b:Bool}(hA:A[i]? =some (.cells ((rC (out++junk)).map .d) 0 false)):
  Cj 0 (some (.tup [.sref i 0 0 out.length 1 k,ZZ b],A))=some (.tup [.sref 0 0 0 out.length 1 k,ZZ b],[.cells ((rC (out++junk)).map .d) 0 false]):=by
 have hi:¬A.length<=i:=by
  intro h;rw[List.getElem?_eq_none h] at hA;cases hA
 simp only[eG,go_sem,Mv,hA,hi,List.not_mem_nil,false_or,or_false,Nat.not_lt_zero,if_false]
variable {E:Env} {fn:FuncId->Option (Env->cT->cT)}
section
variable (S:Sur E fn)
include S
theorem AJ:E.lives 120 1=none/\E.lives 120 17=none/\E.lives 120 19=none/\E.lives 120 25=none/\E.lives 120 27=none:=⟨off S 120 1 (by decide) rfl,off S 120 17 (by decide) rfl,off S 120 19 (by decide) rfl,off S 120 25 (by decide) rfl,off S 120 27 (by decide) rfl⟩
theorem Z2y (dp:Nat)(p:Prog)(l:List Ent)(i:Int)(hl:l.length<1073741824)(kx:Nat->K)
  (hx:∀ T out junk k,ZG .bot T 10=.sref 1 0 0 (out:List Int).length 1 k->RQ (kx 0 (mk .bot 59 T) [.cells ((YH p).map .d) 0 false,.cells ((rC (out++junk)).map .d) 0 false]) (some out)):
  ∀(m k fuel:Nat) (out junk:List Int) (q:Option Nat),k+m=(Md.cut l i).length->m<=fuel->out.length<1073741824->(q=none∨q=some 0/\out=[]/\junk=[])->RQ (DY (Zj E 120) (Z5 E fn (dp+1)) (Z9 8 DY (Zj E 120) (Z5 E fn (dp+1)) kx (YD 0 [.tmp 8,.tmp 9]) fuel) kx (YD 0 [.tmp 8,.tmp 9])
   (mk .bot 59 [(2,.d (rD l)),(3,aI i),(4,.ref 0 0 0),(10,.sref 1 0 0 out.length 1 q),(11,aI k)]) [.cells ((YH p).map .d) 0 false,.cells ((rC (out++junk)).map .d) 0 false])
   (Md.QV p ((Md.cut l i).drop k) out):=by
 intro m
 have hcl:(Md.cut l i).length=min i.toNat l.length:=by simp[Md.cut]
 induction m with
 | zero=>
  intro k fuel out junk q hk _ ho hq
  generalize Z9 8 DY _ _ kx _ fuel=KK
  rw[DY,List.drop_of_length_le (by omega)]
  by_cases h1:(k:Int)<i
  ·simp only [eG, go_sem, Z2 S, Z1 S, zN0, zN1, zN2, zN3, zN4, zI0, zI1, zI2, zI3, reduceCtorEq, AJ S, h1, show ¬ (k : Int) < l.length by omega, Md.QV]
   exact hx _ _ _ q rfl
  ·simp only [eG, go_sem, Z2 S, Z1 S, zN0, zN1, zN2, zN3, zN4, zI0, zI1, zI2, zI3, reduceCtorEq, AJ S, h1, Md.QV]
   exact hx _ _ _ q rfl
 | succ m ih=>
  intro k fuel out junk q hk hf ho hq
  obtain⟨e,he⟩:=QB (show k<l.length by omega)
  have hc:(Md.cut l i)[k]? =some e:=by unfold Md.cut;rw[List.getElem?_take,if_pos (by omega),he]
  obtain⟨fuel,rfl⟩:∃ m,fuel=m+1:=⟨fuel-1,by omega⟩
  generalize hK:Z9 8 DY _ _ kx _ (fuel+1)=KK
  rw[DY,E9 hc,Md.QV]
  have h1:(k:Int)<i:=by omega
  have h2:(k:Int)<l.length:=by omega
  by_cases k8:(Md.at_ p e.pc).kind=8
  ·by_cases h4 : 4 <= out.length
   ·simp only[eG,go_sem,Z2 S,Z1 S,zN0,zN1,zN2,zN3,zN4,zI0,zI1,zI2,zI3,reduceCtorEq,AJ S,ZF he,Zv S,wi k (by omega),h1,h2,ge_iff_le,k8,h4,show(4:Int)<=out.length by omega,UY]
   ·have l1 : (out.length + 1) * 8 <= Z4 := by unfold Z4; omega
    have l2:out.length+1<=Z4:=by unfold Z4;omega
    rcases hq with rfl | ⟨rfl,rfl,rfl⟩
    ·cases junk with
     | nil=>
      simp only[List.append_nil]
      simp only[eG,go_sem,Z2 S,Z1 S,zN0,zN1,zN2,zN3,zN4,zI0,zI1,zI2,zI3,reduceCtorEq,AJ S,ZF he,Zv S,wi k (by omega),h1,h2,ge_iff_le,k8,h4,show ¬(4:Int)<=out.length by omega,Zq,RK,l1,l2]
      rw[<-hK,Z6 (on S _ _ [2,3,4,10,11] (by decide) rfl) rfl _ _ _ _ _ _ _ _ _ rfl]
      simp only[eG,go_sem,Z2 S,Z1 S,zN0,zN1,zN2,zN3,zN4,zI0,zI1,zI2,zI3,reduceCtorEq,AJ S,ZF he,Zv S,wi k (by omega),h1,h2,ge_iff_le]
      have e1:out.length+1=(out++[Md.Y1 (e.pc+1)]).length:=by simp
      have:=ih (k+1) fuel (out++[Md.Y1 (e.pc+1)]) [] none (by omega) (by omega) (by simp;omega) (.inl rfl)
      rw[<-e1,List.append_nil] at this
      exact this
     | cons y junk=>
      simp only[eG,go_sem,Z2 S,Z1 S,zN0,zN1,zN2,zN3,zN4,zI0,zI1,zI2,zI3,reduceCtorEq,AJ S,ZF he,Zv S,wi k (by omega),h1,h2,ge_iff_le,k8,h4,show ¬(4:Int)<=out.length by omega,Zq,Z7e (y:=y) (junk:=junk),l1,l2]
      rw[<-hK,Z6 (on S _ _ [2,3,4,10,11] (by decide) rfl) rfl _ _ _ _ _ _ _ _ _ rfl]
      simp only[eG,go_sem,Z2 S,Z1 S,zN0,zN1,zN2,zN3,zN4,zI0,zI1,zI2,zI3,reduceCtorEq,AJ S,ZF he,Zv S,wi k (by omega),h1,h2,ge_iff_le]
      have e1:out.length+1=(out++[Md.Y1 (e.pc+1)]).length:=by simp
      have:=ih (k+1) fuel (out++[Md.Y1 (e.pc+1)]) junk none (by omega) (by omega) (by simp;omega) (.inl rfl)
      rw[<-e1,List.append_assoc] at this
      exact this
    ·simp only [eG, go_sem, Z2 S, Z1 S, zN0, zN1, zN2, zN3, zN4, zI0, zI1, zI2, zI3, reduceCtorEq, AJ S, ZF he, Zv S, wi k (by omega), h1, h2, ge_iff_le, k8, List.length_nil, show ¬ (4 : Int) <= (0 : Nat) by omega, Zq, CA (cs := []), Nat.succ_ne_zero, show (1 : Nat) * 8 <= Z4 by decide, show (1 : Nat) <= Z4 by decide, ne_eq, not_false_eq_true]
     rw[<-hK,Z6 (on S _ _ [2,3,4,10,11] (by decide) rfl) rfl _ _ _ _ _ _ _ _ _ rfl]
     simp only[eG,go_sem,Z2 S,Z1 S,zN0,zN1,zN2,zN3,zN4,zI0,zI1,zI2,zI3,reduceCtorEq,AJ S,ZF he,Zv S,wi k (by omega),h1,h2,ge_iff_le]
     exact ih (k+1) fuel [Md.Y1 (e.pc+1)] [] none (by omega) (by omega) (by simp) (.inl rfl)
  ·by_cases k9 : (Md.at_ p e.pc).kind = 9
   ·cases hr : out.reverse with
    | nil=>
     have:out=[]:=List.reverse_eq_nil_iff.1 hr
     subst this
     simp only[eG,go_sem,Z2 S,Z1 S,zN0,zN1,zN2,zN3,zN4,zI0,zI1,zI2,zI3,reduceCtorEq,AJ S,ZF he,Zv S,wi k (by omega),h1,h2,ge_iff_le,k8,k9,List.length_nil,UY,zI0,Int.natCast_eq_zero]
    | cons y r=>
     have e0:out=r.reverse++[y]:=by rw[<-List.reverse_reverse out,hr,List.reverse_cons]
     subst e0
     have e1:(r.reverse++[y]).dropLast=r.reverse:=List.dropLast_concat
     have e2:(r.reverse++[y]).length=r.reverse.length+1:=by simp
     rcases hq with rfl | ⟨_,h,_⟩
     ·have w1 : IntKind.i64.wrap (((r.reverse.length + 1 : Nat) : Int) - 1) = (r.reverse.length : Int) := by rw [e2] at ho; rw [YM (by omega) (by omega)]; omega
      have bd:=MG (r.reverse.length+1) .i64 (r.reverse.length:Int) (by omega) (by omega)
      rw[e2,e1]
      simp only[eG,go_sem,Z2 S,Z1 S,zN0,zN1,zN2,zN3,zN4,zI0,zI1,zI2,zI3,reduceCtorEq,AJ S,ZF he,Zv S,wi k (by omega),h1,h2,ge_iff_le,k8,k9,w1,bd,Int.toNat_natCast,Nat.succ_ne_zero,Int.natCast_eq_zero,ne_eq,not_true_eq_false,and_false,Nat.zero_mul,Nat.sub_zero,Nat.add_zero,Nat.zero_add]
      rw[<-hK,Z6 (on S _ _ [2,3,4,10,11] (by decide) rfl) rfl _ _ _ _ _ _ _ _ _ rfl]
      simp only[eG,go_sem,Z2 S,Z1 S,zN0,zN1,zN2,zN3,zN4,zI0,zI1,zI2,zI3,reduceCtorEq,AJ S,ZF he,Zv S,wi k (by omega),h1,h2,ge_iff_le]
      have:=ih (k+1) fuel r.reverse ([y]++junk) none (by omega) (by omega) (by omega) (.inl rfl)
      rw[<-List.append_assoc] at this
      exact this
     ·simp at h
   ·simp only [eG, go_sem, Z2 S, Z1 S, zN0, zN1, zN2, zN3, zN4, zI0, zI1, zI2, zI3, reduceCtorEq, AJ S, ZF he, Zv S, wi k (by omega), h1, h2, ge_iff_le, k8, k9]
    rw[<-hK,Z6 (on S _ _ [2,3,4,10,11] (by decide) rfl) rfl _ _ _ _ _ _ _ _ _ rfl]
    simp only[eG,go_sem,Z2 S,Z1 S,zN0,zN1,zN2,zN3,zN4,zI0,zI1,zI2,zI3,reduceCtorEq,AJ S,ZF he,Zv S,wi k (by omega),h1,h2,ge_iff_le]
    exact ih (k+1) fuel out junk q (by omega) (by omega) ho hq
theorem Z1w (dp:Nat)(p:Prog)(sk:List Int)(l:List Ent)(i:Int)(hl:l.length<1073741824)(hs:sk.length<1073741824):
  RQ (Z5 E fn (dp+2) 120 [.d (ZP p),.d (rD sk),.d (rD l),aI i] []) (Md.real p sk l i):=by
 rw[Yx,S.W5,Yw,Xv,Yq _ _ _ _ _ _ _ _ rfl]
 by_cases h0:sk.length=0
 ·have : sk = [] := List.length_eq_zero_iff.1 h0
  subst this
  simp only[eG,go_sem,Z2 S,Z1 S,zN0,zN1,zN2,zN3,zN4,zI0,zI1,zI2,zI3,reduceCtorEq,AJ S,YE]
  rw[ZU,Z6 (on S _ _ [2,3,4,10,11] (by decide) rfl) rfl _ _ _ _ _ _ _ _ _ rfl]
  simp only[eG,go_sem,Z2 S,Z1 S,zN0,zN1,zN2,zN3,zN4,zI0,zI1,zI2,zI3,reduceCtorEq,AJ S]
  refine Z2y S dp p l i hl _ ?_ (Md.cut l i).length 0 _ [] [] (some 0) (by omega) (by have:=Rk l i;omega) (by simp) (.inr ⟨rfl,rfl,rfl⟩)
  intro T out junk k h
  refine Z1v junk k ?_
  simp only[go_sem,Z2 S,Z1 S,zN0,zN1,zN2,zN3,zN4,zI0,zI1,zI2,zI3,reduceCtorEq,AJ S,h]
  exact Z5p rfl
 ·have l1 : sk.length * 8 <= Z4 := by unfold Z4; omega
  have l2:sk.length<=Z4:=by unfold Z4;omega
  have l3:(((rC sk).map AV.d).all AV.one)=true:=HR _
  simp only[eG,go_sem,Z2 S,Z1 S,zN0,zN1,zN2,zN3,zN4,zI0,zI1,zI2,zI3,reduceCtorEq,AJ S,YE,CA (cs:=[]),l1,l2,l3,ne_eq,h0,not_false_eq_true]
  rw[ZU,Z6 (on S _ _ [2,3,4,10,11] (by decide) rfl) rfl _ _ _ _ _ _ _ _ _ rfl]
  simp only[eG,go_sem,Z2 S,Z1 S,zN0,zN1,zN2,zN3,zN4,zI0,zI1,zI2,zI3,reduceCtorEq,AJ S]
  have:=Z2y S dp p l i hl (KE 0 (cQ (Z3 [st 58 (oV (.t 10)),st 8 (oV (.t 58)),st 9 (oV (.c (.v (.bool true))))]) cZ (Zj E 120) (Z5 E fn (dp+1)) (YD 0 [.tmp 8,.tmp 9]) (fun _ _ _=>none) (YD 0 [.tmp 8,.tmp 9])) (fun _ _ _=>none)) ?_ (Md.cut l i).length 0 999999999999999999999999999999 sk [] none (by omega) (by have:=Rk l i;omega) hs (.inl rfl)
  ·rw [List.append_nil] at this
   exact this
  intro T out junk k h
  refine Z1v junk k ?_
  simp only[go_sem,Z2 S,Z1 S,zN0,zN1,zN2,zN3,zN4,zI0,zI1,zI2,zI3,reduceCtorEq,AJ S,h]
  exact Z5p rfl
theorem Zdl (dp:Nat)(p:Prog)(sk:List Int)(l:List Ent)(i:Int)(hl:l.length<1073741824)(hs:sk.length<1073741824)(h:Md.real p sk l i=none)(A:List Blk)(nb:Nat)(us:List Nat):
  ZX true E (Z5 E fn (dp+2)) 120 A nb (some ([ZP p,rD sk,rD l,vi i],us))=some (.made (.tup [.d (.lst [] 0 (some 0)),ZZ false]) []):=by
 have h1:=Z1w S dp p sk l i hl hs
 rw[h,UY] at h1
 have hr:Jz E (Z5 E fn (dp+2)) 120 [ZP p,rD sk,rD l,vi i]=some (.tup [.d (.lst [] 0 (some 0)),ZZ false],[]):=by
  unfold Jz
  rw[np S 120 (by decide)]
  exact h1
 simp only[ZX,hr,G9,cond_true]
 show GH A us (some (.tup [.d (.lst [] 0 (some 0)),ZZ false],[],[]))=_
 show(bif CJ us || true then _ else _)=_
 rw[Bool.or_true];rfl
theorem Zdk (dp:Nat)(p:Prog)(sk:List Int)(l:List Ent)(i:Int)(hl:l.length<1073741824)(hs:sk.length<1073741824)(r:List Int)(h:Md.real p sk l i=some r):
  ∃ junk k,∀(A:List Blk) (nb:Nat) (us:List Nat),ZX true E (Z5 E fn (dp+2)) 120 A nb (some ([ZP p,rD sk,rD l,vi i],us))=some (.made (.tup [.sref nb 0 0 r.length 1 k,ZZ true]) [.cells ((rC (r++junk)).map .d) 0 false]):=by
 have h1:=Z1w S dp p sk l i hl hs
 rw[h] at h1
 obtain⟨junk,k,h1⟩:=h1
 refine⟨junk,k,fun A nb us=> ?_⟩
 have hr:Jz E (Z5 E fn (dp+2)) 120 [ZP p,rD sk,rD l,vi i]=some (.tup [.sref 0 0 0 r.length 1 k,ZZ true],[.cells ((rC (r++junk)).map .d) 0 false]):=by
  unfold Jz
  rw[np S 120 (by decide)]
  exact h1
 simp only[ZX,hr,G9,cond_true]
 have ht:CE [.cells ((rC (r++junk)).map .d) 0 false] nb 6 (.tup [.sref 0 0 0 r.length 1 k,ZZ true]) [] []=some (.tup [.sref nb 0 0 r.length 1 k,ZZ true],[.cells ((rC (r++junk)).map .d) 0 false],[0]):=by
  simp[CE,FX,ZW]
 rw[ht]
 have hf:K6 [.cells ((rC (r++junk)).map .d) 0 false]=true:=by
  show(((rC (r++junk)).map AV.d).all _&&true)=true
  rw[Bool.and_true,List.all_map]
  exact Z0x (r++junk)
 show(bif CJ us || (true&&K6 [.cells ((rC (r++junk)).map .d) 0 false]) then _ else _)=_
 rw[hf,Bool.and_true,Bool.or_true]
 rfl
end
section
variable (S:Sur E fn)
include S
end
section
variable (S:Sur E fn)
include S
end
structure Spot where
 p:Prog
 c:Conf
 i:Int
 e:Ent
 s:Ins
def Z9s (x:Spot):DV:=.agg (YH x.p++(QU x.c++(vi x.i::(Cl.cells x.e++Cl.cells x.s))))
theorem Zgn (x:Spot):Spot.mk x.p x.c x.i x.e x.s=x:=rfl
attribute [go_sem] Z9s Zgn
variable {E:Env} {fn:FuncId->Option (Env->cT->cT)}
section
variable (S:Sur E fn)
include S
end
section
variable (S:Sur E fn)
include S
end
section
variable (S:Sur E fn)
include S
end
end Go.Aug.Mc
