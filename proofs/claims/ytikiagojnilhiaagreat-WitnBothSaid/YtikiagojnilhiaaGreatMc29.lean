import Derived.Test.YtikiagojnilhiaaGreatMc24
import Derived.Test.YtikiagojnilhiaaGreatMc49
namespace Go.Aug.Mc
open Go Go.Aug
open Nat renaming reduceLT -> zN0, reduceEqDiff -> zN1, reduceAdd -> zN2, reduceMul -> zN3, reduceLeDiff -> zN4
open Int renaming reduceEq -> zI0, reduceLT -> zI1, reduceLE -> zI2, reduceNeg -> zI3
set_option linter.unusedSimpArgs false
set_option linter.unusedVariables false
set_option maxHeartbeats 40000000
def resR:Option (List Int)->DV
 | none=>.tup [rowD ([]:List Int),vb false]
 | some r=>.tup [rowD r,vb true]
theorem ans_own {i:Nat}{out junk:List Int}{k:Option Nat}{A:List Blk}{b:Bool}(hA:A[i]? =some (.cells ((rowC (out++junk)).map .d) 0 false)):
  ansOf (endN 0 (some (.tup [.sref i 0 0 out.length 1 k,abool b],A)))=some (.tup [rowD out,vb b]):=by
 have hi:¬A.length<=i:=by
  intro h;rw[List.getElem?_eq_none h] at hA;cases hA
 cases out with
 | nil=>simp only[eG,go_sem,f_reach,hA,hi,List.not_mem_nil,false_or,or_false,Nat.not_lt_zero,if_false]
 | cons x xs=>
  have hd:deep [.cells ((rowC (x::xs++junk)).map .d) 0 false] 7 (.sref 0 0 0 (x::xs).length 1 k)=some (.lst (rowC (x::xs)) (x::xs).length k,[0]):=deep_junk (by simp) rfl _ _ _ rfl
  simp only[eG,go_sem,f_reach,hA,hi,List.not_mem_nil,false_or,or_false,Nat.not_lt_zero,if_false] at hd ⊢
  rw[hd]
  rfl
variable {E:Env} {fn:FuncId->Option (Env->CallT->CallT)}
section
variable (S:Sur E fn)
include S
theorem o83_6:E.lives 83 1=none/\E.lives 83 17=none/\E.lives 83 19=none/\E.lives 83 25=none/\E.lives 83 27=none:=⟨off S 83 1 (by decide) rfl,off S 83 17 (by decide) rfl,off S 83 19 (by decide) rfl,off S 83 25 (by decide) rfl,off S 83 27 (by decide) rfl⟩
theorem loop_rReal (dp:Nat)(p:Prog)(l:List Ent)(i:Int)(hl:l.length<1073741824)(kx:Nat->K)
  (hx:∀ T out junk k,getS .bot T 10=.sref 1 0 0 (out:List Int).length 1 k->ansOf (kx 0 (mk .bot 59 T) [.cells ((progC p).map .d) 0 false,.cells ((rowC (out++junk)).map .d) 0 false])=some (resR (some out))):
  ∀(m k fuel:Nat) (out junk:List Int) (q:Option Nat),k+m=(Md.cut l i).length->m<=fuel->out.length<1073741824->(q=none∨q=some 0/\out=[]/\junk=[])->ansOf (B8_r9_Real (inn E 83) (evC E fn (dp+1)) (loopK 8 B8_r9_Real (inn E 83) (evC E fn (dp+1)) kx (kEnd 0 [.tmp 8,.tmp 9]) fuel) kx (kEnd 0 [.tmp 8,.tmp 9])
   (mk .bot 59 [(2,.d (rowD l)),(3,aint i),(4,.ref 0 0 0),(10,.sref 1 0 0 out.length 1 q),(11,aint k)]) [.cells ((progC p).map .d) 0 false,.cells ((rowC (out++junk)).map .d) 0 false])=
   some (resR (Md.realGo p ((Md.cut l i).drop k) out)):=by
 intro m
 have hcl:(Md.cut l i).length=min i.toNat l.length:=by simp[Md.cut]
 induction m with
 | zero=>
  intro k fuel out junk q hk _ ho hq
  generalize loopK 8 B8_r9_Real _ _ kx _ fuel=KK
  rw[B8_r9_Real,List.drop_of_length_le (by omega)]
  by_cases h1:(k:Int)<i
  ·simp only [eG, go_sem, thq S, nbr S, zN0, zN1, zN2, zN3, zN4, zI0, zI1, zI2, zI3, reduceCtorEq, o83_6 S, h1, show ¬ (k : Int) < l.length by omega, Md.realGo]
   exact hx _ _ _ q rfl
  ·simp only [eG, go_sem, thq S, nbr S, zN0, zN1, zN2, zN3, zN4, zI0, zI1, zI2, zI3, reduceCtorEq, o83_6 S, h1, Md.realGo]
   exact hx _ _ _ q rfl
 | succ m ih=>
  intro k fuel out junk q hk hf ho hq
  obtain⟨e,he⟩:=get_of (show k<l.length by omega)
  have hc:(Md.cut l i)[k]? =some e:=by unfold Md.cut;rw[List.getElem?_take,if_pos (by omega),he]
  obtain⟨fuel,rfl⟩:∃ m,fuel=m+1:=⟨fuel-1,by omega⟩
  generalize hK:loopK 8 B8_r9_Real _ _ kx _ (fuel+1)=KK
  rw[B8_r9_Real,drop_get hc,Md.realGo]
  have h1:(k:Int)<i:=by omega
  have h2:(k:Int)<l.length:=by omega
  by_cases k8:(Md.at_ p e.pc).kind=8
  ·by_cases h4 : 4 <= out.length
   ·simp only[eG,go_sem,thq S,nbr S,zN0,zN1,zN2,zN3,zN4,zI0,zI1,zI2,zI3,reduceCtorEq,o83_6 S,w_ix he,cA7 S,wi k (by omega),h1,h2,ge_iff_le,k8,h4,show(4:Int)<=out.length by omega,resR]
   ·have l1 : (out.length + 1) * 8 <= limA := by unfold limA; omega
    have l2:out.length+1<=limA:=by unfold limA;omega
    rcases hq with rfl | ⟨rfl,rfl,rfl⟩
    ·cases junk with
     | nil=>
      simp only[List.append_nil]
      simp only[eG,go_sem,thq S,nbr S,zN0,zN1,zN2,zN3,zN4,zI0,zI1,zI2,zI3,reduceCtorEq,o83_6 S,w_ix he,cA7 S,wi k (by omega),h1,h2,ge_iff_le,k8,h4,show ¬(4:Int)<=out.length by omega,rep1',app_endI,l1,l2]
      rw[<-hK,loop_in (on S _ _ [2,3,4,10,11] (by decide) rfl) rfl _ _ _ _ _ _ _ _ _ rfl]
      simp only[eG,go_sem,thq S,nbr S,zN0,zN1,zN2,zN3,zN4,zI0,zI1,zI2,zI3,reduceCtorEq,o83_6 S,w_ix he,cA7 S,wi k (by omega),h1,h2,ge_iff_le]
      have e1:out.length+1=(out++[Md.w64 (e.pc+1)]).length:=by simp
      have:=ih (k+1) fuel (out++[Md.w64 (e.pc+1)]) [] none (by omega) (by omega) (by simp;omega) (.inl rfl)
      rw[<-e1,List.append_nil] at this
      exact this
     | cons y junk=>
      simp only[eG,go_sem,thq S,nbr S,zN0,zN1,zN2,zN3,zN4,zI0,zI1,zI2,zI3,reduceCtorEq,o83_6 S,w_ix he,cA7 S,wi k (by omega),h1,h2,ge_iff_le,k8,h4,show ¬(4:Int)<=out.length by omega,rep1',app_inI (y:=y) (junk:=junk),l1,l2]
      rw[<-hK,loop_in (on S _ _ [2,3,4,10,11] (by decide) rfl) rfl _ _ _ _ _ _ _ _ _ rfl]
      simp only[eG,go_sem,thq S,nbr S,zN0,zN1,zN2,zN3,zN4,zI0,zI1,zI2,zI3,reduceCtorEq,o83_6 S,w_ix he,cA7 S,wi k (by omega),h1,h2,ge_iff_le]
      have e1:out.length+1=(out++[Md.w64 (e.pc+1)]).length:=by simp
      have:=ih (k+1) fuel (out++[Md.w64 (e.pc+1)]) junk none (by omega) (by omega) (by simp;omega) (.inl rfl)
      rw[<-e1,List.append_assoc] at this
      exact this
    ·simp only [eG, go_sem, thq S, nbr S, zN0, zN1, zN2, zN3, zN4, zI0, zI1, zI2, zI3, reduceCtorEq, o83_6 S, w_ix he, cA7 S, wi k (by omega), h1, h2, ge_iff_le, k8, List.length_nil, show ¬ (4 : Int) <= (0 : Nat) by omega, rep1', app_zero (cs := []), Nat.succ_ne_zero, show (1 : Nat) * 8 <= limA by decide, show (1 : Nat) <= limA by decide, ne_eq, not_false_eq_true]
     rw[<-hK,loop_in (on S _ _ [2,3,4,10,11] (by decide) rfl) rfl _ _ _ _ _ _ _ _ _ rfl]
     simp only[eG,go_sem,thq S,nbr S,zN0,zN1,zN2,zN3,zN4,zI0,zI1,zI2,zI3,reduceCtorEq,o83_6 S,w_ix he,cA7 S,wi k (by omega),h1,h2,ge_iff_le]
     exact ih (k+1) fuel [Md.w64 (e.pc+1)] [] none (by omega) (by omega) (by simp) (.inl rfl)
  ·by_cases k9 : (Md.at_ p e.pc).kind = 9
   ·cases hr : out.reverse with
    | nil=>
     have:out=[]:=List.reverse_eq_nil_iff.1 hr
     subst this
     simp only[eG,go_sem,thq S,nbr S,zN0,zN1,zN2,zN3,zN4,zI0,zI1,zI2,zI3,reduceCtorEq,o83_6 S,w_ix he,cA7 S,wi k (by omega),h1,h2,ge_iff_le,k8,k9,List.length_nil,resR,zI0,Int.natCast_eq_zero]
    | cons y r=>
     have e0:out=r.reverse++[y]:=by rw[<-List.reverse_reverse out,hr,List.reverse_cons]
     subst e0
     have e1:(r.reverse++[y]).dropLast=r.reverse:=List.dropLast_concat
     have e2:(r.reverse++[y]).length=r.reverse.length+1:=by simp
     rcases hq with rfl | ⟨_,h,_⟩
     ·have w1 : IntKind.i64.wrap (((r.reverse.length + 1 : Nat) : Int) - 1) = (r.reverse.length : Int) := by rw [e2] at ho; rw [wrap_i64 (by omega) (by omega)]; omega
      have bd:=bndsV_hi (r.reverse.length+1) .i64 (r.reverse.length:Int) (by omega) (by omega)
      rw[e2,e1]
      simp only[eG,go_sem,thq S,nbr S,zN0,zN1,zN2,zN3,zN4,zI0,zI1,zI2,zI3,reduceCtorEq,o83_6 S,w_ix he,cA7 S,wi k (by omega),h1,h2,ge_iff_le,k8,k9,w1,bd,Int.toNat_natCast,Nat.succ_ne_zero,Int.natCast_eq_zero,ne_eq,not_true_eq_false,and_false,Nat.zero_mul,Nat.sub_zero,Nat.add_zero,Nat.zero_add]
      rw[<-hK,loop_in (on S _ _ [2,3,4,10,11] (by decide) rfl) rfl _ _ _ _ _ _ _ _ _ rfl]
      simp only[eG,go_sem,thq S,nbr S,zN0,zN1,zN2,zN3,zN4,zI0,zI1,zI2,zI3,reduceCtorEq,o83_6 S,w_ix he,cA7 S,wi k (by omega),h1,h2,ge_iff_le]
      have:=ih (k+1) fuel r.reverse ([y]++junk) none (by omega) (by omega) (by omega) (.inl rfl)
      rw[<-List.append_assoc] at this
      exact this
     ·simp at h
   ·simp only [eG, go_sem, thq S, nbr S, zN0, zN1, zN2, zN3, zN4, zI0, zI1, zI2, zI3, reduceCtorEq, o83_6 S, w_ix he, cA7 S, wi k (by omega), h1, h2, ge_iff_le, k8, k9]
    rw[<-hK,loop_in (on S _ _ [2,3,4,10,11] (by decide) rfl) rfl _ _ _ _ _ _ _ _ _ rfl]
    simp only[eG,go_sem,thq S,nbr S,zN0,zN1,zN2,zN3,zN4,zI0,zI1,zI2,zI3,reduceCtorEq,o83_6 S,w_ix he,cA7 S,wi k (by omega),h1,h2,ge_iff_le]
    exact ih (k+1) fuel out junk q (by omega) (by omega) ho hq
def boolO {α:Type}:Option α->Bool
 | some _=>true
 | none=>false
def getO:Option (List Int)->List Int
 | some l=>l
 | none=>[]
theorem raw_r9_Real (dp:Nat)(p:Prog)(sk:List Int)(l:List Ent)(i:Int)(hl:l.length<1073741824)(hs:sk.length<1073741824):Says E fn (dp+2) 83 [progD p,rowD sk,rowD l,vi i] (.tup [rowD (getO (Md.real p sk l i)),vb (boolO (Md.real p sk l i))]):=by
 unfold Says
 show ansOf (evC E fn (dp+1+1) 83 [.d (progD p),.d (rowD sk),.d (rowD l),.d (vi i)] [])=_
 rw[evC_succ,S.f_r9_Real,apF_some,F_r9_Real,mkF_run _ _ _ _ _ _ _ _ rfl]
 have fin:∀ X:Option (List Int),DV.tup [rowD (getO X),vb (boolO X)]=resR X:=fun X=>by cases X<;>rfl
 rw[fin]
 by_cases h0:sk.length=0
 ·have : sk = [] := List.length_eq_zero_iff.1 h0
  subst this
  simp only[eG,go_sem,thq S,nbr S,zN0,zN1,zN2,zN3,zN4,zI0,zI1,zI2,zI3,reduceCtorEq,o83_6 S,rep0']
  rw[big_eq,loop_in (on S _ _ [2,3,4,10,11] (by decide) rfl) rfl _ _ _ _ _ _ _ _ _ rfl]
  simp only[eG,go_sem,thq S,nbr S,zN0,zN1,zN2,zN3,zN4,zI0,zI1,zI2,zI3,reduceCtorEq,o83_6 S]
  refine loop_rReal S dp p l i hl _ ?_ (Md.cut l i).length 0 _ [] [] (some 0) (by omega) (by have:=cut_len l i;omega) (by simp) (.inr ⟨rfl,rfl,rfl⟩)
  intro T out junk k h
  simp only[go_sem,thq S,nbr S,zN0,zN1,zN2,zN3,zN4,zI0,zI1,zI2,zI3,reduceCtorEq,o83_6 S,h]
  exact ans_own rfl
 ·have l1 : sk.length * 8 <= limA := by unfold limA; omega
  have l2:sk.length<=limA:=by unfold limA;omega
  have l3:(((rowC sk).map AV.d).all AV.one)=true:=one_row _
  simp only[eG,go_sem,thq S,nbr S,zN0,zN1,zN2,zN3,zN4,zI0,zI1,zI2,zI3,reduceCtorEq,o83_6 S,rep0',app_zero (cs:=[]),l1,l2,l3,ne_eq,h0,not_false_eq_true]
  rw[big_eq,loop_in (on S _ _ [2,3,4,10,11] (by decide) rfl) rfl _ _ _ _ _ _ _ _ _ rfl]
  simp only[eG,go_sem,thq S,nbr S,zN0,zN1,zN2,zN3,zN4,zI0,zI1,zI2,zI3,reduceCtorEq,o83_6 S]
  have:=loop_rReal S dp p l i hl (blockK 0 (cQ (cOz [st 58 (oV (.t 10)),st 8 (oV (.t 58)),st 9 (oV (.c (.v (.bool true))))]) cRet (inn E 83) (evC E fn (dp+1)) (kEnd 0 [.tmp 8,.tmp 9]) (fun _ _ _=>none) (kEnd 0 [.tmp 8,.tmp 9])) (fun _ _ _=>none)) ?_ (Md.cut l i).length 0 999999999999999999999999999999 sk [] none (by omega) (by have:=cut_len l i;omega) hs (.inl rfl)
  ·rw [List.append_nil] at this
   exact this
  intro T out junk k h
  simp only[go_sem,thq S,nbr S,zN0,zN1,zN2,zN3,zN4,zI0,zI1,zI2,zI3,reduceCtorEq,o83_6 S,h]
  exact ans_own rfl
theorem c_r9_Real (dp:Nat)(p_w p_wn p_fu p_r0 p_r1 p_r2 p_r3:Int)(p_ms:List MemT)(p_ls:List Label)(p_is:List Ins)(sk:List Int)(l:List Ent)(i:Int)(hl:l.length<1073741824)(hs:sk.length<1073741824)(A:List Blk)(nb:Nat):evOwnK false E (evC E fn (dp+2)) 83 A nb (some ([.agg [vi p_w,vi p_wn,vi p_fu,vi p_r0,vi p_r1,vi p_r2,vi p_r3,rowD p_ms,rowD p_ls,rowD p_is],rowD sk,rowD l,vi i],[]))=some (.made (.d (.tup [rowD (getO (Md.real (⟨p_w,p_wn,p_fu,⟨p_r0,p_r1,p_r2,p_r3⟩,p_ms,p_ls,p_is⟩:Prog) sk l i)),vb (boolO (Md.real (⟨p_w,p_wn,p_fu,⟨p_r0,p_r1,p_r2,p_r3⟩,p_ms,p_ls,p_is⟩:Prog) sk l i))])) []):=
 Says.deep (raw_r9_Real S dp (⟨p_w,p_wn,p_fu,⟨p_r0,p_r1,p_r2,p_r3⟩,p_ms,p_ls,p_is⟩:Prog) sk l i hl hs) (np S 83 (by decide)) A nb
end
variable {E:Env} {fn:FuncId->Option (Env->CallT->CallT)}
section
variable (S:Sur E fn)
include S
theorem raw_r9_Push (dp:Nat)(l:List Int)(x:Int)(hl:l.length<1073741823):Says E fn (dp+1) 84 [rowD l,vi x] (rowD (Md.push l x)):=by
 unfold Says
 show ansOf (evC E fn (dp+1) 84 [.d (rowD l),.d (vi x)] [])=_
 rw[evC_succ,S.f_r9_Push,apF_some,F_r9_Push,mkF_run _ _ _ _ _ _ _ _ rfl]
 by_cases h0:l.length=0
 ·have : l = [] := List.length_eq_zero_iff.1 h0
  subst this
  have bd:=bndsV_lo 1 .i64 0 (by omega) (by omega)
  have w1:max (IntKind.i64.wrap (((0+1:Nat):Int)-2)) 0=0:=by decide
  simp only[eG,go_sem,thq S,nbr S,Nat.reduceLT,Nat.reduceEqDiff,Nat.reduceAdd,Nat.reduceMul,Nat.reduceLeDiff,Int.reduceEq,Int.reduceLT,Int.reduceLE,Int.reduceNeg,reduceCtorEq,rep0',rep1',app_zero (cs:=[]),ne_eq,Nat.succ_ne_zero,not_false_eq_true,show(1:Nat)*8<=limA by decide,show(1:Nat)<=limA by decide,Int.natCast_one,Nat.zero_add,Int.reduceSub,show IntKind.i64.wrap (-1)= -1 by decide,show max (-1:Int) 0=0 by decide,bd,Int.toNat_zero,and_false,not_true_eq_false,false_and,Nat.zero_mul,Nat.sub_zero,Nat.add_zero,Md.push,List.drop_zero,deep_sr,Nat.one_mul,Nat.le_refl,Nat.zero_ne_one,Nat.one_ne_zero]
  rfl
 ·have l1 : l.length * 8 <= limA := by unfold limA; omega
  have l2:l.length<=limA:=by unfold limA;omega
  have l3:(((rowC l).map AV.d).all AV.one)=true:=one_row _
  have l4:(l.length+1)*8<=limA:=by unfold limA;omega
  have l5:l.length+1<=limA:=by unfold limA;omega
  have w1:max (IntKind.i64.wrap (((l.length+1:Nat):Int)-2)) 0=((l.length-1:Nat):Int):=by rw[wrap_i64 (by omega) (by omega)];omega
  have bd:=bndsV_lo (l.length+1) .i64 ((l.length-1:Nat):Int) (by omega) (by omega)
  have n1:¬(l.length-1=l.length+1):=by omega
  simp only[eG,go_sem,thq S,nbr S,Nat.reduceLT,Nat.reduceEqDiff,Nat.reduceAdd,Nat.reduceMul,Nat.reduceLeDiff,Int.reduceEq,Int.reduceLT,Int.reduceLE,Int.reduceNeg,reduceCtorEq,rep0',rep1',app_zero (cs:=[]),l1,l2,l3,ne_eq,h0,not_false_eq_true,app_endI,l4,l5,w1,bd,Int.toNat_natCast,n1,false_and,Nat.mul_one,Nat.zero_add]
  have e1:l++[x]=(l++[x]).take (l.length-1)++((l++[x]).drop (l.length-1)++[]):=by rw[List.append_nil,List.take_append_drop]
  have hd:∀ j A,A[j]? =some (.cells ((rowC (l++[x])).map .d) 0 false)->deep A 8 (.sref j 0 (l.length-1) (l.length+1-(l.length-1)) 1 none)=some (.lst (rowC ((l++[x]).drop (l.length-1))) (l.length+1-(l.length-1)) none,[j]):=by
   intro j A hA
   refine deep_pre (pre:=(l++[x]).take (l.length-1)) (junk:=[]) (by rw[<-e1];exact hA) ?_ 6 _ _ _ _ rfl ?_ ?_
   ·intro h
    have:=congrArg List.length h
    simp at this
    omega
   ·simp[n_int];omega
   ·simp
  have:=hd 0 [.cells ((rowC (l++[x])).map .d) 0 false] rfl
  rw[this]
  have e2:l.length+1-(l.length-1)=(Md.push l x).length:=by simp[Md.push]
  rw[e2]
  rfl
theorem c_r9_Push (dp:Nat)(l:List Int)(x:Int)(hl:l.length<1073741823)(A:List Blk)(nb:Nat):evOwnK false E (evC E fn (dp+1)) 84 A nb (some ([rowD l,vi x],[]))=some (.made (.d (rowD (Md.push l x))) []):=
 Says.deep (raw_r9_Push S dp l x hl) (np S 84 (by decide)) A nb
end
theorem last_get {l:List Int}(h:l.length≠0):l[l.length-1]? =some (Md.lastI l):=by
 unfold Md.lastI
 rw[List.getLast?_eq_getElem?]
 obtain⟨e,he⟩:=get_of (show l.length-1<l.length by omega)
 rw[he];rfl
theorem lt_len {A:List Blk}{i:Nat}{b:Blk}(h:A[i]? =some b):¬A.length<=i:=by
 intro hl
 rw[List.getElem?_eq_none hl] at h
 cases h
theorem ans_conf {L:List Ent}{A:List Blk}{j v len:Nat}{k:Option Nat}{r0 r1 r2 r3 mm sk pc rb en x:DV}
  (hA:A[j]? =some (.cells ((rowC L).map .d) v false)) (h0:L≠[]) (hl:len=L.length) (f0:[r0,r1,r2,r3,mm,sk,pc,rb,en].map (fk 2)=[r0,r1,r2,r3,mm,sk,pc,rb,en]) (fx:fk 3 x=x):
  ansOf (endN 0 (some (.tup [.agg [.d r0,.d r1,.d r2,.d r3,.d mm,.d sk,.d pc,.sref j v 0 len 8 k,.d rb,.d en],.d x],A)))=some (.tup [.agg [r0,r1,r2,r3,mm,sk,pc,rowD L,rb,en],x]):=by
 subst hl
 have hi:=lt_len hA
 have hd:=deep_alone L h0 L.length rfl 4 8 k rfl
 simp only[List.map_cons,List.map_nil,List.cons.injEq,and_true] at f0
 simp only[eG,go_sem,f_reach,hA,hi,List.not_mem_nil,false_or,or_false,Nat.not_lt_zero,if_false,hd,f0,fx]
 rfl
theorem ans_conf2 {L:List Ent}{R:List Int}{A:List Blk}{j v len j2 v2 len2:Nat}{k k2:Option Nat}{r0 r1 r2 r3 mm sk pc en x:DV}
  (hA:A[j]? =some (.cells ((rowC L).map .d) v false)) (h0:L≠[]) (hl:len=L.length) (hB:A[j2]? =some (.cells ((rowC R).map .d) v2 false)) (h2:len2=R.length) (hj:j≠j2) (f0:[r0,r1,r2,r3,mm,sk,pc,en].map (fk 2)=[r0,r1,r2,r3,mm,sk,pc,en]) (fx:fk 3 x=x):
  ansOf (endN 0 (some (.tup [.agg [.d r0,.d r1,.d r2,.d r3,.d mm,.d sk,.d pc,.sref j v 0 len 8 k,.sref j2 v2 0 len2 1 k2,.d en],.d x],A)))=some (.tup [.agg [r0,r1,r2,r3,mm,sk,pc,rowD L,rowD R,en],x]):=by
 subst hl h2
 have hi:=lt_len hA
 have hi2:=lt_len hB
 have hj':j2≠j:=fun e=>hj e.symm
 have hd:deep [.cells ((rowC L).map .d) 0 false,.cells ((rowC R).map .d) 0 false] 6 (.sref 0 0 0 L.length 8 k)=some (.lst (rowC L) L.length k,[0]):=deep_all rfl h0 4 _ 8 k rfl rfl
 simp only[List.map_cons,List.map_nil,List.cons.injEq,and_true] at f0
 by_cases hR:R=[]
 ·subst hR
  simp only[eG,go_sem,f_reach,hA,hB,hi,hi2,hj,hj',List.not_mem_nil,List.mem_cons,false_or,or_false,Nat.not_lt_zero,if_false,f0,fx] at hd ⊢
  simp only[hd,go_sem,f0,fx]
  rfl
 ·have hd2 : deep [.cells ((rowC L).map .d) 0 false, .cells ((rowC R).map .d) 0 false] 6 (.sref 1 0 0 R.length 1 k2) = some (.lst (rowC R) R.length k2, [1]) := deep_all rfl hR 4 _ 1 k2 rfl rfl
  simp only[eG,go_sem,f_reach,hA,hB,hi,hi2,hj,hj',List.not_mem_nil,List.mem_cons,false_or,or_false,Nat.not_lt_zero,if_false,hd,hd2,f0,fx]
  rfl
theorem ans_conf' {l:List Ent}{e:Ent}{D:DV}{A:List Blk}{j v len:Nat}{k:Option Nat}{r0 r1 r2 r3 mm sk pc rb en x:DV}
  (hA:A[j]? =some (.cells ((rowC (l++[e])).map .d) v false)) (hD:D=.tup [.agg [r0,r1,r2,r3,mm,sk,pc,rowD (l++[e]),rb,en],x]) (f0:[r0,r1,r2,r3,mm,sk,pc,rb,en].map (fk 2)=[r0,r1,r2,r3,mm,sk,pc,rb,en]) (hl:len=(l++[e]).length) (fx:fk 3 x=x) (_:0=0):
  ansOf (endN 0 (some (.tup [.agg [.d r0,.d r1,.d r2,.d r3,.d mm,.d sk,.d pc,.sref j v 0 len 8 k,.d rb,.d en],.d x],A)))=some D:=by
 rw[hD];exact ans_conf hA (by simp) hl f0 fx
theorem ans_conf2' {l:List Ent}{e:Ent}{R:List Int}{D:DV}{A:List Blk}{j v len j2 v2 len2:Nat}{k k2:Option Nat}{r0 r1 r2 r3 mm sk pc en x:DV}
  (hA:A[j]? =some (.cells ((rowC (l++[e])).map .d) v false)) (hB:A[j2]? =some (.cells ((rowC R).map .d) v2 false)) (hD:D=.tup [.agg [r0,r1,r2,r3,mm,sk,pc,rowD (l++[e]),rowD R,en],x]) (hj:j≠j2) (hl:len=(l++[e]).length) (f0:[r0,r1,r2,r3,mm,sk,pc,en].map (fk 2)=[r0,r1,r2,r3,mm,sk,pc,en]) (fx:fk 3 x=x) (h2:len2=R.length:=by first | rfl | simp):
  ansOf (endN 0 (some (.tup [.agg [.d r0,.d r1,.d r2,.d r3,.d mm,.d sk,.d pc,.sref j v 0 len 8 k,.sref j2 v2 0 len2 1 k2,.d en],.d x],A)))=some D:=by
 rw[hD];exact ans_conf2 hA (by simp) hl hB h2 hj f0 fx
def fetchC (p:Prog)(c:Conf)(g:Int):Conf:=bif Md.canFetch p c g then Md.fetch p c g else Md.conf0
variable {E:Env} {fn:FuncId->Option (Env->CallT->CallT)}
section
variable (S:Sur E fn)
include S
theorem o40_9:E.lives 40 7=none/\E.lives 40 19=none/\E.lives 40 21=none/\E.lives 40 25=none/\E.lives 40 29=none/\E.lives 40 33=none/\E.lives 40 39=none/\E.lives 40 45=none/\E.lives 40 53=none/\E.lives 40 55=none:=⟨off S 40 7 (by decide) rfl,off S 40 19 (by decide) rfl,off S 40 21 (by decide) rfl,off S 40 25 (by decide) rfl,off S 40 29 (by decide) rfl,off S 40 33 (by decide) rfl,off S 40 39 (by decide) rfl,off S 40 45 (by decide) rfl,off S 40 53 (by decide) rfl,off S 40 55 (by decide) rfl⟩
theorem raw_r9_Fetch (dp:Nat)(p:Prog)(c:Conf)(g:Int)(hi:p.ins.length<1073741824)(hb:c.buf.length<1073741823)(hs:c.state.stack.length<1073741824)(hr:c.rsb.length<1073741823):Says E fn (dp+3) 40 [progD p,confD c,vi g] (.tup [confD (fetchC p c g),vb (Md.canFetch p c g)]):=by
 unfold Says
 show ansOf (evC E fn (dp+2+1) 40 [.d (progD p),.d (confD c),.d (vi g)] [])=_
 rw[evC_succ,S.f_r9_Fetch,apF_some,F_r9_Fetch,mkF_run _ _ _ _ _ _ _ _ rfl]
 have hb':c.buf.length<1073741824:=by omega
 by_cases g0:g<0
 ·simp only[eG,go_sem,thq S,nbr S,zN0,zN1,zN2,zN3,zN4,zI0,zI1,zI2,zI3,reduceCtorEq,o40_9 S,g0,fetchC,Md.canFetch,show ¬0<=g by omega,Md.conf0]
 by_cases g1:g>=Md.guesses p c
 ·simp only[eG,go_sem,thq S,nbr S,zN0,zN1,zN2,zN3,zN4,zI0,zI1,zI2,zI3,reduceCtorEq,o40_9 S,g0,g1,fetchC,Md.canFetch,show ¬g<Md.guesses p c by omega,Md.conf0,c_r9_Guesses S,hi]
 have hc:Md.canFetch p c g=true:=by simp[Md.canFetch];omega
 unfold fetchC
 rw[hc,cond_true]
 by_cases h0:c.buf.length=0
 ·have hbn : c.buf = [] := List.length_eq_zero_iff.1 h0
  simp only[go_sem,thq S,nbr S,zN0,zN1,zN2,zN3,zN4,zI0,zI1,zI2,zI3,reduceCtorEq,o40_9 S,g0,g1,c_r9_Guesses S,hi,cA7 S,c_r9_Real S,c_r9_Push S,hb,hb',hs,hr,rep0',rep1',show(1:Nat)*48<=limA by decide,show(1:Nat)<=limA by decide,ne_eq,not_false_eq_true,Nat.one_ne_zero,Md.w64,Md.fetch,Md.entry,if_true,if_false,app_endE,app_zero (cs:=[]),false_and,and_false,h0]
  by_cases k5:(Md.at_ p c.state.pc).kind=5
  ·by_cases hg : g = 1
   ·simp only [k5, hg, decide_true, decide_false, cond_true, cond_false, if_true, if_false, zI0, or_self, or_true, true_or]
    rw[hbn]
    refine ans_conf' (l:=[]) ?_ rfl rfl ?_ rfl rfl
    ·rfl
    ·first | rfl | simp
   ·simp only [k5, hg, decide_true, decide_false, cond_true, cond_false, if_true, if_false, zI0, or_self, or_true, true_or]
    rw[hbn]
    refine ans_conf' (l:=[]) ?_ rfl rfl ?_ rfl rfl
    ·rfl
    ·first | rfl | simp
  by_cases k6:(Md.at_ p c.state.pc).kind=6
  ·simp only [k6, decide_true, decide_false, cond_true, cond_false, if_true, if_false, zI0, or_self, or_true, true_or]
   rw[hbn]
   refine ans_conf' (l:=[]) ?_ rfl rfl ?_ rfl rfl
   ·rfl
   ·first | rfl | simp
  by_cases k7:(Md.at_ p c.state.pc).kind=7
  ·simp only [k7, decide_true, decide_false, cond_true, cond_false, if_true, if_false, zI0, or_self, or_true, true_or]
   rw[hbn]
   refine ans_conf' (l:=[]) ?_ rfl rfl ?_ rfl rfl
   ·rfl
   ·first | rfl | simp
  by_cases k9:(Md.at_ p c.state.pc).kind=9
  ·by_cases hz : c.rsb.length = 0
   ·simp only [k9, hz, decide_true, decide_false, cond_true, cond_false, if_true, if_false, zI0, or_self, or_true, true_or, show ¬ ((0 : Nat) : Int) > 0 by omega]
    rw[hbn]
    refine ans_conf' (l:=[]) ?_ rfl rfl ?_ rfl rfl
    ·rfl
    ·first | rfl | simp
   ·have w2 : IntKind.i64.wrap ((c.rsb.length : Int) - 1) = ((c.rsb.length - 1 : Nat) : Int) := by rw [wrap_i64 (by omega) (by omega)]; omega
    have bd:=bndsV_hi c.rsb.length .i64 ((c.rsb.length-1:Nat):Int) (by omega) (by omega)
    have hlast:=last_get hz
    have hdl:c.rsb.take (c.rsb.length-1)=c.rsb.dropLast:=List.dropLast_eq_take.symm
    simp only[k9,hz,decide_true,decide_false,cond_true,cond_false,if_true,if_false,zI0,or_self,or_true,true_or,show(c.rsb.length:Int)>0 by omega]
    by_cases hq:c.rsb.dropLast.length=0
    ·have hq2 : c.rsb.dropLast = [] := List.length_eq_zero_iff.1 hq
     simp only[go_sem,thq S,nbr S,zN0,zN1,zN2,zN3,zN4,zI0,zI1,zI2,zI3,reduceCtorEq,o40_9 S,g0,g1,c_r9_Guesses S,hi,cA7 S,c_r9_Real S,c_r9_Push S,hb,hb',hs,hr,rep0',rep1',show(1:Nat)*48<=limA by decide,show(1:Nat)<=limA by decide,ne_eq,not_false_eq_true,Nat.one_ne_zero,Md.w64,Md.fetch,Md.entry,if_true,if_false,app_endE,app_zero (cs:=[]),false_and,and_false,h0,w2,bd,w_ix hlast,Int.toNat_natCast,List.drop_zero,Nat.sub_zero,hdl,hq2]
     rw[hbn]
     refine ans_conf2' (l:=[]) (R:=[]) ?_ ?_ rfl ?_ ?_ rfl rfl ?_
     ·rfl
     ·rfl
     ·decide
     ·first | rfl | simp
     ·first | rfl | simp
    ·have q1 : c.rsb.dropLast.length * 8 <= limA := by unfold limA; simp; omega
     have q2:c.rsb.dropLast.length<=limA:=by unfold limA;simp;omega
     have q3:(((rowC c.rsb.dropLast).map AV.d).all AV.one)=true:=one_row _
     simp only[go_sem,thq S,nbr S,zN0,zN1,zN2,zN3,zN4,zI0,zI1,zI2,zI3,reduceCtorEq,o40_9 S,g0,g1,c_r9_Guesses S,hi,cA7 S,c_r9_Real S,c_r9_Push S,hb,hb',hs,hr,rep0',rep1',show(1:Nat)*48<=limA by decide,show(1:Nat)<=limA by decide,ne_eq,not_false_eq_true,Nat.one_ne_zero,Md.w64,Md.fetch,Md.entry,if_true,if_false,app_endE,app_zero (cs:=[]),false_and,and_false,h0,w2,bd,w_ix hlast,Int.toNat_natCast,List.drop_zero,Nat.sub_zero,hdl,hq,q1,q2,q3]
     rw[hbn]
     refine ans_conf2' (l:=[]) (R:=c.rsb.dropLast) ?_ ?_ rfl ?_ ?_ rfl rfl ?_
     ·rfl
     ·rfl
     ·decide
     ·first | rfl | simp
     ·first | rfl | simp
  by_cases k8:(Md.at_ p c.state.pc).kind=8
  ·simp only [k8, decide_true, decide_false, cond_true, cond_false, if_true, if_false, zI0, or_self, or_true, true_or]
   cases hreal:Md.real p c.state.stack c.buf c.buf.length with
   | none=>
    rw[h0] at hreal
    have hr4:=hreal
    simp only[go_sem,thq S,nbr S,zN0,zN1,zN2,zN3,zN4,zI0,zI1,zI2,zI3,reduceCtorEq,o40_9 S,g0,g1,c_r9_Guesses S,hi,cA7 S,c_r9_Real S,c_r9_Push S,hb,hb',hs,hr,rep0',rep1',show(1:Nat)*48<=limA by decide,show(1:Nat)<=limA by decide,ne_eq,not_false_eq_true,Nat.one_ne_zero,Md.w64,Md.fetch,Md.entry,if_true,if_false,app_endE,app_zero (cs:=[]),false_and,and_false,h0,hreal,getO,boolO,hr4]
    rw[hbn]
    refine ans_conf' (l:=[]) ?_ rfl rfl ?_ rfl rfl
    ·rfl
    ·first | rfl | simp
   | some r=>
    have hr4:decide ((r.length:Int)>=4)=decide (4<=r.length):=decide_eq_decide.2 (by omega)
    rw[h0] at hreal
    simp only[go_sem,thq S,nbr S,zN0,zN1,zN2,zN3,zN4,zI0,zI1,zI2,zI3,reduceCtorEq,o40_9 S,g0,g1,c_r9_Guesses S,hi,cA7 S,c_r9_Real S,c_r9_Push S,hb,hb',hs,hr,rep0',rep1',show(1:Nat)*48<=limA by decide,show(1:Nat)<=limA by decide,ne_eq,not_false_eq_true,Nat.one_ne_zero,Md.w64,Md.fetch,Md.entry,if_true,if_false,app_endE,app_zero (cs:=[]),false_and,and_false,h0,hreal,getO,boolO,hr4]
    rw[hbn]
    refine ans_conf' (l:=[]) ?_ rfl rfl ?_ rfl rfl
    ·rfl
    ·first | rfl | simp
  by_cases k11:(Md.at_ p c.state.pc).kind=11
  ·simp only [k11, decide_true, decide_false, cond_true, cond_false, if_true, if_false, zI0, or_self, or_true, true_or]
   rw[hbn]
   refine ans_conf' (l:=[]) ?_ rfl rfl ?_ rfl rfl
   ·rfl
   ·first | rfl | simp
  by_cases k12:(Md.at_ p c.state.pc).kind=12
  ·simp only [k12, decide_true, decide_false, cond_true, cond_false, if_true, if_false, zI0, or_self, or_true, true_or]
   rw[hbn]
   refine ans_conf' (l:=[]) ?_ rfl rfl ?_ rfl rfl
   ·rfl
   ·first | rfl | simp
  ·simp only [k5, k6, k7, k8, k9, k11, k12, decide_true, decide_false, cond_true, cond_false, if_true, if_false, zI0, or_self, or_true, true_or]
   rw[hbn]
   refine ans_conf' (l:=[]) ?_ rfl rfl ?_ rfl rfl
   ·rfl
   ·first | rfl | simp
 ·have l1 : c.buf.length * 48 <= limA := by unfold limA; omega
  have l2:c.buf.length<=limA:=by unfold limA;omega
  have l3:(((rowC c.buf).map AV.d).all AV.one)=true:=one_row _
  have l4:(c.buf.length+1)*48<=limA:=by unfold limA;omega
  have l5:c.buf.length+1<=limA:=by unfold limA;omega
  simp only[go_sem,thq S,nbr S,zN0,zN1,zN2,zN3,zN4,zI0,zI1,zI2,zI3,reduceCtorEq,o40_9 S,g0,g1,c_r9_Guesses S,hi,cA7 S,c_r9_Real S,c_r9_Push S,hb,hb',hs,hr,rep0',rep1',show(1:Nat)*48<=limA by decide,show(1:Nat)<=limA by decide,ne_eq,not_false_eq_true,Nat.one_ne_zero,Md.w64,Md.fetch,Md.entry,if_true,if_false,app_endE,app_zero (cs:=[]),false_and,and_false,h0,l1,l2,l3,l4,l5]
  by_cases k5:(Md.at_ p c.state.pc).kind=5
  ·by_cases hg : g = 1
   ·simp only [k5, hg, decide_true, decide_false, cond_true, cond_false, if_true, if_false, zI0, or_self, or_true, true_or]
    refine ans_conf' (l:=c.buf) ?_ rfl rfl ?_ rfl rfl
    ·rfl
    ·first | rfl | simp
   ·simp only [k5, hg, decide_true, decide_false, cond_true, cond_false, if_true, if_false, zI0, or_self, or_true, true_or]
    refine ans_conf' (l:=c.buf) ?_ rfl rfl ?_ rfl rfl
    ·rfl
    ·first | rfl | simp
  by_cases k6:(Md.at_ p c.state.pc).kind=6
  ·simp only [k6, decide_true, decide_false, cond_true, cond_false, if_true, if_false, zI0, or_self, or_true, true_or]
   refine ans_conf' (l:=c.buf) ?_ rfl rfl ?_ rfl rfl
   ·rfl
   ·first | rfl | simp
  by_cases k7:(Md.at_ p c.state.pc).kind=7
  ·simp only [k7, decide_true, decide_false, cond_true, cond_false, if_true, if_false, zI0, or_self, or_true, true_or]
   refine ans_conf' (l:=c.buf) ?_ rfl rfl ?_ rfl rfl
   ·rfl
   ·first | rfl | simp
  by_cases k9:(Md.at_ p c.state.pc).kind=9
  ·by_cases hz : c.rsb.length = 0
   ·simp only [k9, hz, decide_true, decide_false, cond_true, cond_false, if_true, if_false, zI0, or_self, or_true, true_or, show ¬ ((0 : Nat) : Int) > 0 by omega]
    refine ans_conf' (l:=c.buf) ?_ rfl rfl ?_ rfl rfl
    ·rfl
    ·first | rfl | simp
   ·have w2 : IntKind.i64.wrap ((c.rsb.length : Int) - 1) = ((c.rsb.length - 1 : Nat) : Int) := by rw [wrap_i64 (by omega) (by omega)]; omega
    have bd:=bndsV_hi c.rsb.length .i64 ((c.rsb.length-1:Nat):Int) (by omega) (by omega)
    have hlast:=last_get hz
    have hdl:c.rsb.take (c.rsb.length-1)=c.rsb.dropLast:=List.dropLast_eq_take.symm
    simp only[k9,hz,decide_true,decide_false,cond_true,cond_false,if_true,if_false,zI0,or_self,or_true,true_or,show(c.rsb.length:Int)>0 by omega]
    by_cases hq:c.rsb.dropLast.length=0
    ·have hq2 : c.rsb.dropLast = [] := List.length_eq_zero_iff.1 hq
     simp only[go_sem,thq S,nbr S,zN0,zN1,zN2,zN3,zN4,zI0,zI1,zI2,zI3,reduceCtorEq,o40_9 S,g0,g1,c_r9_Guesses S,hi,cA7 S,c_r9_Real S,c_r9_Push S,hb,hb',hs,hr,rep0',rep1',show(1:Nat)*48<=limA by decide,show(1:Nat)<=limA by decide,ne_eq,not_false_eq_true,Nat.one_ne_zero,Md.w64,Md.fetch,Md.entry,if_true,if_false,app_endE,app_zero (cs:=[]),false_and,and_false,h0,l1,l2,l3,l4,l5,w2,bd,w_ix hlast,Int.toNat_natCast,List.drop_zero,Nat.sub_zero,hdl,hq2]
     refine ans_conf2' (l:=c.buf) (R:=[]) ?_ ?_ rfl ?_ ?_ rfl rfl ?_
     ·rfl
     ·rfl
     ·decide
     ·first | rfl | simp
     ·first | rfl | simp
    ·have q1 : c.rsb.dropLast.length * 8 <= limA := by unfold limA; simp; omega
     have q2:c.rsb.dropLast.length<=limA:=by unfold limA;simp;omega
     have q3:(((rowC c.rsb.dropLast).map AV.d).all AV.one)=true:=one_row _
     simp only[go_sem,thq S,nbr S,zN0,zN1,zN2,zN3,zN4,zI0,zI1,zI2,zI3,reduceCtorEq,o40_9 S,g0,g1,c_r9_Guesses S,hi,cA7 S,c_r9_Real S,c_r9_Push S,hb,hb',hs,hr,rep0',rep1',show(1:Nat)*48<=limA by decide,show(1:Nat)<=limA by decide,ne_eq,not_false_eq_true,Nat.one_ne_zero,Md.w64,Md.fetch,Md.entry,if_true,if_false,app_endE,app_zero (cs:=[]),false_and,and_false,h0,l1,l2,l3,l4,l5,w2,bd,w_ix hlast,Int.toNat_natCast,List.drop_zero,Nat.sub_zero,hdl,hq,q1,q2,q3]
     refine ans_conf2' (l:=c.buf) (R:=c.rsb.dropLast) ?_ ?_ rfl ?_ ?_ rfl rfl ?_
     ·rfl
     ·rfl
     ·decide
     ·first | rfl | simp
     ·first | rfl | simp
  by_cases k8:(Md.at_ p c.state.pc).kind=8
  ·simp only [k8, decide_true, decide_false, cond_true, cond_false, if_true, if_false, zI0, or_self, or_true, true_or]
   cases hreal:Md.real p c.state.stack c.buf c.buf.length with
   | none=>
    have hr4:=hreal
    simp only[go_sem,thq S,nbr S,zN0,zN1,zN2,zN3,zN4,zI0,zI1,zI2,zI3,reduceCtorEq,o40_9 S,g0,g1,c_r9_Guesses S,hi,cA7 S,c_r9_Real S,c_r9_Push S,hb,hb',hs,hr,rep0',rep1',show(1:Nat)*48<=limA by decide,show(1:Nat)<=limA by decide,ne_eq,not_false_eq_true,Nat.one_ne_zero,Md.w64,Md.fetch,Md.entry,if_true,if_false,app_endE,app_zero (cs:=[]),false_and,and_false,h0,l1,l2,l3,l4,l5,hreal,getO,boolO,hr4]
    refine ans_conf' (l:=c.buf) ?_ rfl rfl ?_ rfl rfl
    ·rfl
    ·first | rfl | simp
   | some r=>
    have hr4:decide ((r.length:Int)>=4)=decide (4<=r.length):=decide_eq_decide.2 (by omega)
    simp only[go_sem,thq S,nbr S,zN0,zN1,zN2,zN3,zN4,zI0,zI1,zI2,zI3,reduceCtorEq,o40_9 S,g0,g1,c_r9_Guesses S,hi,cA7 S,c_r9_Real S,c_r9_Push S,hb,hb',hs,hr,rep0',rep1',show(1:Nat)*48<=limA by decide,show(1:Nat)<=limA by decide,ne_eq,not_false_eq_true,Nat.one_ne_zero,Md.w64,Md.fetch,Md.entry,if_true,if_false,app_endE,app_zero (cs:=[]),false_and,and_false,h0,l1,l2,l3,l4,l5,hreal,getO,boolO,hr4]
    refine ans_conf' (l:=c.buf) ?_ rfl rfl ?_ rfl rfl
    ·rfl
    ·first | rfl | simp
  by_cases k11:(Md.at_ p c.state.pc).kind=11
  ·simp only [k11, decide_true, decide_false, cond_true, cond_false, if_true, if_false, zI0, or_self, or_true, true_or]
   refine ans_conf' (l:=c.buf) ?_ rfl rfl ?_ rfl rfl
   ·rfl
   ·first | rfl | simp
  by_cases k12:(Md.at_ p c.state.pc).kind=12
  ·simp only [k12, decide_true, decide_false, cond_true, cond_false, if_true, if_false, zI0, or_self, or_true, true_or]
   refine ans_conf' (l:=c.buf) ?_ rfl rfl ?_ rfl rfl
   ·rfl
   ·first | rfl | simp
  ·simp only [k5, k6, k7, k8, k9, k11, k12, decide_true, decide_false, cond_true, cond_false, if_true, if_false, zI0, or_self, or_true, true_or]
   refine ans_conf' (l:=c.buf) ?_ rfl rfl ?_ rfl rfl
   ·rfl
   ·first | rfl | simp
end
section
variable (S:Sur E fn)
include S
theorem o88_29:E.lives 88 7=none:=off S 88 7 (by decide) rfl
theorem goes_go (dp:Nat)(l:List Ent)(e:Ent)(i to r0 r1 r2 r3 pc en:Int)(mm sk rb:List Int)(h0:0<=i)(h1:i.toNat<l.length)(hl:l.length<1073741824):
  evC E fn (dp+1) 88 [.agg [.d (vi r0),.d (vi r1),.d (vi r2),.d (vi r3),.d (rowD mm),.d (rowD sk),.d (vi pc),.sref 0 0 0 l.length 8 none,.d (rowD rb),.d (vi en)],.d (vi i),.d (vi to)] [.cells ((rowC (l.set i.toNat e)).map .d) 0 false]=
  bif decide (e.next=to) then some (.tup [.agg [.d (vi r0),.d (vi r1),.d (vi r2),.d (vi r3),.d (rowD mm),.d (rowD sk),.d (vi pc),.sref 0 0 0 l.length 8 none,.d (rowD rb),.d (vi en)],.d (.lst [vi 3,vi to] 1 (some 1))],[.cells ((rowC (l.set i.toNat e)).map .d) 0 false])
  else some (.tup [.agg [.d (vi r0),.d (vi r1),.d (vi r2),.d (vi r3),.d (rowD mm),.d (rowD sk),.d (vi to),.sref 0 0 0 (i.toNat+1) 8 none,.d (rowD rb),.d (vi en)],.d (.lst [vi 3,vi to] 1 (some 1))],[.cells ((rowC (l.set i.toNat { e with next:=to })).map .d) 0 false]):=by
 have hi:i<l.length:=by omega
 have w1:IntKind.i64.wrap (i+1)=i+1:=wrap_i64 (by omega) (by omega)
 have bd:=bndsV_hi l.length .i64 (i+1) (by omega) (by omega)
 have t1:(i+1).toNat=i.toNat+1:=by omega
 rw[evC_succ,S.f_r9_goes,apF_some,F_r9_goes,mkF_run _ _ _ _ _ _ _ _ rfl]
 by_cases h:e.next=to
 ·simp only[go_sem,thq S,nbr S,Nat.reduceLT,Nat.reduceEqDiff,Nat.reduceAdd,Nat.reduceMul,Nat.reduceLeDiff,Int.reduceEq,Int.reduceLT,Int.reduceLE,Int.reduceNeg,reduceCtorEq,o88_29 S,end_b,sp_lt,spN_some,rH_N,rB_cells,List.take_succ_cons,List.take_zero,sw_t,sw_s,dl_nil,dl_cons,rep1',Option.map_some,h0,hi,ld4 h1,h,Bool.not_true,Nat.zero_add]
 ·simp only[go_sem,thq S,nbr S,Nat.reduceLT,Nat.reduceEqDiff,Nat.reduceAdd,Nat.reduceMul,Nat.reduceLeDiff,Int.reduceEq,Int.reduceLT,Int.reduceLE,Int.reduceNeg,reduceCtorEq,o88_29 S,end_b,sp_lt,spN_some,rH_N,rB_cells,List.take_succ_cons,List.take_zero,sw_t,sw_s,dl_nil,dl_cons,rep1',Option.map_some,h0,hi,ld4 h1,h,Bool.not_false,Nat.zero_add,wr4 h1,w1,bd,t1,Nat.zero_mul,Nat.add_zero,Nat.sub_zero,Option.map_none,ne_eq,not_true_eq_false,and_false]
end
end Go.Aug.Mc
