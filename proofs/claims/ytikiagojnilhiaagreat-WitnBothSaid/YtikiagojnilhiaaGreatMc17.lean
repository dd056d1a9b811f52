import Derived.Test.YtikiagojnilhiaaGreatMc12
namespace Go.Aug.Mc
open Go Go.Aug
open Nat renaming reduceLT -> zN0, reduceEqDiff -> zN1, reduceAdd -> zN2, reduceMul -> zN3, reduceLeDiff -> zN4
open Int renaming reduceEq -> zI0, reduceLT -> zI1, reduceLE -> zI2, reduceNeg -> zI3
set_option linter.unusedSimpArgs false
set_option linter.unusedVariables false
set_option maxHeartbeats 40000000
def OwnO (Z:Option (AV×List Blk)):Option (List Int)->Prop
 | none=>Z=some (.tup [.d (.lst [] 0 (some 0)),abool false],[])
 | some out=>∃ junk k,Z=some (.tup [.sref 0 0 0 out.length 1 k,abool true],[.cells ((rowC (out++junk)).map .d) 0 false])
theorem own_none (Z:Option (AV×List Blk)):OwnO Z none=(Z=some (.tup [.d (.lst [] 0 (some 0)),abool false],[])):=id rfl
theorem own_some {Z:Option (AV×List Blk)}{out:List Int}(junk:List Int)(k:Option Nat)(h:Z=some (.tup [.sref 0 0 0 out.length 1 k,abool true],[.cells ((rowC (out++junk)).map .d) 0 false])):OwnO Z (some out):=⟨junk,k,h⟩
theorem end_own {i:Nat}{out junk:List Int}{k:Option Nat}{A:List Blk}{b:Bool}(hA:A[i]? =some (.cells ((rowC (out++junk)).map .d) 0 false)):
  endN 0 (some (.tup [.sref i 0 0 out.length 1 k,abool b],A))=some (.tup [.sref 0 0 0 out.length 1 k,abool b],[.cells ((rowC (out++junk)).map .d) 0 false]):=by
 have hi:¬A.length<=i:=by
  intro h;rw[List.getElem?_eq_none h] at hA;cases hA
 simp only[eG,go_sem,f_reach,hA,hi,List.not_mem_nil,false_or,or_false,Nat.not_lt_zero,if_false]
variable {E:Env} {fn:FuncId->Option (Env->CallT->CallT)}
section
variable (S:Sur E fn)
include S
theorem o83_31:E.lives 83 1=none/\E.lives 83 17=none/\E.lives 83 19=none/\E.lives 83 25=none/\E.lives 83 27=none:=⟨off S 83 1 (by decide) rfl,off S 83 17 (by decide) rfl,off S 83 19 (by decide) rfl,off S 83 25 (by decide) rfl,off S 83 27 (by decide) rfl⟩
theorem loop_rOwn (dp:Nat)(p:Prog)(l:List Ent)(i:Int)(hl:l.length<1073741824)(kx:Nat->K)
  (hx:∀ T out junk k,getS .bot T 10=.sref 1 0 0 (out:List Int).length 1 k->OwnO (kx 0 (mk .bot 59 T) [.cells ((progC p).map .d) 0 false,.cells ((rowC (out++junk)).map .d) 0 false]) (some out)):
  ∀(m k fuel:Nat) (out junk:List Int) (q:Option Nat),k+m=(Md.cut l i).length->m<=fuel->out.length<1073741824->(q=none∨q=some 0/\out=[]/\junk=[])->OwnO (B8_r9_Real (inn E 83) (evC E fn (dp+1)) (loopK 8 B8_r9_Real (inn E 83) (evC E fn (dp+1)) kx (kEnd 0 [.tmp 8,.tmp 9]) fuel) kx (kEnd 0 [.tmp 8,.tmp 9])
   (mk .bot 59 [(2,.d (rowD l)),(3,aint i),(4,.ref 0 0 0),(10,.sref 1 0 0 out.length 1 q),(11,aint k)]) [.cells ((progC p).map .d) 0 false,.cells ((rowC (out++junk)).map .d) 0 false])
   (Md.realGo p ((Md.cut l i).drop k) out):=by
 intro m
 have hcl:(Md.cut l i).length=min i.toNat l.length:=by simp[Md.cut]
 induction m with
 | zero=>
  intro k fuel out junk q hk _ ho hq
  generalize loopK 8 B8_r9_Real _ _ kx _ fuel=KK
  rw[B8_r9_Real,List.drop_of_length_le (by omega)]
  by_cases h1:(k:Int)<i
  ·simp only [eG, go_sem, thq S, nbr S, zN0, zN1, zN2, zN3, zN4, zI0, zI1, zI2, zI3, reduceCtorEq, o83_31 S, h1, show ¬ (k : Int) < l.length by omega, Md.realGo]
   exact hx _ _ _ q rfl
  ·simp only [eG, go_sem, thq S, nbr S, zN0, zN1, zN2, zN3, zN4, zI0, zI1, zI2, zI3, reduceCtorEq, o83_31 S, h1, Md.realGo]
   exact hx _ _ _ q rfl
 | succ m ih=>
  intro k fuel out junk q hk hf ho hq
  obtain⟨e,he⟩:=get_of (show k<l.length by omega)
  have hc:(Md.cut l i)[k]? =some e:=by unfold Md.cut;rw[List.getElem?_take,if_pos (by omega),he]
  obtain⟨fuel,rfl⟩:∃ m,fuel=m+1:=⟨fuel-1,by omega⟩
  generalize hK:loopK 8 B8_r9_Real _ _ kx _ (fuel+1)=KK
  rw[B8_r9_Real,drop_get hc,Md.realGo]
  have h1:(k:Int)<i:=by omega
  have h2:(k:Int)<l.length:=by omega
  by_cases k8:(Md.at_ p e.pc).kind=8
  ·by_cases h4 : 4 <= out.length
   ·simp only[eG,go_sem,thq S,nbr S,zN0,zN1,zN2,zN3,zN4,zI0,zI1,zI2,zI3,reduceCtorEq,o83_31 S,w_ix he,cA7 S,wi k (by omega),h1,h2,ge_iff_le,k8,h4,show(4:Int)<=out.length by omega,own_none]
   ·have l1 : (out.length + 1) * 8 <= limA := by unfold limA; omega
    have l2:out.length+1<=limA:=by unfold limA;omega
    rcases hq with rfl | ⟨rfl,rfl,rfl⟩
    ·cases junk with
     | nil=>
      simp only[List.append_nil]
      simp only[eG,go_sem,thq S,nbr S,zN0,zN1,zN2,zN3,zN4,zI0,zI1,zI2,zI3,reduceCtorEq,o83_31 S,w_ix he,cA7 S,wi k (by omega),h1,h2,ge_iff_le,k8,h4,show ¬(4:Int)<=out.length by omega,rep1',app_endI,l1,l2]
      rw[<-hK,loop_in (on S _ _ [2,3,4,10,11] (by decide) rfl) rfl _ _ _ _ _ _ _ _ _ rfl]
      simp only[eG,go_sem,thq S,nbr S,zN0,zN1,zN2,zN3,zN4,zI0,zI1,zI2,zI3,reduceCtorEq,o83_31 S,w_ix he,cA7 S,wi k (by omega),h1,h2,ge_iff_le]
      have e1:out.length+1=(out++[Md.w64 (e.pc+1)]).length:=by simp
      have:=ih (k+1) fuel (out++[Md.w64 (e.pc+1)]) [] none (by omega) (by omega) (by simp;omega) (.inl rfl)
      rw[<-e1,List.append_nil] at this
      exact this
     | cons y junk=>
      simp only[eG,go_sem,thq S,nbr S,zN0,zN1,zN2,zN3,zN4,zI0,zI1,zI2,zI3,reduceCtorEq,o83_31 S,w_ix he,cA7 S,wi k (by omega),h1,h2,ge_iff_le,k8,h4,show ¬(4:Int)<=out.length by omega,rep1',app_inI (y:=y) (junk:=junk),l1,l2]
      rw[<-hK,loop_in (on S _ _ [2,3,4,10,11] (by decide) rfl) rfl _ _ _ _ _ _ _ _ _ rfl]
      simp only[eG,go_sem,thq S,nbr S,zN0,zN1,zN2,zN3,zN4,zI0,zI1,zI2,zI3,reduceCtorEq,o83_31 S,w_ix he,cA7 S,wi k (by omega),h1,h2,ge_iff_le]
      have e1:out.length+1=(out++[Md.w64 (e.pc+1)]).length:=by simp
      have:=ih (k+1) fuel (out++[Md.w64 (e.pc+1)]) junk none (by omega) (by omega) (by simp;omega) (.inl rfl)
      rw[<-e1,List.append_assoc] at this
      exact this
    ·simp only [eG, go_sem, thq S, nbr S, zN0, zN1, zN2, zN3, zN4, zI0, zI1, zI2, zI3, reduceCtorEq, o83_31 S, w_ix he, cA7 S, wi k (by omega), h1, h2, ge_iff_le, k8, List.length_nil, show ¬ (4 : Int) <= (0 : Nat) by omega, rep1', app_zero (cs := []), Nat.succ_ne_zero, show (1 : Nat) * 8 <= limA by decide, show (1 : Nat) <= limA by decide, ne_eq, not_false_eq_true]
     rw[<-hK,loop_in (on S _ _ [2,3,4,10,11] (by decide) rfl) rfl _ _ _ _ _ _ _ _ _ rfl]
     simp only[eG,go_sem,thq S,nbr S,zN0,zN1,zN2,zN3,zN4,zI0,zI1,zI2,zI3,reduceCtorEq,o83_31 S,w_ix he,cA7 S,wi k (by omega),h1,h2,ge_iff_le]
     exact ih (k+1) fuel [Md.w64 (e.pc+1)] [] none (by omega) (by omega) (by simp) (.inl rfl)
  ·by_cases k9 : (Md.at_ p e.pc).kind = 9
   ·cases hr : out.reverse with
    | nil=>
     have:out=[]:=List.reverse_eq_nil_iff.1 hr
     subst this
     simp only[eG,go_sem,thq S,nbr S,zN0,zN1,zN2,zN3,zN4,zI0,zI1,zI2,zI3,reduceCtorEq,o83_31 S,w_ix he,cA7 S,wi k (by omega),h1,h2,ge_iff_le,k8,k9,List.length_nil,own_none,zI0,Int.natCast_eq_zero]
    | cons y r=>
     have e0:out=r.reverse++[y]:=by rw[<-List.reverse_reverse out,hr,List.reverse_cons]
     subst e0
     have e1:(r.reverse++[y]).dropLast=r.reverse:=List.dropLast_concat
     have e2:(r.reverse++[y]).length=r.reverse.length+1:=by simp
     rcases hq with rfl | ⟨_,h,_⟩
     ·have w1 : IntKind.i64.wrap (((r.reverse.length + 1 : Nat) : Int) - 1) = (r.reverse.length : Int) := by rw [e2] at ho; rw [wrap_i64 (by omega) (by omega)]; omega
      have bd:=bndsV_hi (r.reverse.length+1) .i64 (r.reverse.length:Int) (by omega) (by omega)
      rw[e2,e1]
      simp only[eG,go_sem,thq S,nbr S,zN0,zN1,zN2,zN3,zN4,zI0,zI1,zI2,zI3,reduceCtorEq,o83_31 S,w_ix he,cA7 S,wi k (by omega),h1,h2,ge_iff_le,k8,k9,w1,bd,Int.toNat_natCast,Nat.succ_ne_zero,Int.natCast_eq_zero,ne_eq,not_true_eq_false,and_false,Nat.zero_mul,Nat.sub_zero,Nat.add_zero,Nat.zero_add]
      rw[<-hK,loop_in (on S _ _ [2,3,4,10,11] (by decide) rfl) rfl _ _ _ _ _ _ _ _ _ rfl]
      simp only[eG,go_sem,thq S,nbr S,zN0,zN1,zN2,zN3,zN4,zI0,zI1,zI2,zI3,reduceCtorEq,o83_31 S,w_ix he,cA7 S,wi k (by omega),h1,h2,ge_iff_le]
      have:=ih (k+1) fuel r.reverse ([y]++junk) none (by omega) (by omega) (by omega) (.inl rfl)
      rw[<-List.append_assoc] at this
      exact this
     ·simp at h
   ·simp only [eG, go_sem, thq S, nbr S, zN0, zN1, zN2, zN3, zN4, zI0, zI1, zI2, zI3, reduceCtorEq, o83_31 S, w_ix he, cA7 S, wi k (by omega), h1, h2, ge_iff_le, k8, k9]
    rw[<-hK,loop_in (on S _ _ [2,3,4,10,11] (by decide) rfl) rfl _ _ _ _ _ _ _ _ _ rfl]
    simp only[eG,go_sem,thq S,nbr S,zN0,zN1,zN2,zN3,zN4,zI0,zI1,zI2,zI3,reduceCtorEq,o83_31 S,w_ix he,cA7 S,wi k (by omega),h1,h2,ge_iff_le]
    exact ih (k+1) fuel out junk q (by omega) (by omega) ho hq
theorem own_Real (dp:Nat)(p:Prog)(sk:List Int)(l:List Ent)(i:Int)(hl:l.length<1073741824)(hs:sk.length<1073741824):
  OwnO (evC E fn (dp+2) 83 [.d (progD p),.d (rowD sk),.d (rowD l),aint i] []) (Md.real p sk l i):=by
 rw[evC_succ,S.f_r9_Real,apF_some,F_r9_Real,mkF_run _ _ _ _ _ _ _ _ rfl]
 by_cases h0:sk.length=0
 ·have : sk = [] := List.length_eq_zero_iff.1 h0
  subst this
  simp only[eG,go_sem,thq S,nbr S,zN0,zN1,zN2,zN3,zN4,zI0,zI1,zI2,zI3,reduceCtorEq,o83_31 S,rep0']
  rw[big_eq,loop_in (on S _ _ [2,3,4,10,11] (by decide) rfl) rfl _ _ _ _ _ _ _ _ _ rfl]
  simp only[eG,go_sem,thq S,nbr S,zN0,zN1,zN2,zN3,zN4,zI0,zI1,zI2,zI3,reduceCtorEq,o83_31 S]
  refine loop_rOwn S dp p l i hl _ ?_ (Md.cut l i).length 0 _ [] [] (some 0) (by omega) (by have:=cut_len l i;omega) (by simp) (.inr ⟨rfl,rfl,rfl⟩)
  intro T out junk k h
  refine own_some junk k ?_
  simp only[go_sem,thq S,nbr S,zN0,zN1,zN2,zN3,zN4,zI0,zI1,zI2,zI3,reduceCtorEq,o83_31 S,h]
  exact end_own rfl
 ·have l1 : sk.length * 8 <= limA := by unfold limA; omega
  have l2:sk.length<=limA:=by unfold limA;omega
  have l3:(((rowC sk).map AV.d).all AV.one)=true:=one_row _
  simp only[eG,go_sem,thq S,nbr S,zN0,zN1,zN2,zN3,zN4,zI0,zI1,zI2,zI3,reduceCtorEq,o83_31 S,rep0',app_zero (cs:=[]),l1,l2,l3,ne_eq,h0,not_false_eq_true]
  rw[big_eq,loop_in (on S _ _ [2,3,4,10,11] (by decide) rfl) rfl _ _ _ _ _ _ _ _ _ rfl]
  simp only[eG,go_sem,thq S,nbr S,zN0,zN1,zN2,zN3,zN4,zI0,zI1,zI2,zI3,reduceCtorEq,o83_31 S]
  have:=loop_rOwn S dp p l i hl (blockK 0 (cQ (cOz [st 58 (oV (.t 10)),st 8 (oV (.t 58)),st 9 (oV (.c (.v (.bool true))))]) cRet (inn E 83) (evC E fn (dp+1)) (kEnd 0 [.tmp 8,.tmp 9]) (fun _ _ _=>none) (kEnd 0 [.tmp 8,.tmp 9])) (fun _ _ _=>none)) ?_ (Md.cut l i).length 0 999999999999999999999999999999 sk [] none (by omega) (by have:=cut_len l i;omega) hs (.inl rfl)
  ·rw [List.append_nil] at this
   exact this
  intro T out junk k h
  refine own_some junk k ?_
  simp only[go_sem,thq S,nbr S,zN0,zN1,zN2,zN3,zN4,zI0,zI1,zI2,zI3,reduceCtorEq,o83_31 S,h]
  exact end_own rfl
theorem o_Real_none (dp:Nat)(p:Prog)(sk:List Int)(l:List Ent)(i:Int)(hl:l.length<1073741824)(hs:sk.length<1073741824)(h:Md.real p sk l i=none)(A:List Blk)(nb:Nat)(us:List Nat):
  evOwnK true E (evC E fn (dp+2)) 83 A nb (some ([progD p,rowD sk,rowD l,vi i],us))=some (.made (.tup [.d (.lst [] 0 (some 0)),abool false]) []):=by
 have h1:=own_Real S dp p sk l i hl hs
 rw[h,own_none] at h1
 have hr:evRaw E (evC E fn (dp+2)) 83 [progD p,rowD sk,rowD l,vi i]=some (.tup [.d (.lst [] 0 (some 0)),abool false],[]):=by
  unfold evRaw
  rw[np S 83 (by decide)]
  exact h1
 simp only[evOwnK,hr,evAnsB,cond_true]
 show thawed A us (some (.tup [.d (.lst [] 0 (some 0)),abool false],[],[]))=_
 show(bif isEmptyL us || true then _ else _)=_
 rw[Bool.or_true];rfl
theorem o_Real_some (dp:Nat)(p:Prog)(sk:List Int)(l:List Ent)(i:Int)(hl:l.length<1073741824)(hs:sk.length<1073741824)(r:List Int)(h:Md.real p sk l i=some r):
  ∃ junk k,∀(A:List Blk) (nb:Nat) (us:List Nat),evOwnK true E (evC E fn (dp+2)) 83 A nb (some ([progD p,rowD sk,rowD l,vi i],us))=some (.made (.tup [.sref nb 0 0 r.length 1 k,abool true]) [.cells ((rowC (r++junk)).map .d) 0 false]):=by
 have h1:=own_Real S dp p sk l i hl hs
 rw[h] at h1
 obtain⟨junk,k,h1⟩:=h1
 refine⟨junk,k,fun A nb us=> ?_⟩
 have hr:evRaw E (evC E fn (dp+2)) 83 [progD p,rowD sk,rowD l,vi i]=some (.tup [.sref 0 0 0 r.length 1 k,abool true],[.cells ((rowC (r++junk)).map .d) 0 false]):=by
  unfold evRaw
  rw[np S 83 (by decide)]
  exact h1
 simp only[evOwnK,hr,evAnsB,cond_true]
 have ht:thaw [.cells ((rowC (r++junk)).map .d) 0 false] nb 6 (.tup [.sref 0 0 0 r.length 1 k,abool true]) [] []=some (.tup [.sref nb 0 0 r.length 1 k,abool true],[.cells ((rowC (r++junk)).map .d) 0 false],[0]):=by
  simp[thaw,mapT,memN]
 rw[ht]
 have hf:flatBs [.cells ((rowC (r++junk)).map .d) 0 false]=true:=by
  show(((rowC (r++junk)).map AV.d).all _&&true)=true
  rw[Bool.and_true,List.all_map]
  exact rowC_flat (r++junk)
 show(bif isEmptyL us || (true&&flatBs [.cells ((rowC (r++junk)).map .d) 0 false]) then _ else _)=_
 rw[hf,Bool.and_true,Bool.or_true]
 rfl
end
def idxGo (p:Prog):Nat->List Ent->Int
 | _,[]=> -1
 | k,e::l=>bif Md.isFence p e then(k:Int) else idxGo p (k+1) l
theorem idxGo_any (p:Prog):∀(l:List Ent) (k:Nat),decide (idxGo p k l>=0)=l.any (Md.isFence p)
 | [],_=>rfl
 | e::l,k=>by
  rw[idxGo,List.any_cons]
  cases h:Md.isFence p e with
  | true=>simp
  | false=>
   rw[cond_false,Bool.false_or]
   exact idxGo_any p l (k+1)
variable {E:Env} {fn:FuncId->Option (Env->CallT->CallT)}
section
variable (S:Sur E fn)
include S
theorem o121_13:E.lives 121 7=none/\E.lives 121 17=none/\E.lives 121 19=none:=⟨off S 121 7 (by decide) rfl,off S 121 17 (by decide) rfl,off S 121 19 (by decide) rfl⟩
theorem o100_13:E.lives 100 7=none:=off S 100 7 (by decide) rfl
theorem o131_13:E.lives 131 1=none/\E.lives 131 13=none:=⟨off S 131 1 (by decide) rfl,off S 131 13 (by decide) rfl⟩
theorem raw_reso_Reg (dp:Nat)(p:Prog)(of:Regs)(l:List Ent)(i r:Int)(hl:l.length<1073741824):Says E fn (dp+3) 121 [progD p,.agg (regsC of),rowD l,vi i,vi r] (.tup [vi (Md.reg p of l i r).1,vb (Md.reg p of l i r).2]):=by
 unfold Says
 show ansOf (evC E fn (dp+2+1) 121 [.d (progD p),.d (.agg (regsC of)),.d (rowD l),.d (vi i),.d (vi r)] [])=_
 rw[evC_succ,S.f_reso_Reg,apF_some,F_reso_Reg,mkF_run _ _ _ _ _ _ _ _ rfl]
 have hcl:=cut_len l i
 by_cases h:r<0
 ·simp only[eG,go_sem,thq S,nbr S,zN0,zN1,zN2,zN3,zN4,zI0,zI1,zI2,zI3,reduceCtorEq,o121_13 S,h,Md.reg]
 by_cases h2:r>=4
 ·simp only[eG,go_sem,thq S,nbr S,zN0,zN1,zN2,zN3,zN4,zI0,zI1,zI2,zI3,reduceCtorEq,o121_13 S,h,h2,Md.reg,show 4<=r by omega]
 ·have e1 : (Md.cut l i).take (Md.cut l i).length = Md.cut l i := List.take_of_length_le (by omega)
  have e:Md.reg p of l i r=Md.regGo p r (Md.getR of r) ((Md.cut l i).take (Md.cut l i).length).reverse:=by
   unfold Md.reg;rw[if_neg (by omega),e1]
  rw[e]
  obtain⟨es,hes⟩:=back_some (s:=8) rfl (Md.cut l i) (Md.cut l i).length (Nat.le_refl _)
  have hr:=elems_row (E:=inn E 121) (ag:=true) S.bk rfl (Md.cut l i) (by unfold limA;omega) (by decide) (by simp) []
  rw[hes] at hr
  simp only[eG,go_sem,thq S,nbr S,zN0,zN1,zN2,zN3,zN4,zI0,zI1,zI2,zI3,reduceCtorEq,o121_13 S,h,h2,c_robq_Cut S,hl,c_Backward S,hr]
  refine rounds_pReg S (dp+1) p of (Md.cut l i) r (by omega) _ _ (Md.getR of r) aundef _ rfl rfl rfl rfl ?_ _ (Nat.le_refl _) es hes []
  intro A
  obtain rfl | rfl | rfl | rfl:r=0∨r=1∨r=2∨r=3:=by omega
  ·simp only[eG,go_sem,thq S,nbr S,zN0,zN1,zN2,zN3,zN4,zI0,zI1,zI2,zI3,reduceCtorEq,o121_13 S,Int.toNat_zero,Int.reduceToNat,Nat.zero_mul,Md.getR];rfl
  ·simp only[eG,go_sem,thq S,nbr S,zN0,zN1,zN2,zN3,zN4,zI0,zI1,zI2,zI3,reduceCtorEq,o121_13 S,Int.reduceToNat,Nat.one_mul,Md.getR];rfl
  ·simp only[eG,go_sem,thq S,nbr S,zN0,zN1,zN2,zN3,zN4,zI0,zI1,zI2,zI3,reduceCtorEq,o121_13 S,Int.reduceToNat,Md.getR];rfl
  ·simp only[eG,go_sem,thq S,nbr S,zN0,zN1,zN2,zN3,zN4,zI0,zI1,zI2,zI3,reduceCtorEq,o121_13 S,Int.reduceToNat,Md.getR];rfl
theorem c_reso_Reg (dp:Nat)(p_w p_wn p_fu p_r0 p_r1 p_r2 p_r3:Int)(p_ms:List MemT)(p_ls:List Label)(p_is:List Ins)(of_r0 of_r1 of_r2 of_r3:Int)(l:List Ent)(i r:Int)(hl:l.length<1073741824)(A:List Blk)(nb:Nat)(us:List Nat):evOwnK false E (evC E fn (dp+3)) 121 A nb (some ([.agg [vi p_w,vi p_wn,vi p_fu,vi p_r0,vi p_r1,vi p_r2,vi p_r3,rowD p_ms,rowD p_ls,rowD p_is],.agg [vi of_r0,vi of_r1,vi of_r2,vi of_r3],rowD l,vi i,vi r],us))=some (.made (.d (.tup [vi (Md.reg (⟨p_w,p_wn,p_fu,⟨p_r0,p_r1,p_r2,p_r3⟩,p_ms,p_ls,p_is⟩:Prog) (⟨of_r0,of_r1,of_r2,of_r3⟩:Regs) l i r).1,vb (Md.reg (⟨p_w,p_wn,p_fu,⟨p_r0,p_r1,p_r2,p_r3⟩,p_ms,p_ls,p_is⟩:Prog) (⟨of_r0,of_r1,of_r2,of_r3⟩:Regs) l i r).2])) []):=
 Says.flat (raw_reso_Reg S dp (⟨p_w,p_wn,p_fu,⟨p_r0,p_r1,p_r2,p_r3⟩,p_ms,p_ls,p_is⟩:Prog) (⟨of_r0,of_r1,of_r2,of_r3⟩:Regs) l i r hl) (np S 121 (by decide)) (rfl) A nb us
theorem raw_reso_Val (dp:Nat)(p:Prog)(of:Regs)(l:List Ent)(i:Int)(v:Val)(hl:l.length<1073741824):Says E fn (dp+4) 100 [progD p,.agg (regsC of),rowD l,vi i,.agg (Cl.cells v)] (.tup [vi (Md.val p of l i v).1,vb (Md.val p of l i v).2]):=by
 unfold Says
 show ansOf (evC E fn (dp+3+1) 100 [.d (progD p),.d (.agg (regsC of)),.d (rowD l),.d (vi i),.d (.agg (Cl.cells v))] [])=_
 rw[evC_succ,S.f_reso_Val,apF_some,F_reso_Val,mkF_run _ _ _ _ _ _ _ _ rfl]
 cases h:v.reg<;>simp only[eG,go_sem,thq S,nbr S,zN0,zN1,zN2,zN3,zN4,zI0,zI1,zI2,zI3,reduceCtorEq,o100_13 S,h,Md.val,c_reso_Reg S,hl,c_word_Mask S]
theorem c_reso_Val (dp:Nat)(p_w p_wn p_fu p_r0 p_r1 p_r2 p_r3:Int)(p_ms:List MemT)(p_ls:List Label)(p_is:List Ins)(of_r0 of_r1 of_r2 of_r3:Int)(l:List Ent)(i:Int)(v_g:Bool)(v_n:Int)(hl:l.length<1073741824)(A:List Blk)(nb:Nat)(us:List Nat):evOwnK false E (evC E fn (dp+4)) 100 A nb (some ([.agg [vi p_w,vi p_wn,vi p_fu,vi p_r0,vi p_r1,vi p_r2,vi p_r3,rowD p_ms,rowD p_ls,rowD p_is],.agg [vi of_r0,vi of_r1,vi of_r2,vi of_r3],rowD l,vi i,.agg [vb v_g,vi v_n]],us))=some (.made (.d (.tup [vi (Md.val (⟨p_w,p_wn,p_fu,⟨p_r0,p_r1,p_r2,p_r3⟩,p_ms,p_ls,p_is⟩:Prog) (⟨of_r0,of_r1,of_r2,of_r3⟩:Regs) l i (⟨v_g,v_n⟩:Val)).1,vb (Md.val (⟨p_w,p_wn,p_fu,⟨p_r0,p_r1,p_r2,p_r3⟩,p_ms,p_ls,p_is⟩:Prog) (⟨of_r0,of_r1,of_r2,of_r3⟩:Regs) l i (⟨v_g,v_n⟩:Val)).2])) []):=
 Says.flat (raw_reso_Val S dp (⟨p_w,p_wn,p_fu,⟨p_r0,p_r1,p_r2,p_r3⟩,p_ms,p_ls,p_is⟩:Prog) (⟨of_r0,of_r1,of_r2,of_r3⟩:Regs) l i (⟨v_g,v_n⟩:Val) hl) (np S 100 (by decide)) (rfl) A nb us
theorem raw_reso_Blocked_1 (dp:Nat)(e:Ent)(p:Prog):Says E fn (dp+2) 120 [.agg (Cl.cells e),.vptr (progC p)] (vb (Md.isFence p e)):=by
 unfold Says
 show ansOf (evC E fn (dp+1+1) 120 [.d (.agg (Cl.cells e)),.d (.vptr (progC p))] [])=_
 rw[evC_succ,S.f_reso_Blocked_1,apF_some,F_reso_Blocked_1,mkF_run _ _ _ _ _ _ _ _ rfl]
 simp only[eG,go_sem,thq S,nbr S,zN0,zN1,zN2,zN3,zN4,zI0,zI1,zI2,zI3,reduceCtorEq,c_seqm_At S,Md.isFence]
theorem c_reso_Blocked_1 (dp:Nat)(e_pc e_vl e_ad e_fr e_nx:Int)(e_dn e_kn e_ft:Bool)(p_w p_wn p_fu p_r0 p_r1 p_r2 p_r3:Int)(p_ms:List MemT)(p_ls:List Label)(p_is:List Ins)(A:List Blk)(nb:Nat)(us:List Nat):evOwnK false E (evC E fn (dp+2)) 120 A nb (some ([.agg [vi e_pc,vi e_vl,vi e_ad,vi e_fr,vi e_nx,vb e_dn,vb e_kn,vb e_ft],.vptr [vi p_w,vi p_wn,vi p_fu,vi p_r0,vi p_r1,vi p_r2,vi p_r3,rowD p_ms,rowD p_ls,rowD p_is]],us))=some (.made (.d (vb (Md.isFence (⟨p_w,p_wn,p_fu,⟨p_r0,p_r1,p_r2,p_r3⟩,p_ms,p_ls,p_is⟩:Prog) (⟨e_pc,e_vl,e_ad,e_fr,e_nx,e_dn,e_kn,e_ft⟩:Ent)))) []):=
 Says.flat (raw_reso_Blocked_1 S dp (⟨e_pc,e_vl,e_ad,e_fr,e_nx,e_dn,e_kn,e_ft⟩:Ent) (⟨p_w,p_wn,p_fu,⟨p_r0,p_r1,p_r2,p_r3⟩,p_ms,p_ls,p_is⟩:Prog) ) (np S 120 (by decide)) (rfl) A nb us
theorem loop_idx (dp:Nat)(p:Prog)(l:List Ent)(hl:l.length<1073741824)(kx:Nat->K)
  (hx:∀ T,ansOf (kx 0 (mk .bot 19 T) [])=some (vi (-1))):
  ∀(m k fuel:Nat),k+m=l.length->m<=fuel->ansOf (B6_slices_IndexFunc_api_Ent_api_Ent (inn E 131) (evC E fn (dp+2)) (loopK 6 B6_slices_IndexFunc_api_Ent_api_Ent (inn E 131) (evC E fn (dp+2)) kx (kEnd 0 [.tmp 4]) fuel) kx (kEnd 0 [.tmp 4])
   (mk .bot 19 [(0,.d (rowD l)),(1,.d (.fn (.func 120) [.vptr (progC p)])),(7,aint l.length),(8,aint k)]) [])=some (vi (idxGo p k (l.drop k))):=by
 intro m
 induction m with
 | zero=>
  intro k fuel hk _
  generalize loopK 6 B6_slices_IndexFunc_api_Ent_api_Ent _ _ kx _ fuel=KK
  rw[B6_slices_IndexFunc_api_Ent_api_Ent,List.drop_of_length_le (by omega)]
  simp only[eG,go_sem,thq S,nbr S,zN0,zN1,zN2,zN3,zN4,zI0,zI1,zI2,zI3,reduceCtorEq,o131_13 S,show ¬(k:Int)<l.length by omega,idxGo]
  exact hx _
 | succ m ih=>
  intro k fuel hk hf
  obtain⟨e,he⟩:=get_of (show k<l.length by omega)
  obtain⟨fuel,rfl⟩:∃ m,fuel=m+1:=⟨fuel-1,by omega⟩
  generalize hK:loopK 6 B6_slices_IndexFunc_api_Ent_api_Ent _ _ kx _ (fuel+1)=KK
  rw[B6_slices_IndexFunc_api_Ent_api_Ent,drop_get he]
  cases h0:Md.isFence p e with
  | false=>
   simp only[eG,go_sem,thq S,nbr S,zN0,zN1,zN2,zN3,zN4,zI0,zI1,zI2,zI3,reduceCtorEq,o131_13 S,show(k:Int)<l.length by omega,w_ix he,c_reso_Blocked_1 S,h0,idxGo,wi k (by omega)]
   rw[<-hK,loop_in (on S _ _ [0,1,7,8] (by decide) rfl) rfl _ _ _ _ _ _ _ _ _ rfl]
   simp only[eG,go_sem,thq S,nbr S,zN0,zN1,zN2,zN3,zN4,zI0,zI1,zI2,zI3,reduceCtorEq,o131_13 S]
   exact ih (k+1) fuel (by omega) (by omega)
  | true=>simp only[eG,go_sem,thq S,nbr S,zN0,zN1,zN2,zN3,zN4,zI0,zI1,zI2,zI3,reduceCtorEq,o131_13 S,show(k:Int)<l.length by omega,w_ix he,c_reso_Blocked_1 S,h0,idxGo,wi k (by omega)]
theorem raw_slices_IndexFunc_api_Ent_api_Ent (dp:Nat)(l:List Ent)(p:Prog)(hl:l.length<1073741824):Says E fn (dp+3) 131 [rowD l,.fn (.func 120) [.vptr (progC p)]] (vi (idxGo p 0 l)):=by
 unfold Says
 show ansOf (evC E fn (dp+2+1) 131 [.d (rowD l),.d (.fn (.func 120) [.vptr (progC p)])] [])=_
 rw[evC_succ,S.f_slices_IndexFunc_api_Ent_api_Ent,apF_some,F_slices_IndexFunc_api_Ent_api_Ent,mkF_run _ _ _ _ _ _ _ _ rfl]
 simp only[eG,go_sem,thq S,nbr S,zN0,zN1,zN2,zN3,zN4,zI0,zI1,zI2,zI3,reduceCtorEq,o131_13 S]
 rw[big_eq,loop_in (on S _ _ [0,1,7,8] (by decide) rfl) rfl _ _ _ _ _ _ _ _ _ rfl]
 simp only[eG,go_sem,thq S,nbr S,zN0,zN1,zN2,zN3,zN4,zI0,zI1,zI2,zI3,reduceCtorEq,o131_13 S]
 have:=loop_idx S dp p l hl (blockK 0 (cQ (cOz [st 4 (oV (ci (-1)))]) cRet (inn E 131) (evC E fn (dp+2)) (kEnd 0 [.tmp 4]) (fun _ _ _=>none) (kEnd 0 [.tmp 4])) (fun _ _ _=>none)) ?_ l.length 0 999999999999999999999999999999 (by omega) (by omega)
 ·rw [List.drop_zero] at this
  exact this
 intro T
 simp only[eG,go_sem,thq S,nbr S,zN0,zN1,zN2,zN3,zN4,zI0,zI1,zI2,zI3,reduceCtorEq,o131_13 S]
theorem c_slices_IndexFunc_api_Ent_api_Ent (dp:Nat)(l:List Ent)(p_w p_wn p_fu p_r0 p_r1 p_r2 p_r3:Int)(p_ms:List MemT)(p_ls:List Label)(p_is:List Ins)(hl:l.length<1073741824)(A:List Blk)(nb:Nat)(us:List Nat):evOwnK false E (evC E fn (dp+3)) 131 A nb (some ([rowD l,.fn (.func 120) [.vptr [vi p_w,vi p_wn,vi p_fu,vi p_r0,vi p_r1,vi p_r2,vi p_r3,rowD p_ms,rowD p_ls,rowD p_is]]],us))=some (.made (.d (vi (idxGo (⟨p_w,p_wn,p_fu,⟨p_r0,p_r1,p_r2,p_r3⟩,p_ms,p_ls,p_is⟩:Prog) 0 l))) []):=
 Says.flat (raw_slices_IndexFunc_api_Ent_api_Ent S dp l (⟨p_w,p_wn,p_fu,⟨p_r0,p_r1,p_r2,p_r3⟩,p_ms,p_ls,p_is⟩:Prog) hl) (np S 131 (by decide)) (rfl) A nb us
theorem raw_slices_ContainsFunc_api_Ent_api_Ent (dp:Nat)(l:List Ent)(p:Prog)(hl:l.length<1073741824):Says E fn (dp+4) 119 [rowD l,.fn (.func 120) [.vptr (progC p)]] (vb (l.any (Md.isFence p))):=by
 unfold Says
 show ansOf (evC E fn (dp+3+1) 119 [.d (rowD l),.d (.fn (.func 120) [.vptr (progC p)])] [])=_
 rw[evC_succ,S.f_slices_ContainsFunc_api_Ent_api_Ent,apF_some,F_slices_ContainsFunc_api_Ent_api_Ent,mkF_run _ _ _ _ _ _ _ _ rfl]
 rw[<-idxGo_any p l 0]
 simp only[eG,go_sem,thq S,nbr S,zN0,zN1,zN2,zN3,zN4,zI0,zI1,zI2,zI3,reduceCtorEq,c_slices_IndexFunc_api_Ent_api_Ent S,hl]
theorem c_slices_ContainsFunc_api_Ent_api_Ent (dp:Nat)(l:List Ent)(p_w p_wn p_fu p_r0 p_r1 p_r2 p_r3:Int)(p_ms:List MemT)(p_ls:List Label)(p_is:List Ins)(hl:l.length<1073741824)(A:List Blk)(nb:Nat)(us:List Nat):evOwnK false E (evC E fn (dp+4)) 119 A nb (some ([rowD l,.fn (.func 120) [.vptr [vi p_w,vi p_wn,vi p_fu,vi p_r0,vi p_r1,vi p_r2,vi p_r3,rowD p_ms,rowD p_ls,rowD p_is]]],us))=some (.made (.d (vb (l.any (Md.isFence (⟨p_w,p_wn,p_fu,⟨p_r0,p_r1,p_r2,p_r3⟩,p_ms,p_ls,p_is⟩:Prog))))) []):=
 Says.flat (raw_slices_ContainsFunc_api_Ent_api_Ent S dp l (⟨p_w,p_wn,p_fu,⟨p_r0,p_r1,p_r2,p_r3⟩,p_ms,p_ls,p_is⟩:Prog) hl) (np S 119 (by decide)) (rfl) A nb us
theorem raw_reso_Blocked (dp:Nat)(p:Prog)(l:List Ent)(i:Int)(hl:l.length<1073741824):Says E fn (dp+5) 99 [progD p,rowD l,vi i] (vb (Md.blocked p l i)):=by
 unfold Says
 show ansOf (evC E fn (dp+4+1) 99 [.d (progD p),.d (rowD l),.d (vi i)] [])=_
 rw[evC_succ,S.f_reso_Blocked,apF_some,F_reso_Blocked,mkF_run _ _ _ _ _ _ _ _ rfl]
 have hcl:=cut_len l i
 simp only[eG,go_sem,thq S,nbr S,zN0,zN1,zN2,zN3,zN4,zI0,zI1,zI2,zI3,reduceCtorEq,c_robq_Cut S,hl,deep_ref,c_slices_ContainsFunc_api_Ent_api_Ent S,show(Md.cut l i).length<1073741824 by omega,Md.blocked]
theorem c_reso_Blocked (dp:Nat)(p_w p_wn p_fu p_r0 p_r1 p_r2 p_r3:Int)(p_ms:List MemT)(p_ls:List Label)(p_is:List Ins)(l:List Ent)(i:Int)(hl:l.length<1073741824)(A:List Blk)(nb:Nat)(us:List Nat):evOwnK false E (evC E fn (dp+5)) 99 A nb (some ([.agg [vi p_w,vi p_wn,vi p_fu,vi p_r0,vi p_r1,vi p_r2,vi p_r3,rowD p_ms,rowD p_ls,rowD p_is],rowD l,vi i],us))=some (.made (.d (vb (Md.blocked (⟨p_w,p_wn,p_fu,⟨p_r0,p_r1,p_r2,p_r3⟩,p_ms,p_ls,p_is⟩:Prog) l i))) []):=
 Says.flat (raw_reso_Blocked S dp (⟨p_w,p_wn,p_fu,⟨p_r0,p_r1,p_r2,p_r3⟩,p_ms,p_ls,p_is⟩:Prog) l i hl) (np S 99 (by decide)) (rfl) A nb us
end
variable {E:Env} {fn:FuncId->Option (Env->CallT->CallT)}
section
variable (S:Sur E fn)
include S
theorem o105_14:E.lives 105 7=none:=off S 105 7 (by decide) rfl
theorem raw_robq_Put (dp:Nat)(l:List Ent)(i:Int)(e:Ent)(hl:l.length<1073741824)(h0:0<=i)(h1:i<l.length):Says E fn (dp+1) 105 [rowD l,vi i,.agg (Cl.cells e)] (.tup [rowD (l.set i.toNat e),vb true]):=by
 unfold Says
 show ansOf (evC E fn (dp+1) 105 [.d (rowD l),.d (vi i),.d (.agg (Cl.cells e))] [])=_
 rw[evC_succ,S.f_robq_Put,apF_some,F_robq_Put,mkF_run _ _ _ _ _ _ _ _ rfl]
 obtain⟨e0,he⟩:=get_of (show i.toNat<l.length by omega)
 have hne:l.length≠0:=by omega
 have hst:∀ A:List Blk,storeAt A 1 0 (0+i.toNat*8) [.d (vi e.pc),.d (vi e.val),.d (vi e.addr),.d (vi e.frm),.d (vi e.next),.d (vb e.done),.d (vb e.known),.d (vb e.fault)] 8 (some (.cells ((rowC l).map .d) 0 false))=some (A.set 1 (.cells ((rowC (l.set i.toNat e)).map .d) 0 false)):=fun A=>
  st_row (o:=0) (e':=e) (Cl.cells e) he rfl rfl rfl rfl (by show 0+8<=8;decide) 8 rfl _ (by omega)
 have hd:deep [.cells ((rowC (l.set i.toNat e)).map .d) 0 false] 7 (.sref 0 0 0 l.length 8 none)=some (.lst (rowC (l.set i.toNat e)) (l.set i.toNat e).length none,[0]):=deep_alone _ (fun h=>by have:=congrArg List.length h;rw[List.length_set] at this;exact hne this) _ (by simp) 5 8 none rfl
 simp only[eG,go_sem,thq S,nbr S,Nat.reduceLT,Nat.reduceEqDiff,Nat.reduceAdd,Nat.reduceMul,Nat.reduceLeDiff,Int.reduceEq,Int.reduceLT,Int.reduceLE,Int.reduceNeg,reduceCtorEq,o105_14 S,show ¬i<0 by omega,show ¬i>=l.length by omega,o_cloneE S hl,ownA_ne hne,ownB_ne hne,h0,h1,hst,hd,w_fold]
theorem c_robq_Put (dp:Nat)(l:List Ent)(i e_pc e_vl e_ad e_fr e_nx:Int)(e_dn e_kn e_ft:Bool)(hl:l.length<1073741824)(h0:0<=i)(h1:i<l.length)(A:List Blk)(nb:Nat):evOwnK false E (evC E fn (dp+1)) 105 A nb (some ([rowD l,vi i,.agg [vi e_pc,vi e_vl,vi e_ad,vi e_fr,vi e_nx,vb e_dn,vb e_kn,vb e_ft]],[]))=some (.made (.d (.tup [rowD (l.set i.toNat (⟨e_pc,e_vl,e_ad,e_fr,e_nx,e_dn,e_kn,e_ft⟩:Ent)),vb true])) []):=
 Says.deep (raw_robq_Put S dp l i (⟨e_pc,e_vl,e_ad,e_fr,e_nx,e_dn,e_kn,e_ft⟩:Ent) hl h0 h1) (np S 105 (by decide)) A nb
end
structure Spot where
 p:Prog
 c:Conf
 i:Int
 e:Ent
 s:Ins
def spotD (x:Spot):DV:=.agg (progC x.p++(confC x.c++(vi x.i::(Cl.cells x.e++Cl.cells x.s))))
theorem et_spot (x:Spot):Spot.mk x.p x.c x.i x.e x.s=x:=rfl
attribute [go_sem] spotD et_spot
def spot0:Spot:=⟨⟨0,0,0,⟨0,0,0,0⟩,[],[],[]⟩,Md.conf0,0,Md.ent0,⟨0,0,0,⟨false,0⟩,⟨false,0⟩,⟨#[]⟩,0⟩⟩
def spotOf (p:Prog)(c:Conf)(i:Int):Spot:=⟨p,c,i,Md.entAt c.buf i,Md.insM p c i⟩
variable {E:Env} {fn:FuncId->Option (Env->CallT->CallT)}
section
variable (S:Sur E fn)
include S
theorem o60_15:E.lives 60 7=none:=off S 60 7 (by decide) rfl
theorem raw_exec_at (dp:Nat)(p:Prog)(c:Conf)(i:Int)(hl:c.buf.length<1073741824):Says E fn (dp+6) 60 [progD p,confD c,vi i] (.tup [spotD (bif Md.openM p c i then spotOf p c i else spot0),vb (Md.openM p c i)]):=by
 unfold Says
 show ansOf (evC E fn (dp+5+1) 60 [.d (progD p),.d (confD c),.d (vi i)] [])=_
 rw[evC_succ,S.f_exec_at,apF_some,F_exec_at,mkF_run _ _ _ _ _ _ _ _ rfl]
 cases ho:Md.openM p c i with
 | true=>
  obtain⟨h0,he,h3⟩:=open_get ho
  have ho':=ho
  simp only[Md.openM,Bool.and_eq_true,Bool.not_eq_true',beq_iff_eq,decide_eq_true_eq] at ho'
  simp only[eG,go_sem,thq S,nbr S,zN0,zN1,zN2,zN3,zN4,zI0,zI1,zI2,zI3,reduceCtorEq,o60_15 S,c_conf_Final S,ho'.1.1.1,show ¬i<0 by omega,show ¬i>=c.buf.length by omega,c_reso_Blocked S,hl,ho'.2,w_ixI h0 he,c_seqm_At S,spotOf,Md.insM,Bool.not_true]
 | false=>
  by_cases h1:c.end_=0
  ·by_cases h2 : i < 0
   ·simp only[eG,go_sem,thq S,nbr S,zN0,zN1,zN2,zN3,zN4,zI0,zI1,zI2,zI3,reduceCtorEq,o60_15 S,c_conf_Final S,h1,h2,Bool.not_true,spot0,Md.conf0,Md.ent0]
   ·by_cases h3 : i >= c.buf.length
    ·simp only[eG,go_sem,thq S,nbr S,zN0,zN1,zN2,zN3,zN4,zI0,zI1,zI2,zI3,reduceCtorEq,o60_15 S,c_conf_Final S,h1,h2,h3,Bool.not_true,spot0,Md.conf0,Md.ent0]
    ·have hb:Md.blocked p c.buf i=true:=by
      cases hb:Md.blocked p c.buf i with
      | true=>rfl
      | false=>
       have:Md.openM p c i=true:=by simp[Md.openM,hb,h1];omega
       rw[this] at ho;cases ho
     simp only[eG,go_sem,thq S,nbr S,zN0,zN1,zN2,zN3,zN4,zI0,zI1,zI2,zI3,reduceCtorEq,o60_15 S,c_conf_Final S,h1,h2,h3,c_reso_Blocked S,hl,hb,Bool.not_true,spot0,Md.conf0,Md.ent0]
  ·simp only[eG,go_sem,thq S,nbr S,zN0,zN1,zN2,zN3,zN4,zI0,zI1,zI2,zI3,reduceCtorEq,o60_15 S,c_conf_Final S,eq_false h1,Bool.not_false,spot0,Md.conf0,Md.ent0]
theorem c_exec_at (dp:Nat)(p_w p_wn p_fu p_r0 p_r1 p_r2 p_r3:Int)(p_ms:List MemT)(p_ls:List Label)(p_is:List Ins)(c_r0 c_r1 c_r2 c_r3:Int)(c_mm c_st:List Int)(c_pc:Int)(c_bf:List Ent)(c_rb:List Int)(c_en i:Int)(hl:(⟨⟨⟨c_r0,c_r1,c_r2,c_r3⟩,c_mm,c_st,c_pc⟩,c_bf,c_rb,c_en⟩:Conf).buf.length<1073741824)(A:List Blk)(nb:Nat):evOwnK false E (evC E fn (dp+6)) 60 A nb (some ([.agg [vi p_w,vi p_wn,vi p_fu,vi p_r0,vi p_r1,vi p_r2,vi p_r3,rowD p_ms,rowD p_ls,rowD p_is],.agg [vi c_r0,vi c_r1,vi c_r2,vi c_r3,rowD c_mm,rowD c_st,vi c_pc,rowD c_bf,rowD c_rb,vi c_en],vi i],[]))=some (.made (.d (.tup [spotD (bif Md.openM (⟨p_w,p_wn,p_fu,⟨p_r0,p_r1,p_r2,p_r3⟩,p_ms,p_ls,p_is⟩:Prog) (⟨⟨⟨c_r0,c_r1,c_r2,c_r3⟩,c_mm,c_st,c_pc⟩,c_bf,c_rb,c_en⟩:Conf) i then spotOf (⟨p_w,p_wn,p_fu,⟨p_r0,p_r1,p_r2,p_r3⟩,p_ms,p_ls,p_is⟩:Prog) (⟨⟨⟨c_r0,c_r1,c_r2,c_r3⟩,c_mm,c_st,c_pc⟩,c_bf,c_rb,c_en⟩:Conf) i else spot0),vb (Md.openM (⟨p_w,p_wn,p_fu,⟨p_r0,p_r1,p_r2,p_r3⟩,p_ms,p_ls,p_is⟩:Prog) (⟨⟨⟨c_r0,c_r1,c_r2,c_r3⟩,c_mm,c_st,c_pc⟩,c_bf,c_rb,c_en⟩:Conf) i)])) []):=
 Says.deep (raw_exec_at S dp (⟨p_w,p_wn,p_fu,⟨p_r0,p_r1,p_r2,p_r3⟩,p_ms,p_ls,p_is⟩:Prog) (⟨⟨⟨c_r0,c_r1,c_r2,c_r3⟩,c_mm,c_st,c_pc⟩,c_bf,c_rb,c_en⟩:Conf) i hl) (np S 60 (by decide)) A nb
theorem raw_exec_spot_val (dp:Nat)(x:Spot)(v:Val)(hl:x.c.buf.length<1073741824):Says E fn (dp+5) 63 [spotD x,.agg (Cl.cells v)] (.tup [vi (Md.valM x.p x.c x.i v).1,vb (Md.valM x.p x.c x.i v).2]):=by
 unfold Says
 show ansOf (evC E fn (dp+4+1) 63 [.d (spotD x),.d (.agg (Cl.cells v))] [])=_
 rw[evC_succ,S.f_exec_spot_val,apF_some,F_exec_spot_val,mkF_run _ _ _ _ _ _ _ _ rfl]
 simp only[eG,go_sem,thq S,nbr S,zN0,zN1,zN2,zN3,zN4,zI0,zI1,zI2,zI3,reduceCtorEq,c_reso_Val S,hl,Md.valM,Nat.add_zero,Nat.zero_add]
theorem c_exec_spot_val (dp:Nat)(x_p_w x_p_wn x_p_fu x_p_r0 x_p_r1 x_p_r2 x_p_r3:Int)(x_p_ms:List MemT)(x_p_ls:List Label)(x_p_is:List Ins)(x_c_r0 x_c_r1 x_c_r2 x_c_r3:Int)(x_c_mm x_c_st:List Int)(x_c_pc:Int)(x_c_bf:List Ent)(x_c_rb:List Int)(x_c_en x_i x_e_pc x_e_vl x_e_ad x_e_fr x_e_nx:Int)(x_e_dn x_e_kn x_e_ft:Bool)(x_s_k x_s_o x_s_d:Int)(x_s_ag:Bool)(x_s_an:Int)(x_s_bg:Bool)(x_s_bn:Int)(x_s_nm:ByteArray)(x_s_tg:Int)(v_g:Bool)(v_n:Int)(hl:(⟨⟨x_p_w,x_p_wn,x_p_fu,⟨x_p_r0,x_p_r1,x_p_r2,x_p_r3⟩,x_p_ms,x_p_ls,x_p_is⟩,⟨⟨⟨x_c_r0,x_c_r1,x_c_r2,x_c_r3⟩,x_c_mm,x_c_st,x_c_pc⟩,x_c_bf,x_c_rb,x_c_en⟩,x_i,⟨x_e_pc,x_e_vl,x_e_ad,x_e_fr,x_e_nx,x_e_dn,x_e_kn,x_e_ft⟩,⟨x_s_k,x_s_o,x_s_d,⟨x_s_ag,x_s_an⟩,⟨x_s_bg,x_s_bn⟩,x_s_nm,x_s_tg⟩⟩:Spot).c.buf.length<1073741824)(A:List Blk)(nb:Nat)(us:List Nat):evOwnK false E (evC E fn (dp+5)) 63 A nb (some ([.agg [vi x_p_w,vi x_p_wn,vi x_p_fu,vi x_p_r0,vi x_p_r1,vi x_p_r2,vi x_p_r3,rowD x_p_ms,rowD x_p_ls,rowD x_p_is,vi x_c_r0,vi x_c_r1,vi x_c_r2,vi x_c_r3,rowD x_c_mm,rowD x_c_st,vi x_c_pc,rowD x_c_bf,rowD x_c_rb,vi x_c_en,vi x_i,vi x_e_pc,vi x_e_vl,vi x_e_ad,vi x_e_fr,vi x_e_nx,vb x_e_dn,vb x_e_kn,vb x_e_ft,vi x_s_k,vi x_s_o,vi x_s_d,vb x_s_ag,vi x_s_an,vb x_s_bg,vi x_s_bn,vt x_s_nm,vi x_s_tg],.agg [vb v_g,vi v_n]],us))=some (.made (.d (.tup [vi (Md.valM (⟨⟨x_p_w,x_p_wn,x_p_fu,⟨x_p_r0,x_p_r1,x_p_r2,x_p_r3⟩,x_p_ms,x_p_ls,x_p_is⟩,⟨⟨⟨x_c_r0,x_c_r1,x_c_r2,x_c_r3⟩,x_c_mm,x_c_st,x_c_pc⟩,x_c_bf,x_c_rb,x_c_en⟩,x_i,⟨x_e_pc,x_e_vl,x_e_ad,x_e_fr,x_e_nx,x_e_dn,x_e_kn,x_e_ft⟩,⟨x_s_k,x_s_o,x_s_d,⟨x_s_ag,x_s_an⟩,⟨x_s_bg,x_s_bn⟩,x_s_nm,x_s_tg⟩⟩:Spot).p (⟨⟨x_p_w,x_p_wn,x_p_fu,⟨x_p_r0,x_p_r1,x_p_r2,x_p_r3⟩,x_p_ms,x_p_ls,x_p_is⟩,⟨⟨⟨x_c_r0,x_c_r1,x_c_r2,x_c_r3⟩,x_c_mm,x_c_st,x_c_pc⟩,x_c_bf,x_c_rb,x_c_en⟩,x_i,⟨x_e_pc,x_e_vl,x_e_ad,x_e_fr,x_e_nx,x_e_dn,x_e_kn,x_e_ft⟩,⟨x_s_k,x_s_o,x_s_d,⟨x_s_ag,x_s_an⟩,⟨x_s_bg,x_s_bn⟩,x_s_nm,x_s_tg⟩⟩:Spot).c (⟨⟨x_p_w,x_p_wn,x_p_fu,⟨x_p_r0,x_p_r1,x_p_r2,x_p_r3⟩,x_p_ms,x_p_ls,x_p_is⟩,⟨⟨⟨x_c_r0,x_c_r1,x_c_r2,x_c_r3⟩,x_c_mm,x_c_st,x_c_pc⟩,x_c_bf,x_c_rb,x_c_en⟩,x_i,⟨x_e_pc,x_e_vl,x_e_ad,x_e_fr,x_e_nx,x_e_dn,x_e_kn,x_e_ft⟩,⟨x_s_k,x_s_o,x_s_d,⟨x_s_ag,x_s_an⟩,⟨x_s_bg,x_s_bn⟩,x_s_nm,x_s_tg⟩⟩:Spot).i (⟨v_g,v_n⟩:Val)).1,vb (Md.valM (⟨⟨x_p_w,x_p_wn,x_p_fu,⟨x_p_r0,x_p_r1,x_p_r2,x_p_r3⟩,x_p_ms,x_p_ls,x_p_is⟩,⟨⟨⟨x_c_r0,x_c_r1,x_c_r2,x_c_r3⟩,x_c_mm,x_c_st,x_c_pc⟩,x_c_bf,x_c_rb,x_c_en⟩,x_i,⟨x_e_pc,x_e_vl,x_e_ad,x_e_fr,x_e_nx,x_e_dn,x_e_kn,x_e_ft⟩,⟨x_s_k,x_s_o,x_s_d,⟨x_s_ag,x_s_an⟩,⟨x_s_bg,x_s_bn⟩,x_s_nm,x_s_tg⟩⟩:Spot).p (⟨⟨x_p_w,x_p_wn,x_p_fu,⟨x_p_r0,x_p_r1,x_p_r2,x_p_r3⟩,x_p_ms,x_p_ls,x_p_is⟩,⟨⟨⟨x_c_r0,x_c_r1,x_c_r2,x_c_r3⟩,x_c_mm,x_c_st,x_c_pc⟩,x_c_bf,x_c_rb,x_c_en⟩,x_i,⟨x_e_pc,x_e_vl,x_e_ad,x_e_fr,x_e_nx,x_e_dn,x_e_kn,x_e_ft⟩,⟨x_s_k,x_s_o,x_s_d,⟨x_s_ag,x_s_an⟩,⟨x_s_bg,x_s_bn⟩,x_s_nm,x_s_tg⟩⟩:Spot).c (⟨⟨x_p_w,x_p_wn,x_p_fu,⟨x_p_r0,x_p_r1,x_p_r2,x_p_r3⟩,x_p_ms,x_p_ls,x_p_is⟩,⟨⟨⟨x_c_r0,x_c_r1,x_c_r2,x_c_r3⟩,x_c_mm,x_c_st,x_c_pc⟩,x_c_bf,x_c_rb,x_c_en⟩,x_i,⟨x_e_pc,x_e_vl,x_e_ad,x_e_fr,x_e_nx,x_e_dn,x_e_kn,x_e_ft⟩,⟨x_s_k,x_s_o,x_s_d,⟨x_s_ag,x_s_an⟩,⟨x_s_bg,x_s_bn⟩,x_s_nm,x_s_tg⟩⟩:Spot).i (⟨v_g,v_n⟩:Val)).2])) []):=
 Says.flat (raw_exec_spot_val S dp (⟨⟨x_p_w,x_p_wn,x_p_fu,⟨x_p_r0,x_p_r1,x_p_r2,x_p_r3⟩,x_p_ms,x_p_ls,x_p_is⟩,⟨⟨⟨x_c_r0,x_c_r1,x_c_r2,x_c_r3⟩,x_c_mm,x_c_st,x_c_pc⟩,x_c_bf,x_c_rb,x_c_en⟩,x_i,⟨x_e_pc,x_e_vl,x_e_ad,x_e_fr,x_e_nx,x_e_dn,x_e_kn,x_e_ft⟩,⟨x_s_k,x_s_o,x_s_d,⟨x_s_ag,x_s_an⟩,⟨x_s_bg,x_s_bn⟩,x_s_nm,x_s_tg⟩⟩:Spot) (⟨v_g,v_n⟩:Val) hl) (np S 63 (by decide)) (rfl) A nb us
theorem raw_exec_spot_two (dp:Nat)(x:Spot)(hl:x.c.buf.length<1073741824):Says E fn (dp+6) 62 [spotD x] (.tup [vi (Md.valM x.p x.c x.i x.s.a).1,vi (Md.valM x.p x.c x.i x.s.b).1,vb ((Md.valM x.p x.c x.i x.s.a).2&&(Md.valM x.p x.c x.i x.s.b).2)]):=by
 unfold Says
 show ansOf (evC E fn (dp+5+1) 62 [.d (spotD x)] [])=_
 rw[evC_succ,S.f_exec_spot_two,apF_some,F_exec_spot_two,mkF_run _ _ _ _ _ _ _ _ rfl]
 cases h:(Md.valM x.p x.c x.i x.s.a).2<;>simp only[eG,go_sem,thq S,nbr S,zN0,zN1,zN2,zN3,zN4,zI0,zI1,zI2,zI3,reduceCtorEq,c_exec_spot_val S,hl,h]
theorem c_exec_spot_two (dp:Nat)(x_p_w x_p_wn x_p_fu x_p_r0 x_p_r1 x_p_r2 x_p_r3:Int)(x_p_ms:List MemT)(x_p_ls:List Label)(x_p_is:List Ins)(x_c_r0 x_c_r1 x_c_r2 x_c_r3:Int)(x_c_mm x_c_st:List Int)(x_c_pc:Int)(x_c_bf:List Ent)(x_c_rb:List Int)(x_c_en x_i x_e_pc x_e_vl x_e_ad x_e_fr x_e_nx:Int)(x_e_dn x_e_kn x_e_ft:Bool)(x_s_k x_s_o x_s_d:Int)(x_s_ag:Bool)(x_s_an:Int)(x_s_bg:Bool)(x_s_bn:Int)(x_s_nm:ByteArray)(x_s_tg:Int)(hl:(⟨⟨x_p_w,x_p_wn,x_p_fu,⟨x_p_r0,x_p_r1,x_p_r2,x_p_r3⟩,x_p_ms,x_p_ls,x_p_is⟩,⟨⟨⟨x_c_r0,x_c_r1,x_c_r2,x_c_r3⟩,x_c_mm,x_c_st,x_c_pc⟩,x_c_bf,x_c_rb,x_c_en⟩,x_i,⟨x_e_pc,x_e_vl,x_e_ad,x_e_fr,x_e_nx,x_e_dn,x_e_kn,x_e_ft⟩,⟨x_s_k,x_s_o,x_s_d,⟨x_s_ag,x_s_an⟩,⟨x_s_bg,x_s_bn⟩,x_s_nm,x_s_tg⟩⟩:Spot).c.buf.length<1073741824)(A:List Blk)(nb:Nat)(us:List Nat):evOwnK false E (evC E fn (dp+6)) 62 A nb (some ([.agg [vi x_p_w,vi x_p_wn,vi x_p_fu,vi x_p_r0,vi x_p_r1,vi x_p_r2,vi x_p_r3,rowD x_p_ms,rowD x_p_ls,rowD x_p_is,vi x_c_r0,vi x_c_r1,vi x_c_r2,vi x_c_r3,rowD x_c_mm,rowD x_c_st,vi x_c_pc,rowD x_c_bf,rowD x_c_rb,vi x_c_en,vi x_i,vi x_e_pc,vi x_e_vl,vi x_e_ad,vi x_e_fr,vi x_e_nx,vb x_e_dn,vb x_e_kn,vb x_e_ft,vi x_s_k,vi x_s_o,vi x_s_d,vb x_s_ag,vi x_s_an,vb x_s_bg,vi x_s_bn,vt x_s_nm,vi x_s_tg]],us))=some (.made (.d (.tup [vi (Md.valM (⟨⟨x_p_w,x_p_wn,x_p_fu,⟨x_p_r0,x_p_r1,x_p_r2,x_p_r3⟩,x_p_ms,x_p_ls,x_p_is⟩,⟨⟨⟨x_c_r0,x_c_r1,x_c_r2,x_c_r3⟩,x_c_mm,x_c_st,x_c_pc⟩,x_c_bf,x_c_rb,x_c_en⟩,x_i,⟨x_e_pc,x_e_vl,x_e_ad,x_e_fr,x_e_nx,x_e_dn,x_e_kn,x_e_ft⟩,⟨x_s_k,x_s_o,x_s_d,⟨x_s_ag,x_s_an⟩,⟨x_s_bg,x_s_bn⟩,x_s_nm,x_s_tg⟩⟩:Spot).p (⟨⟨x_p_w,x_p_wn,x_p_fu,⟨x_p_r0,x_p_r1,x_p_r2,x_p_r3⟩,x_p_ms,x_p_ls,x_p_is⟩,⟨⟨⟨x_c_r0,x_c_r1,x_c_r2,x_c_r3⟩,x_c_mm,x_c_st,x_c_pc⟩,x_c_bf,x_c_rb,x_c_en⟩,x_i,⟨x_e_pc,x_e_vl,x_e_ad,x_e_fr,x_e_nx,x_e_dn,x_e_kn,x_e_ft⟩,⟨x_s_k,x_s_o,x_s_d,⟨x_s_ag,x_s_an⟩,⟨x_s_bg,x_s_bn⟩,x_s_nm,x_s_tg⟩⟩:Spot).c (⟨⟨x_p_w,x_p_wn,x_p_fu,⟨x_p_r0,x_p_r1,x_p_r2,x_p_r3⟩,x_p_ms,x_p_ls,x_p_is⟩,⟨⟨⟨x_c_r0,x_c_r1,x_c_r2,x_c_r3⟩,x_c_mm,x_c_st,x_c_pc⟩,x_c_bf,x_c_rb,x_c_en⟩,x_i,⟨x_e_pc,x_e_vl,x_e_ad,x_e_fr,x_e_nx,x_e_dn,x_e_kn,x_e_ft⟩,⟨x_s_k,x_s_o,x_s_d,⟨x_s_ag,x_s_an⟩,⟨x_s_bg,x_s_bn⟩,x_s_nm,x_s_tg⟩⟩:Spot).i (⟨⟨x_p_w,x_p_wn,x_p_fu,⟨x_p_r0,x_p_r1,x_p_r2,x_p_r3⟩,x_p_ms,x_p_ls,x_p_is⟩,⟨⟨⟨x_c_r0,x_c_r1,x_c_r2,x_c_r3⟩,x_c_mm,x_c_st,x_c_pc⟩,x_c_bf,x_c_rb,x_c_en⟩,x_i,⟨x_e_pc,x_e_vl,x_e_ad,x_e_fr,x_e_nx,x_e_dn,x_e_kn,x_e_ft⟩,⟨x_s_k,x_s_o,x_s_d,⟨x_s_ag,x_s_an⟩,⟨x_s_bg,x_s_bn⟩,x_s_nm,x_s_tg⟩⟩:Spot).s.a).1,vi (Md.valM (⟨⟨x_p_w,x_p_wn,x_p_fu,⟨x_p_r0,x_p_r1,x_p_r2,x_p_r3⟩,x_p_ms,x_p_ls,x_p_is⟩,⟨⟨⟨x_c_r0,x_c_r1,x_c_r2,x_c_r3⟩,x_c_mm,x_c_st,x_c_pc⟩,x_c_bf,x_c_rb,x_c_en⟩,x_i,⟨x_e_pc,x_e_vl,x_e_ad,x_e_fr,x_e_nx,x_e_dn,x_e_kn,x_e_ft⟩,⟨x_s_k,x_s_o,x_s_d,⟨x_s_ag,x_s_an⟩,⟨x_s_bg,x_s_bn⟩,x_s_nm,x_s_tg⟩⟩:Spot).p (⟨⟨x_p_w,x_p_wn,x_p_fu,⟨x_p_r0,x_p_r1,x_p_r2,x_p_r3⟩,x_p_ms,x_p_ls,x_p_is⟩,⟨⟨⟨x_c_r0,x_c_r1,x_c_r2,x_c_r3⟩,x_c_mm,x_c_st,x_c_pc⟩,x_c_bf,x_c_rb,x_c_en⟩,x_i,⟨x_e_pc,x_e_vl,x_e_ad,x_e_fr,x_e_nx,x_e_dn,x_e_kn,x_e_ft⟩,⟨x_s_k,x_s_o,x_s_d,⟨x_s_ag,x_s_an⟩,⟨x_s_bg,x_s_bn⟩,x_s_nm,x_s_tg⟩⟩:Spot).c (⟨⟨x_p_w,x_p_wn,x_p_fu,⟨x_p_r0,x_p_r1,x_p_r2,x_p_r3⟩,x_p_ms,x_p_ls,x_p_is⟩,⟨⟨⟨x_c_r0,x_c_r1,x_c_r2,x_c_r3⟩,x_c_mm,x_c_st,x_c_pc⟩,x_c_bf,x_c_rb,x_c_en⟩,x_i,⟨x_e_pc,x_e_vl,x_e_ad,x_e_fr,x_e_nx,x_e_dn,x_e_kn,x_e_ft⟩,⟨x_s_k,x_s_o,x_s_d,⟨x_s_ag,x_s_an⟩,⟨x_s_bg,x_s_bn⟩,x_s_nm,x_s_tg⟩⟩:Spot).i (⟨⟨x_p_w,x_p_wn,x_p_fu,⟨x_p_r0,x_p_r1,x_p_r2,x_p_r3⟩,x_p_ms,x_p_ls,x_p_is⟩,⟨⟨⟨x_c_r0,x_c_r1,x_c_r2,x_c_r3⟩,x_c_mm,x_c_st,x_c_pc⟩,x_c_bf,x_c_rb,x_c_en⟩,x_i,⟨x_e_pc,x_e_vl,x_e_ad,x_e_fr,x_e_nx,x_e_dn,x_e_kn,x_e_ft⟩,⟨x_s_k,x_s_o,x_s_d,⟨x_s_ag,x_s_an⟩,⟨x_s_bg,x_s_bn⟩,x_s_nm,x_s_tg⟩⟩:Spot).s.b).1,vb ((Md.valM (⟨⟨x_p_w,x_p_wn,x_p_fu,⟨x_p_r0,x_p_r1,x_p_r2,x_p_r3⟩,x_p_ms,x_p_ls,x_p_is⟩,⟨⟨⟨x_c_r0,x_c_r1,x_c_r2,x_c_r3⟩,x_c_mm,x_c_st,x_c_pc⟩,x_c_bf,x_c_rb,x_c_en⟩,x_i,⟨x_e_pc,x_e_vl,x_e_ad,x_e_fr,x_e_nx,x_e_dn,x_e_kn,x_e_ft⟩,⟨x_s_k,x_s_o,x_s_d,⟨x_s_ag,x_s_an⟩,⟨x_s_bg,x_s_bn⟩,x_s_nm,x_s_tg⟩⟩:Spot).p (⟨⟨x_p_w,x_p_wn,x_p_fu,⟨x_p_r0,x_p_r1,x_p_r2,x_p_r3⟩,x_p_ms,x_p_ls,x_p_is⟩,⟨⟨⟨x_c_r0,x_c_r1,x_c_r2,x_c_r3⟩,x_c_mm,x_c_st,x_c_pc⟩,x_c_bf,x_c_rb,x_c_en⟩,x_i,⟨x_e_pc,x_e_vl,x_e_ad,x_e_fr,x_e_nx,x_e_dn,x_e_kn,x_e_ft⟩,⟨x_s_k,x_s_o,x_s_d,⟨x_s_ag,x_s_an⟩,⟨x_s_bg,x_s_bn⟩,x_s_nm,x_s_tg⟩⟩:Spot).c (⟨⟨x_p_w,x_p_wn,x_p_fu,⟨x_p_r0,x_p_r1,x_p_r2,x_p_r3⟩,x_p_ms,x_p_ls,x_p_is⟩,⟨⟨⟨x_c_r0,x_c_r1,x_c_r2,x_c_r3⟩,x_c_mm,x_c_st,x_c_pc⟩,x_c_bf,x_c_rb,x_c_en⟩,x_i,⟨x_e_pc,x_e_vl,x_e_ad,x_e_fr,x_e_nx,x_e_dn,x_e_kn,x_e_ft⟩,⟨x_s_k,x_s_o,x_s_d,⟨x_s_ag,x_s_an⟩,⟨x_s_bg,x_s_bn⟩,x_s_nm,x_s_tg⟩⟩:Spot).i (⟨⟨x_p_w,x_p_wn,x_p_fu,⟨x_p_r0,x_p_r1,x_p_r2,x_p_r3⟩,x_p_ms,x_p_ls,x_p_is⟩,⟨⟨⟨x_c_r0,x_c_r1,x_c_r2,x_c_r3⟩,x_c_mm,x_c_st,x_c_pc⟩,x_c_bf,x_c_rb,x_c_en⟩,x_i,⟨x_e_pc,x_e_vl,x_e_ad,x_e_fr,x_e_nx,x_e_dn,x_e_kn,x_e_ft⟩,⟨x_s_k,x_s_o,x_s_d,⟨x_s_ag,x_s_an⟩,⟨x_s_bg,x_s_bn⟩,x_s_nm,x_s_tg⟩⟩:Spot).s.a).2&&(Md.valM (⟨⟨x_p_w,x_p_wn,x_p_fu,⟨x_p_r0,x_p_r1,x_p_r2,x_p_r3⟩,x_p_ms,x_p_ls,x_p_is⟩,⟨⟨⟨x_c_r0,x_c_r1,x_c_r2,x_c_r3⟩,x_c_mm,x_c_st,x_c_pc⟩,x_c_bf,x_c_rb,x_c_en⟩,x_i,⟨x_e_pc,x_e_vl,x_e_ad,x_e_fr,x_e_nx,x_e_dn,x_e_kn,x_e_ft⟩,⟨x_s_k,x_s_o,x_s_d,⟨x_s_ag,x_s_an⟩,⟨x_s_bg,x_s_bn⟩,x_s_nm,x_s_tg⟩⟩:Spot).p (⟨⟨x_p_w,x_p_wn,x_p_fu,⟨x_p_r0,x_p_r1,x_p_r2,x_p_r3⟩,x_p_ms,x_p_ls,x_p_is⟩,⟨⟨⟨x_c_r0,x_c_r1,x_c_r2,x_c_r3⟩,x_c_mm,x_c_st,x_c_pc⟩,x_c_bf,x_c_rb,x_c_en⟩,x_i,⟨x_e_pc,x_e_vl,x_e_ad,x_e_fr,x_e_nx,x_e_dn,x_e_kn,x_e_ft⟩,⟨x_s_k,x_s_o,x_s_d,⟨x_s_ag,x_s_an⟩,⟨x_s_bg,x_s_bn⟩,x_s_nm,x_s_tg⟩⟩:Spot).c (⟨⟨x_p_w,x_p_wn,x_p_fu,⟨x_p_r0,x_p_r1,x_p_r2,x_p_r3⟩,x_p_ms,x_p_ls,x_p_is⟩,⟨⟨⟨x_c_r0,x_c_r1,x_c_r2,x_c_r3⟩,x_c_mm,x_c_st,x_c_pc⟩,x_c_bf,x_c_rb,x_c_en⟩,x_i,⟨x_e_pc,x_e_vl,x_e_ad,x_e_fr,x_e_nx,x_e_dn,x_e_kn,x_e_ft⟩,⟨x_s_k,x_s_o,x_s_d,⟨x_s_ag,x_s_an⟩,⟨x_s_bg,x_s_bn⟩,x_s_nm,x_s_tg⟩⟩:Spot).i (⟨⟨x_p_w,x_p_wn,x_p_fu,⟨x_p_r0,x_p_r1,x_p_r2,x_p_r3⟩,x_p_ms,x_p_ls,x_p_is⟩,⟨⟨⟨x_c_r0,x_c_r1,x_c_r2,x_c_r3⟩,x_c_mm,x_c_st,x_c_pc⟩,x_c_bf,x_c_rb,x_c_en⟩,x_i,⟨x_e_pc,x_e_vl,x_e_ad,x_e_fr,x_e_nx,x_e_dn,x_e_kn,x_e_ft⟩,⟨x_s_k,x_s_o,x_s_d,⟨x_s_ag,x_s_an⟩,⟨x_s_bg,x_s_bn⟩,x_s_nm,x_s_tg⟩⟩:Spot).s.b).2)])) []):=
 Says.flat (raw_exec_spot_two S dp (⟨⟨x_p_w,x_p_wn,x_p_fu,⟨x_p_r0,x_p_r1,x_p_r2,x_p_r3⟩,x_p_ms,x_p_ls,x_p_is⟩,⟨⟨⟨x_c_r0,x_c_r1,x_c_r2,x_c_r3⟩,x_c_mm,x_c_st,x_c_pc⟩,x_c_bf,x_c_rb,x_c_en⟩,x_i,⟨x_e_pc,x_e_vl,x_e_ad,x_e_fr,x_e_nx,x_e_dn,x_e_kn,x_e_ft⟩,⟨x_s_k,x_s_o,x_s_d,⟨x_s_ag,x_s_an⟩,⟨x_s_bg,x_s_bn⟩,x_s_nm,x_s_tg⟩⟩:Spot) hl) (np S 62 (by decide)) (rfl) A nb us
theorem raw_exec_spot_held (dp:Nat)(x:Spot)(hl:x.c.buf.length<1073741824):Says E fn (dp+6) 64 [spotD x] (.tup [vi (Md.regM x.p x.c x.i x.s.d).1,vb (Md.regM x.p x.c x.i x.s.d).2]):=by
 unfold Says
 show ansOf (evC E fn (dp+5+1) 64 [.d (spotD x)] [])=_
 rw[evC_succ,S.f_exec_spot_held,apF_some,F_exec_spot_held,mkF_run _ _ _ _ _ _ _ _ rfl]
 simp only[eG,go_sem,thq S,nbr S,zN0,zN1,zN2,zN3,zN4,zI0,zI1,zI2,zI3,reduceCtorEq,c_exec_spot_val S,hl,Md.valM,Md.val,Md.regM]
theorem c_exec_spot_held (dp:Nat)(x_p_w x_p_wn x_p_fu x_p_r0 x_p_r1 x_p_r2 x_p_r3:Int)(x_p_ms:List MemT)(x_p_ls:List Label)(x_p_is:List Ins)(x_c_r0 x_c_r1 x_c_r2 x_c_r3:Int)(x_c_mm x_c_st:List Int)(x_c_pc:Int)(x_c_bf:List Ent)(x_c_rb:List Int)(x_c_en x_i x_e_pc x_e_vl x_e_ad x_e_fr x_e_nx:Int)(x_e_dn x_e_kn x_e_ft:Bool)(x_s_k x_s_o x_s_d:Int)(x_s_ag:Bool)(x_s_an:Int)(x_s_bg:Bool)(x_s_bn:Int)(x_s_nm:ByteArray)(x_s_tg:Int)(hl:(⟨⟨x_p_w,x_p_wn,x_p_fu,⟨x_p_r0,x_p_r1,x_p_r2,x_p_r3⟩,x_p_ms,x_p_ls,x_p_is⟩,⟨⟨⟨x_c_r0,x_c_r1,x_c_r2,x_c_r3⟩,x_c_mm,x_c_st,x_c_pc⟩,x_c_bf,x_c_rb,x_c_en⟩,x_i,⟨x_e_pc,x_e_vl,x_e_ad,x_e_fr,x_e_nx,x_e_dn,x_e_kn,x_e_ft⟩,⟨x_s_k,x_s_o,x_s_d,⟨x_s_ag,x_s_an⟩,⟨x_s_bg,x_s_bn⟩,x_s_nm,x_s_tg⟩⟩:Spot).c.buf.length<1073741824)(A:List Blk)(nb:Nat)(us:List Nat):evOwnK false E (evC E fn (dp+6)) 64 A nb (some ([.agg [vi x_p_w,vi x_p_wn,vi x_p_fu,vi x_p_r0,vi x_p_r1,vi x_p_r2,vi x_p_r3,rowD x_p_ms,rowD x_p_ls,rowD x_p_is,vi x_c_r0,vi x_c_r1,vi x_c_r2,vi x_c_r3,rowD x_c_mm,rowD x_c_st,vi x_c_pc,rowD x_c_bf,rowD x_c_rb,vi x_c_en,vi x_i,vi x_e_pc,vi x_e_vl,vi x_e_ad,vi x_e_fr,vi x_e_nx,vb x_e_dn,vb x_e_kn,vb x_e_ft,vi x_s_k,vi x_s_o,vi x_s_d,vb x_s_ag,vi x_s_an,vb x_s_bg,vi x_s_bn,vt x_s_nm,vi x_s_tg]],us))=some (.made (.d (.tup [vi (Md.regM (⟨⟨x_p_w,x_p_wn,x_p_fu,⟨x_p_r0,x_p_r1,x_p_r2,x_p_r3⟩,x_p_ms,x_p_ls,x_p_is⟩,⟨⟨⟨x_c_r0,x_c_r1,x_c_r2,x_c_r3⟩,x_c_mm,x_c_st,x_c_pc⟩,x_c_bf,x_c_rb,x_c_en⟩,x_i,⟨x_e_pc,x_e_vl,x_e_ad,x_e_fr,x_e_nx,x_e_dn,x_e_kn,x_e_ft⟩,⟨x_s_k,x_s_o,x_s_d,⟨x_s_ag,x_s_an⟩,⟨x_s_bg,x_s_bn⟩,x_s_nm,x_s_tg⟩⟩:Spot).p (⟨⟨x_p_w,x_p_wn,x_p_fu,⟨x_p_r0,x_p_r1,x_p_r2,x_p_r3⟩,x_p_ms,x_p_ls,x_p_is⟩,⟨⟨⟨x_c_r0,x_c_r1,x_c_r2,x_c_r3⟩,x_c_mm,x_c_st,x_c_pc⟩,x_c_bf,x_c_rb,x_c_en⟩,x_i,⟨x_e_pc,x_e_vl,x_e_ad,x_e_fr,x_e_nx,x_e_dn,x_e_kn,x_e_ft⟩,⟨x_s_k,x_s_o,x_s_d,⟨x_s_ag,x_s_an⟩,⟨x_s_bg,x_s_bn⟩,x_s_nm,x_s_tg⟩⟩:Spot).c (⟨⟨x_p_w,x_p_wn,x_p_fu,⟨x_p_r0,x_p_r1,x_p_r2,x_p_r3⟩,x_p_ms,x_p_ls,x_p_is⟩,⟨⟨⟨x_c_r0,x_c_r1,x_c_r2,x_c_r3⟩,x_c_mm,x_c_st,x_c_pc⟩,x_c_bf,x_c_rb,x_c_en⟩,x_i,⟨x_e_pc,x_e_vl,x_e_ad,x_e_fr,x_e_nx,x_e_dn,x_e_kn,x_e_ft⟩,⟨x_s_k,x_s_o,x_s_d,⟨x_s_ag,x_s_an⟩,⟨x_s_bg,x_s_bn⟩,x_s_nm,x_s_tg⟩⟩:Spot).i (⟨⟨x_p_w,x_p_wn,x_p_fu,⟨x_p_r0,x_p_r1,x_p_r2,x_p_r3⟩,x_p_ms,x_p_ls,x_p_is⟩,⟨⟨⟨x_c_r0,x_c_r1,x_c_r2,x_c_r3⟩,x_c_mm,x_c_st,x_c_pc⟩,x_c_bf,x_c_rb,x_c_en⟩,x_i,⟨x_e_pc,x_e_vl,x_e_ad,x_e_fr,x_e_nx,x_e_dn,x_e_kn,x_e_ft⟩,⟨x_s_k,x_s_o,x_s_d,⟨x_s_ag,x_s_an⟩,⟨x_s_bg,x_s_bn⟩,x_s_nm,x_s_tg⟩⟩:Spot).s.d).1,vb (Md.regM (⟨⟨x_p_w,x_p_wn,x_p_fu,⟨x_p_r0,x_p_r1,x_p_r2,x_p_r3⟩,x_p_ms,x_p_ls,x_p_is⟩,⟨⟨⟨x_c_r0,x_c_r1,x_c_r2,x_c_r3⟩,x_c_mm,x_c_st,x_c_pc⟩,x_c_bf,x_c_rb,x_c_en⟩,x_i,⟨x_e_pc,x_e_vl,x_e_ad,x_e_fr,x_e_nx,x_e_dn,x_e_kn,x_e_ft⟩,⟨x_s_k,x_s_o,x_s_d,⟨x_s_ag,x_s_an⟩,⟨x_s_bg,x_s_bn⟩,x_s_nm,x_s_tg⟩⟩:Spot).p (⟨⟨x_p_w,x_p_wn,x_p_fu,⟨x_p_r0,x_p_r1,x_p_r2,x_p_r3⟩,x_p_ms,x_p_ls,x_p_is⟩,⟨⟨⟨x_c_r0,x_c_r1,x_c_r2,x_c_r3⟩,x_c_mm,x_c_st,x_c_pc⟩,x_c_bf,x_c_rb,x_c_en⟩,x_i,⟨x_e_pc,x_e_vl,x_e_ad,x_e_fr,x_e_nx,x_e_dn,x_e_kn,x_e_ft⟩,⟨x_s_k,x_s_o,x_s_d,⟨x_s_ag,x_s_an⟩,⟨x_s_bg,x_s_bn⟩,x_s_nm,x_s_tg⟩⟩:Spot).c (⟨⟨x_p_w,x_p_wn,x_p_fu,⟨x_p_r0,x_p_r1,x_p_r2,x_p_r3⟩,x_p_ms,x_p_ls,x_p_is⟩,⟨⟨⟨x_c_r0,x_c_r1,x_c_r2,x_c_r3⟩,x_c_mm,x_c_st,x_c_pc⟩,x_c_bf,x_c_rb,x_c_en⟩,x_i,⟨x_e_pc,x_e_vl,x_e_ad,x_e_fr,x_e_nx,x_e_dn,x_e_kn,x_e_ft⟩,⟨x_s_k,x_s_o,x_s_d,⟨x_s_ag,x_s_an⟩,⟨x_s_bg,x_s_bn⟩,x_s_nm,x_s_tg⟩⟩:Spot).i (⟨⟨x_p_w,x_p_wn,x_p_fu,⟨x_p_r0,x_p_r1,x_p_r2,x_p_r3⟩,x_p_ms,x_p_ls,x_p_is⟩,⟨⟨⟨x_c_r0,x_c_r1,x_c_r2,x_c_r3⟩,x_c_mm,x_c_st,x_c_pc⟩,x_c_bf,x_c_rb,x_c_en⟩,x_i,⟨x_e_pc,x_e_vl,x_e_ad,x_e_fr,x_e_nx,x_e_dn,x_e_kn,x_e_ft⟩,⟨x_s_k,x_s_o,x_s_d,⟨x_s_ag,x_s_an⟩,⟨x_s_bg,x_s_bn⟩,x_s_nm,x_s_tg⟩⟩:Spot).s.d).2])) []):=
 Says.flat (raw_exec_spot_held S dp (⟨⟨x_p_w,x_p_wn,x_p_fu,⟨x_p_r0,x_p_r1,x_p_r2,x_p_r3⟩,x_p_ms,x_p_ls,x_p_is⟩,⟨⟨⟨x_c_r0,x_c_r1,x_c_r2,x_c_r3⟩,x_c_mm,x_c_st,x_c_pc⟩,x_c_bf,x_c_rb,x_c_en⟩,x_i,⟨x_e_pc,x_e_vl,x_e_ad,x_e_fr,x_e_nx,x_e_dn,x_e_kn,x_e_ft⟩,⟨x_s_k,x_s_o,x_s_d,⟨x_s_ag,x_s_an⟩,⟨x_s_bg,x_s_bn⟩,x_s_nm,x_s_tg⟩⟩:Spot) hl) (np S 64 (by decide)) (rfl) A nb us
end
def abOf (x:Spot):Bool:=(Md.valM x.p x.c x.i x.s.a).2&&(Md.valM x.p x.c x.i x.s.b).2
def adOf (x:Spot):Int:=Md.mask x.p.w ((Md.valM x.p x.c x.i x.s.a).1+(Md.valM x.p x.c x.i x.s.b).1)
def inOf (x:Spot):Bool:=decide (adOf x<cellsI x.p.mems)
def loadE (x:Spot):Ent×Bool×Bool:=
 bif abOf x then
  (bif inOf x then (⟨x.e.pc, (Md.loadM x.p x.c x.i (adOf x)).1, adOf x, (Md.loadM x.p x.c x.i (adOf x)).2.1, x.e.next, true, true, x.e.fault⟩, true, (Md.loadM x.p x.c x.i (adOf x)).2.2)
   else(⟨x.e.pc,0,adOf x,-1,x.e.next,true,true,true⟩,false,true))
 else(Md.ent0,false,false)
def readyX (x:Spot):Bool:=Md.ready (cellsI x.p.mems) x.p x.c x.i x.s (Md.valM x.p x.c x.i x.s.a) (Md.valM x.p x.c x.i x.s.b) (Md.regM x.p x.c x.i x.s.d)
variable {E:Env} {fn:FuncId->Option (Env->CallT->CallT)}
section
variable (S:Sur E fn)
include S
theorem o69_16:E.lives 69 9=none/\E.lives 69 19=none:=⟨off S 69 9 (by decide) rfl,off S 69 19 (by decide) rfl⟩
theorem o61_16:E.lives 61 15=none/\E.lives 61 17=none/\E.lives 61 21=none/\E.lives 61 25=none/\E.lives 61 31=none/\E.lives 61 35=none:=⟨off S 61 15 (by decide) rfl,off S 61 17 (by decide) rfl,off S 61 21 (by decide) rfl,off S 61 25 (by decide) rfl,off S 61 31 (by decide) rfl,off S 61 35 (by decide) rfl⟩
theorem raw_exec_spot_load (dp:Nat)(x:Spot)(hl:x.c.buf.length<1073741824)(hm:x.p.mems.length<1073741824):Says E fn (dp+7) 69 [spotD x] (.tup [.agg (Cl.cells (loadE x).1),vb (loadE x).2.1,vb (loadE x).2.2]):=by
 unfold Says
 show ansOf (evC E fn (dp+6+1) 69 [.d (spotD x)] [])=_
 rw[evC_succ,S.f_exec_spot_load,apF_some,F_exec_spot_load,mkF_run _ _ _ _ _ _ _ _ rfl]
 have e1:((Md.valM x.p x.c x.i x.s.a).2&&(Md.valM x.p x.c x.i x.s.b).2)=abOf x:=rfl
 have e2:Md.mask x.p.w ((Md.valM x.p x.c x.i x.s.a).1+(Md.valM x.p x.c x.i x.s.b).1)=adOf x:=rfl
 have e3:decide (adOf x<cellsI x.p.mems)=inOf x:=rfl
 cases h:abOf x with
 | false=>simp only[eG,go_sem,thq S,nbr S,zN0,zN1,zN2,zN3,zN4,zI0,zI1,zI2,zI3,reduceCtorEq,o69_16 S,c_exec_spot_two S,hl,e1,h,Bool.not_false,loadE,Md.ent0]
 | true=>
  cases h2:inOf x with
  | true=>simp only[eG,go_sem,thq S,nbr S,zN0,zN1,zN2,zN3,zN4,zI0,zI1,zI2,zI3,reduceCtorEq,o69_16 S,c_exec_spot_two S,hl,hm,e1,e2,e3,h,h2,Bool.not_true,Bool.not_false,loadE,c_seqm_Address S,c_memo_Load S,Md.loadM]
  | false=>simp only[eG,go_sem,thq S,nbr S,zN0,zN1,zN2,zN3,zN4,zI0,zI1,zI2,zI3,reduceCtorEq,o69_16 S,c_exec_spot_two S,hl,hm,e1,e2,e3,h,h2,Bool.not_true,Bool.not_false,loadE,c_seqm_Address S]
theorem c_exec_spot_load (dp:Nat)(x_p_w x_p_wn x_p_fu x_p_r0 x_p_r1 x_p_r2 x_p_r3:Int)(x_p_ms:List MemT)(x_p_ls:List Label)(x_p_is:List Ins)(x_c_r0 x_c_r1 x_c_r2 x_c_r3:Int)(x_c_mm x_c_st:List Int)(x_c_pc:Int)(x_c_bf:List Ent)(x_c_rb:List Int)(x_c_en x_i x_e_pc x_e_vl x_e_ad x_e_fr x_e_nx:Int)(x_e_dn x_e_kn x_e_ft:Bool)(x_s_k x_s_o x_s_d:Int)(x_s_ag:Bool)(x_s_an:Int)(x_s_bg:Bool)(x_s_bn:Int)(x_s_nm:ByteArray)(x_s_tg:Int)(hl:(⟨⟨x_p_w,x_p_wn,x_p_fu,⟨x_p_r0,x_p_r1,x_p_r2,x_p_r3⟩,x_p_ms,x_p_ls,x_p_is⟩,⟨⟨⟨x_c_r0,x_c_r1,x_c_r2,x_c_r3⟩,x_c_mm,x_c_st,x_c_pc⟩,x_c_bf,x_c_rb,x_c_en⟩,x_i,⟨x_e_pc,x_e_vl,x_e_ad,x_e_fr,x_e_nx,x_e_dn,x_e_kn,x_e_ft⟩,⟨x_s_k,x_s_o,x_s_d,⟨x_s_ag,x_s_an⟩,⟨x_s_bg,x_s_bn⟩,x_s_nm,x_s_tg⟩⟩:Spot).c.buf.length<1073741824)(hm:(⟨⟨x_p_w,x_p_wn,x_p_fu,⟨x_p_r0,x_p_r1,x_p_r2,x_p_r3⟩,x_p_ms,x_p_ls,x_p_is⟩,⟨⟨⟨x_c_r0,x_c_r1,x_c_r2,x_c_r3⟩,x_c_mm,x_c_st,x_c_pc⟩,x_c_bf,x_c_rb,x_c_en⟩,x_i,⟨x_e_pc,x_e_vl,x_e_ad,x_e_fr,x_e_nx,x_e_dn,x_e_kn,x_e_ft⟩,⟨x_s_k,x_s_o,x_s_d,⟨x_s_ag,x_s_an⟩,⟨x_s_bg,x_s_bn⟩,x_s_nm,x_s_tg⟩⟩:Spot).p.mems.length<1073741824)(A:List Blk)(nb:Nat)(us:List Nat):evOwnK false E (evC E fn (dp+7)) 69 A nb (some ([.agg [vi x_p_w,vi x_p_wn,vi x_p_fu,vi x_p_r0,vi x_p_r1,vi x_p_r2,vi x_p_r3,rowD x_p_ms,rowD x_p_ls,rowD x_p_is,vi x_c_r0,vi x_c_r1,vi x_c_r2,vi x_c_r3,rowD x_c_mm,rowD x_c_st,vi x_c_pc,rowD x_c_bf,rowD x_c_rb,vi x_c_en,vi x_i,vi x_e_pc,vi x_e_vl,vi x_e_ad,vi x_e_fr,vi x_e_nx,vb x_e_dn,vb x_e_kn,vb x_e_ft,vi x_s_k,vi x_s_o,vi x_s_d,vb x_s_ag,vi x_s_an,vb x_s_bg,vi x_s_bn,vt x_s_nm,vi x_s_tg]],us))=some (.made (.d (.tup [.agg (Cl.cells (loadE (⟨⟨x_p_w,x_p_wn,x_p_fu,⟨x_p_r0,x_p_r1,x_p_r2,x_p_r3⟩,x_p_ms,x_p_ls,x_p_is⟩,⟨⟨⟨x_c_r0,x_c_r1,x_c_r2,x_c_r3⟩,x_c_mm,x_c_st,x_c_pc⟩,x_c_bf,x_c_rb,x_c_en⟩,x_i,⟨x_e_pc,x_e_vl,x_e_ad,x_e_fr,x_e_nx,x_e_dn,x_e_kn,x_e_ft⟩,⟨x_s_k,x_s_o,x_s_d,⟨x_s_ag,x_s_an⟩,⟨x_s_bg,x_s_bn⟩,x_s_nm,x_s_tg⟩⟩:Spot)).1),vb (loadE (⟨⟨x_p_w,x_p_wn,x_p_fu,⟨x_p_r0,x_p_r1,x_p_r2,x_p_r3⟩,x_p_ms,x_p_ls,x_p_is⟩,⟨⟨⟨x_c_r0,x_c_r1,x_c_r2,x_c_r3⟩,x_c_mm,x_c_st,x_c_pc⟩,x_c_bf,x_c_rb,x_c_en⟩,x_i,⟨x_e_pc,x_e_vl,x_e_ad,x_e_fr,x_e_nx,x_e_dn,x_e_kn,x_e_ft⟩,⟨x_s_k,x_s_o,x_s_d,⟨x_s_ag,x_s_an⟩,⟨x_s_bg,x_s_bn⟩,x_s_nm,x_s_tg⟩⟩:Spot)).2.1,vb (loadE (⟨⟨x_p_w,x_p_wn,x_p_fu,⟨x_p_r0,x_p_r1,x_p_r2,x_p_r3⟩,x_p_ms,x_p_ls,x_p_is⟩,⟨⟨⟨x_c_r0,x_c_r1,x_c_r2,x_c_r3⟩,x_c_mm,x_c_st,x_c_pc⟩,x_c_bf,x_c_rb,x_c_en⟩,x_i,⟨x_e_pc,x_e_vl,x_e_ad,x_e_fr,x_e_nx,x_e_dn,x_e_kn,x_e_ft⟩,⟨x_s_k,x_s_o,x_s_d,⟨x_s_ag,x_s_an⟩,⟨x_s_bg,x_s_bn⟩,x_s_nm,x_s_tg⟩⟩:Spot)).2.2])) []):=
 Says.flat (raw_exec_spot_load S dp (⟨⟨x_p_w,x_p_wn,x_p_fu,⟨x_p_r0,x_p_r1,x_p_r2,x_p_r3⟩,x_p_ms,x_p_ls,x_p_is⟩,⟨⟨⟨x_c_r0,x_c_r1,x_c_r2,x_c_r3⟩,x_c_mm,x_c_st,x_c_pc⟩,x_c_bf,x_c_rb,x_c_en⟩,x_i,⟨x_e_pc,x_e_vl,x_e_ad,x_e_fr,x_e_nx,x_e_dn,x_e_kn,x_e_ft⟩,⟨x_s_k,x_s_o,x_s_d,⟨x_s_ag,x_s_an⟩,⟨x_s_bg,x_s_bn⟩,x_s_nm,x_s_tg⟩⟩:Spot) hl hm) (np S 69 (by decide)) (rfl) A nb us
theorem raw_exec_spot_ready (dp:Nat)(x:Spot)(hl:x.c.buf.length<1073741824)(hm:x.p.mems.length<1073741824):Says E fn (dp+8) 61 [spotD x] (vb (readyX x)):=by
 unfold Says
 show ansOf (evC E fn (dp+7+1) 61 [.d (spotD x)] [])=_
 rw[evC_succ,S.f_exec_spot_ready,apF_some,F_exec_spot_ready,mkF_run _ _ _ _ _ _ _ _ rfl]
 have e1:((Md.valM x.p x.c x.i x.s.a).2&&(Md.valM x.p x.c x.i x.s.b).2)=abOf x:=rfl
 have hld:(loadE x).2.2=(abOf x&&(decide (adOf x>=cellsI x.p.mems) || (Md.loadM x.p x.c x.i (adOf x)).2.2)):=by
  unfold loadE inOf
  cases abOf x with
  | false=>rfl
  | true=>
   by_cases h:adOf x<cellsI x.p.mems
   ·simp[h,Int.not_le.2 h]
   ·simp[h,Int.not_lt.1 h]
 unfold readyX
 cases hab:abOf x<;>simp only[eG,go_sem,thq S,nbr S,zN0,zN1,zN2,zN3,zN4,zI0,zI1,zI2,zI3,reduceCtorEq,o61_16 S,c_exec_spot_two S,c_exec_spot_held S,c_exec_spot_val S,c_exec_spot_load S,hl,hm,e1,hab,hld]
 all_goals
  have h':=hab
  unfold abOf at h'
  by_cases k1:x.s.kind=1
  ·simp only[k1,Md.ready,h',if_true,decide_true,cond_true,true_or]
  by_cases k5:x.s.kind=5
  ·simp only[k5,Md.ready,h',if_true,decide_true,cond_true,or_true,zI0,decide_false,cond_false]
  by_cases k4:x.s.kind=4
  ·simp only[k4,Md.ready,h',if_true,if_false,decide_true,cond_true,or_self,zI0,decide_false,cond_false,Bool.true_and,Bool.false_and]
  by_cases k2:x.s.kind=2
  ·simp only [k2, Md.ready, h', if_true, if_false, decide_true, cond_true, or_self, zI0, decide_false, cond_false, Bool.true_and, Bool.false_and, adOf]
   try rfl
  by_cases k3:x.s.kind=3
  ·simp only[k3,Md.ready,if_true,if_false,decide_true,cond_true,or_self,zI0,decide_false,cond_false]
  by_cases k7:x.s.kind=7
  ·simp only[k7,Md.ready,if_true,if_false,decide_true,cond_true,or_self,zI0,decide_false,cond_false]
  ·simp only[k1,k2,k3,k4,k5,k7,Md.ready,if_true,if_false,decide_true,cond_true,or_self,zI0,decide_false,cond_false]
theorem c_exec_spot_ready (dp:Nat)(x_p_w x_p_wn x_p_fu x_p_r0 x_p_r1 x_p_r2 x_p_r3:Int)(x_p_ms:List MemT)(x_p_ls:List Label)(x_p_is:List Ins)(x_c_r0 x_c_r1 x_c_r2 x_c_r3:Int)(x_c_mm x_c_st:List Int)(x_c_pc:Int)(x_c_bf:List Ent)(x_c_rb:List Int)(x_c_en x_i x_e_pc x_e_vl x_e_ad x_e_fr x_e_nx:Int)(x_e_dn x_e_kn x_e_ft:Bool)(x_s_k x_s_o x_s_d:Int)(x_s_ag:Bool)(x_s_an:Int)(x_s_bg:Bool)(x_s_bn:Int)(x_s_nm:ByteArray)(x_s_tg:Int)(hl:(⟨⟨x_p_w,x_p_wn,x_p_fu,⟨x_p_r0,x_p_r1,x_p_r2,x_p_r3⟩,x_p_ms,x_p_ls,x_p_is⟩,⟨⟨⟨x_c_r0,x_c_r1,x_c_r2,x_c_r3⟩,x_c_mm,x_c_st,x_c_pc⟩,x_c_bf,x_c_rb,x_c_en⟩,x_i,⟨x_e_pc,x_e_vl,x_e_ad,x_e_fr,x_e_nx,x_e_dn,x_e_kn,x_e_ft⟩,⟨x_s_k,x_s_o,x_s_d,⟨x_s_ag,x_s_an⟩,⟨x_s_bg,x_s_bn⟩,x_s_nm,x_s_tg⟩⟩:Spot).c.buf.length<1073741824)(hm:(⟨⟨x_p_w,x_p_wn,x_p_fu,⟨x_p_r0,x_p_r1,x_p_r2,x_p_r3⟩,x_p_ms,x_p_ls,x_p_is⟩,⟨⟨⟨x_c_r0,x_c_r1,x_c_r2,x_c_r3⟩,x_c_mm,x_c_st,x_c_pc⟩,x_c_bf,x_c_rb,x_c_en⟩,x_i,⟨x_e_pc,x_e_vl,x_e_ad,x_e_fr,x_e_nx,x_e_dn,x_e_kn,x_e_ft⟩,⟨x_s_k,x_s_o,x_s_d,⟨x_s_ag,x_s_an⟩,⟨x_s_bg,x_s_bn⟩,x_s_nm,x_s_tg⟩⟩:Spot).p.mems.length<1073741824)(A:List Blk)(nb:Nat)(us:List Nat):evOwnK false E (evC E fn (dp+8)) 61 A nb (some ([.agg [vi x_p_w,vi x_p_wn,vi x_p_fu,vi x_p_r0,vi x_p_r1,vi x_p_r2,vi x_p_r3,rowD x_p_ms,rowD x_p_ls,rowD x_p_is,vi x_c_r0,vi x_c_r1,vi x_c_r2,vi x_c_r3,rowD x_c_mm,rowD x_c_st,vi x_c_pc,rowD x_c_bf,rowD x_c_rb,vi x_c_en,vi x_i,vi x_e_pc,vi x_e_vl,vi x_e_ad,vi x_e_fr,vi x_e_nx,vb x_e_dn,vb x_e_kn,vb x_e_ft,vi x_s_k,vi x_s_o,vi x_s_d,vb x_s_ag,vi x_s_an,vb x_s_bg,vi x_s_bn,vt x_s_nm,vi x_s_tg]],us))=some (.made (.d (vb (readyX (⟨⟨x_p_w,x_p_wn,x_p_fu,⟨x_p_r0,x_p_r1,x_p_r2,x_p_r3⟩,x_p_ms,x_p_ls,x_p_is⟩,⟨⟨⟨x_c_r0,x_c_r1,x_c_r2,x_c_r3⟩,x_c_mm,x_c_st,x_c_pc⟩,x_c_bf,x_c_rb,x_c_en⟩,x_i,⟨x_e_pc,x_e_vl,x_e_ad,x_e_fr,x_e_nx,x_e_dn,x_e_kn,x_e_ft⟩,⟨x_s_k,x_s_o,x_s_d,⟨x_s_ag,x_s_an⟩,⟨x_s_bg,x_s_bn⟩,x_s_nm,x_s_tg⟩⟩:Spot)))) []):=
 Says.flat (raw_exec_spot_ready S dp (⟨⟨x_p_w,x_p_wn,x_p_fu,⟨x_p_r0,x_p_r1,x_p_r2,x_p_r3⟩,x_p_ms,x_p_ls,x_p_is⟩,⟨⟨⟨x_c_r0,x_c_r1,x_c_r2,x_c_r3⟩,x_c_mm,x_c_st,x_c_pc⟩,x_c_bf,x_c_rb,x_c_en⟩,x_i,⟨x_e_pc,x_e_vl,x_e_ad,x_e_fr,x_e_nx,x_e_dn,x_e_kn,x_e_ft⟩,⟨x_s_k,x_s_o,x_s_d,⟨x_s_ag,x_s_an⟩,⟨x_s_bg,x_s_bn⟩,x_s_nm,x_s_tg⟩⟩:Spot) hl hm) (np S 61 (by decide)) (rfl) A nb us
theorem raw_exec_Can (dp:Nat)(p:Prog)(c:Conf)(i:Int)(hl:c.buf.length<1073741824)(hm:p.mems.length<1073741824):Says E fn (dp+9) 32 [progD p,confD c,vi i] (vb (Md.can (cellsI p.mems) p c i)):=by
 unfold Says
 show ansOf (evC E fn (dp+8+1) 32 [.d (progD p),.d (confD c),.d (vi i)] [])=_
 rw[evC_succ,S.f_exec_Can,apF_some,F_exec_Can,mkF_run _ _ _ _ _ _ _ _ rfl]
 cases ho:Md.openM p c i with
 | false=>simp only[eG,go_sem,thq S,nbr S,zN0,zN1,zN2,zN3,zN4,zI0,zI1,zI2,zI3,reduceCtorEq,c_exec_at S,hl,ho,Md.can]
 | true=>
  have e:readyX (spotOf p c i)=Md.ready (cellsI p.mems) p c i (Md.insM p c i) (Md.valM p c i (Md.insM p c i).a) (Md.valM p c i (Md.insM p c i).b) (Md.regM p c i (Md.insM p c i).d):=rfl
  cases hd:(Md.entAt c.buf i).done with
  | true=>simp only[eG,go_sem,thq S,nbr S,zN0,zN1,zN2,zN3,zN4,zI0,zI1,zI2,zI3,reduceCtorEq,c_exec_at S,hl,ho,spotOf,hd,Bool.not_true,Md.can]
  | false=>
   have hd':(spotOf p c i).e.done=false:=hd
   have e2:readyX { p:=(spotOf p c i).p,c:=(spotOf p c i).c,i:=(spotOf p c i).i,e:={ pc:=(spotOf p c i).e.pc,val:=(spotOf p c i).e.val,addr:=(spotOf p c i).e.addr,frm:=(spotOf p c i).e.frm,next:=(spotOf p c i).e.next,done:=false,known:=(spotOf p c i).e.known,fault:=(spotOf p c i).e.fault },s:=(spotOf p c i).s }=Md.ready (cellsI p.mems) p c i (Md.insM p c i) (Md.valM p c i (Md.insM p c i).a) (Md.valM p c i (Md.insM p c i).b) (Md.regM p c i (Md.insM p c i).d):=by rw[<-hd'];exact e
   simp only[eG,go_sem,thq S,nbr S,zN0,zN1,zN2,zN3,zN4,zI0,zI1,zI2,zI3,reduceCtorEq,c_exec_at S,hl,ho,hd',Bool.not_false,c_exec_spot_ready S,show(spotOf p c i).c.buf.length<1073741824 from hl,show(spotOf p c i).p.mems.length<1073741824 from hm,e2,Md.can,hd]
theorem c_exec_Can (dp:Nat)(p_w p_wn p_fu p_r0 p_r1 p_r2 p_r3:Int)(p_ms:List MemT)(p_ls:List Label)(p_is:List Ins)(c_r0 c_r1 c_r2 c_r3:Int)(c_mm c_st:List Int)(c_pc:Int)(c_bf:List Ent)(c_rb:List Int)(c_en i:Int)(hl:(⟨⟨⟨c_r0,c_r1,c_r2,c_r3⟩,c_mm,c_st,c_pc⟩,c_bf,c_rb,c_en⟩:Conf).buf.length<1073741824)(hm:(⟨p_w,p_wn,p_fu,⟨p_r0,p_r1,p_r2,p_r3⟩,p_ms,p_ls,p_is⟩:Prog).mems.length<1073741824)(A:List Blk)(nb:Nat)(us:List Nat):evOwnK false E (evC E fn (dp+9)) 32 A nb (some ([.agg [vi p_w,vi p_wn,vi p_fu,vi p_r0,vi p_r1,vi p_r2,vi p_r3,rowD p_ms,rowD p_ls,rowD p_is],.agg [vi c_r0,vi c_r1,vi c_r2,vi c_r3,rowD c_mm,rowD c_st,vi c_pc,rowD c_bf,rowD c_rb,vi c_en],vi i],us))=some (.made (.d (vb (Md.can (cellsI (⟨p_w,p_wn,p_fu,⟨p_r0,p_r1,p_r2,p_r3⟩,p_ms,p_ls,p_is⟩:Prog).mems) (⟨p_w,p_wn,p_fu,⟨p_r0,p_r1,p_r2,p_r3⟩,p_ms,p_ls,p_is⟩:Prog) (⟨⟨⟨c_r0,c_r1,c_r2,c_r3⟩,c_mm,c_st,c_pc⟩,c_bf,c_rb,c_en⟩:Conf) i))) []):=
 Says.flat (raw_exec_Can S dp (⟨p_w,p_wn,p_fu,⟨p_r0,p_r1,p_r2,p_r3⟩,p_ms,p_ls,p_is⟩:Prog) (⟨⟨⟨c_r0,c_r1,c_r2,c_r3⟩,c_mm,c_st,c_pc⟩,c_bf,c_rb,c_en⟩:Conf) i hl hm) (np S 32 (by decide)) (rfl) A nb us
theorem raw_exec_spot_put (dp:Nat)(x:Spot)(e:Ent)(hm:x.c.state.mem.length<1073741824)(hs:x.c.state.stack.length<1073741824)(hl:x.c.buf.length<1073741824)(hr:x.c.rsb.length<1073741824)(h0:0<=x.i)(h1:x.i<x.c.buf.length):Says E fn (dp+3) 70 [spotD x,.agg (Cl.cells e)] (confD (Md.put x.c x.i e)):=by
 unfold Says
 show ansOf (evC E fn (dp+2+1) 70 [.d (spotD x),.d (.agg (Cl.cells e))] [])=_
 rw[evC_succ,S.f_exec_spot_put,apF_some,F_exec_spot_put,mkF_run _ _ _ _ _ _ _ _ rfl]
 simp only[eG,go_sem,thq S,nbr S,zN0,zN1,zN2,zN3,zN4,zI0,zI1,zI2,zI3,reduceCtorEq,c_conf_Still S,hm,hs,hl,hr,c_robq_Put S,h0,h1,Md.put]
theorem c_exec_spot_put (dp:Nat)(x_p_w x_p_wn x_p_fu x_p_r0 x_p_r1 x_p_r2 x_p_r3:Int)(x_p_ms:List MemT)(x_p_ls:List Label)(x_p_is:List Ins)(x_c_r0 x_c_r1 x_c_r2 x_c_r3:Int)(x_c_mm x_c_st:List Int)(x_c_pc:Int)(x_c_bf:List Ent)(x_c_rb:List Int)(x_c_en x_i x_e_pc x_e_vl x_e_ad x_e_fr x_e_nx:Int)(x_e_dn x_e_kn x_e_ft:Bool)(x_s_k x_s_o x_s_d:Int)(x_s_ag:Bool)(x_s_an:Int)(x_s_bg:Bool)(x_s_bn:Int)(x_s_nm:ByteArray)(x_s_tg e_pc e_vl e_ad e_fr e_nx:Int)(e_dn e_kn e_ft:Bool)(hm:(⟨⟨x_p_w,x_p_wn,x_p_fu,⟨x_p_r0,x_p_r1,x_p_r2,x_p_r3⟩,x_p_ms,x_p_ls,x_p_is⟩,⟨⟨⟨x_c_r0,x_c_r1,x_c_r2,x_c_r3⟩,x_c_mm,x_c_st,x_c_pc⟩,x_c_bf,x_c_rb,x_c_en⟩,x_i,⟨x_e_pc,x_e_vl,x_e_ad,x_e_fr,x_e_nx,x_e_dn,x_e_kn,x_e_ft⟩,⟨x_s_k,x_s_o,x_s_d,⟨x_s_ag,x_s_an⟩,⟨x_s_bg,x_s_bn⟩,x_s_nm,x_s_tg⟩⟩:Spot).c.state.mem.length<1073741824)(hs:(⟨⟨x_p_w,x_p_wn,x_p_fu,⟨x_p_r0,x_p_r1,x_p_r2,x_p_r3⟩,x_p_ms,x_p_ls,x_p_is⟩,⟨⟨⟨x_c_r0,x_c_r1,x_c_r2,x_c_r3⟩,x_c_mm,x_c_st,x_c_pc⟩,x_c_bf,x_c_rb,x_c_en⟩,x_i,⟨x_e_pc,x_e_vl,x_e_ad,x_e_fr,x_e_nx,x_e_dn,x_e_kn,x_e_ft⟩,⟨x_s_k,x_s_o,x_s_d,⟨x_s_ag,x_s_an⟩,⟨x_s_bg,x_s_bn⟩,x_s_nm,x_s_tg⟩⟩:Spot).c.state.stack.length<1073741824)(hl:(⟨⟨x_p_w,x_p_wn,x_p_fu,⟨x_p_r0,x_p_r1,x_p_r2,x_p_r3⟩,x_p_ms,x_p_ls,x_p_is⟩,⟨⟨⟨x_c_r0,x_c_r1,x_c_r2,x_c_r3⟩,x_c_mm,x_c_st,x_c_pc⟩,x_c_bf,x_c_rb,x_c_en⟩,x_i,⟨x_e_pc,x_e_vl,x_e_ad,x_e_fr,x_e_nx,x_e_dn,x_e_kn,x_e_ft⟩,⟨x_s_k,x_s_o,x_s_d,⟨x_s_ag,x_s_an⟩,⟨x_s_bg,x_s_bn⟩,x_s_nm,x_s_tg⟩⟩:Spot).c.buf.length<1073741824)(hr:(⟨⟨x_p_w,x_p_wn,x_p_fu,⟨x_p_r0,x_p_r1,x_p_r2,x_p_r3⟩,x_p_ms,x_p_ls,x_p_is⟩,⟨⟨⟨x_c_r0,x_c_r1,x_c_r2,x_c_r3⟩,x_c_mm,x_c_st,x_c_pc⟩,x_c_bf,x_c_rb,x_c_en⟩,x_i,⟨x_e_pc,x_e_vl,x_e_ad,x_e_fr,x_e_nx,x_e_dn,x_e_kn,x_e_ft⟩,⟨x_s_k,x_s_o,x_s_d,⟨x_s_ag,x_s_an⟩,⟨x_s_bg,x_s_bn⟩,x_s_nm,x_s_tg⟩⟩:Spot).c.rsb.length<1073741824)(h0:0<=(⟨⟨x_p_w,x_p_wn,x_p_fu,⟨x_p_r0,x_p_r1,x_p_r2,x_p_r3⟩,x_p_ms,x_p_ls,x_p_is⟩,⟨⟨⟨x_c_r0,x_c_r1,x_c_r2,x_c_r3⟩,x_c_mm,x_c_st,x_c_pc⟩,x_c_bf,x_c_rb,x_c_en⟩,x_i,⟨x_e_pc,x_e_vl,x_e_ad,x_e_fr,x_e_nx,x_e_dn,x_e_kn,x_e_ft⟩,⟨x_s_k,x_s_o,x_s_d,⟨x_s_ag,x_s_an⟩,⟨x_s_bg,x_s_bn⟩,x_s_nm,x_s_tg⟩⟩:Spot).i)(h1:(⟨⟨x_p_w,x_p_wn,x_p_fu,⟨x_p_r0,x_p_r1,x_p_r2,x_p_r3⟩,x_p_ms,x_p_ls,x_p_is⟩,⟨⟨⟨x_c_r0,x_c_r1,x_c_r2,x_c_r3⟩,x_c_mm,x_c_st,x_c_pc⟩,x_c_bf,x_c_rb,x_c_en⟩,x_i,⟨x_e_pc,x_e_vl,x_e_ad,x_e_fr,x_e_nx,x_e_dn,x_e_kn,x_e_ft⟩,⟨x_s_k,x_s_o,x_s_d,⟨x_s_ag,x_s_an⟩,⟨x_s_bg,x_s_bn⟩,x_s_nm,x_s_tg⟩⟩:Spot).i<(⟨⟨x_p_w,x_p_wn,x_p_fu,⟨x_p_r0,x_p_r1,x_p_r2,x_p_r3⟩,x_p_ms,x_p_ls,x_p_is⟩,⟨⟨⟨x_c_r0,x_c_r1,x_c_r2,x_c_r3⟩,x_c_mm,x_c_st,x_c_pc⟩,x_c_bf,x_c_rb,x_c_en⟩,x_i,⟨x_e_pc,x_e_vl,x_e_ad,x_e_fr,x_e_nx,x_e_dn,x_e_kn,x_e_ft⟩,⟨x_s_k,x_s_o,x_s_d,⟨x_s_ag,x_s_an⟩,⟨x_s_bg,x_s_bn⟩,x_s_nm,x_s_tg⟩⟩:Spot).c.buf.length)(A:List Blk)(nb:Nat):evOwnK false E (evC E fn (dp+3)) 70 A nb (some ([.agg [vi x_p_w,vi x_p_wn,vi x_p_fu,vi x_p_r0,vi x_p_r1,vi x_p_r2,vi x_p_r3,rowD x_p_ms,rowD x_p_ls,rowD x_p_is,vi x_c_r0,vi x_c_r1,vi x_c_r2,vi x_c_r3,rowD x_c_mm,rowD x_c_st,vi x_c_pc,rowD x_c_bf,rowD x_c_rb,vi x_c_en,vi x_i,vi x_e_pc,vi x_e_vl,vi x_e_ad,vi x_e_fr,vi x_e_nx,vb x_e_dn,vb x_e_kn,vb x_e_ft,vi x_s_k,vi x_s_o,vi x_s_d,vb x_s_ag,vi x_s_an,vb x_s_bg,vi x_s_bn,vt x_s_nm,vi x_s_tg],.agg [vi e_pc,vi e_vl,vi e_ad,vi e_fr,vi e_nx,vb e_dn,vb e_kn,vb e_ft]],[]))=some (.made (.d (confD (Md.put (⟨⟨x_p_w,x_p_wn,x_p_fu,⟨x_p_r0,x_p_r1,x_p_r2,x_p_r3⟩,x_p_ms,x_p_ls,x_p_is⟩,⟨⟨⟨x_c_r0,x_c_r1,x_c_r2,x_c_r3⟩,x_c_mm,x_c_st,x_c_pc⟩,x_c_bf,x_c_rb,x_c_en⟩,x_i,⟨x_e_pc,x_e_vl,x_e_ad,x_e_fr,x_e_nx,x_e_dn,x_e_kn,x_e_ft⟩,⟨x_s_k,x_s_o,x_s_d,⟨x_s_ag,x_s_an⟩,⟨x_s_bg,x_s_bn⟩,x_s_nm,x_s_tg⟩⟩:Spot).c (⟨⟨x_p_w,x_p_wn,x_p_fu,⟨x_p_r0,x_p_r1,x_p_r2,x_p_r3⟩,x_p_ms,x_p_ls,x_p_is⟩,⟨⟨⟨x_c_r0,x_c_r1,x_c_r2,x_c_r3⟩,x_c_mm,x_c_st,x_c_pc⟩,x_c_bf,x_c_rb,x_c_en⟩,x_i,⟨x_e_pc,x_e_vl,x_e_ad,x_e_fr,x_e_nx,x_e_dn,x_e_kn,x_e_ft⟩,⟨x_s_k,x_s_o,x_s_d,⟨x_s_ag,x_s_an⟩,⟨x_s_bg,x_s_bn⟩,x_s_nm,x_s_tg⟩⟩:Spot).i (⟨e_pc,e_vl,e_ad,e_fr,e_nx,e_dn,e_kn,e_ft⟩:Ent)))) []):=
 Says.deep (raw_exec_spot_put S dp (⟨⟨x_p_w,x_p_wn,x_p_fu,⟨x_p_r0,x_p_r1,x_p_r2,x_p_r3⟩,x_p_ms,x_p_ls,x_p_is⟩,⟨⟨⟨x_c_r0,x_c_r1,x_c_r2,x_c_r3⟩,x_c_mm,x_c_st,x_c_pc⟩,x_c_bf,x_c_rb,x_c_en⟩,x_i,⟨x_e_pc,x_e_vl,x_e_ad,x_e_fr,x_e_nx,x_e_dn,x_e_kn,x_e_ft⟩,⟨x_s_k,x_s_o,x_s_d,⟨x_s_ag,x_s_an⟩,⟨x_s_bg,x_s_bn⟩,x_s_nm,x_s_tg⟩⟩:Spot) (⟨e_pc,e_vl,e_ad,e_fr,e_nx,e_dn,e_kn,e_ft⟩:Ent) hm hs hl hr h0 h1) (np S 70 (by decide)) A nb
end
section
variable (S:Sur E fn)
include S
theorem o102_17:E.lives 102 1=none/\E.lives 102 17=none/\E.lives 102 19=none/\E.lives 102 25=none/\E.lives 102 27=none:=⟨off S 102 1 (by decide) rfl,off S 102 17 (by decide) rfl,off S 102 19 (by decide) rfl,off S 102 25 (by decide) rfl,off S 102 27 (by decide) rfl⟩
theorem c_realEnd {l:List Int}(h:l.length<1073741824)(call:CallT)(A:List Blk)(nb:Nat)(us:List Nat):evOwnK true E call 81 A nb (some ([.lst (rowC l) l.length none],us))=some (.made (ownA nb l) (ownB l)):=o_cloneI S h call A nb us
theorem loop_pRealB (dp:Nat)(p:Prog)(l:List Ent)(hl:l.length<1073741824)(kx:Nat->K)
  (hx:∀ T out junk k,getS .bot T 10=.sref 1 0 0 (out:List Int).length 1 k->(out:List Int).length<1073741824->ansOf (kx 0 (mk .bot 52 T) [.cells ((progC p).map .d) 0 false,.cells ((rowC (out++junk)).map .d) 0 false])=some (resR (some out))):
  ∀(m k fuel:Nat) (out junk:List Int),k+m=l.length->m<=fuel->out.length<1073741824->ansOf (B8_retb_Real (inn E 102) (evC E fn (dp+1)) (loopK 8 B8_retb_Real (inn E 102) (evC E fn (dp+1)) kx (kEnd 0 [.tmp 8,.tmp 9]) fuel) kx (kEnd 0 [.tmp 8,.tmp 9])
   (mk .bot 52 [(4,.ref 0 0 0),(10,.sref 1 0 0 out.length 1 none),(17,.d (rowD l)),(18,aint l.length),(19,aint k)]) [.cells ((progC p).map .d) 0 false,.cells ((rowC (out++junk)).map .d) 0 false])=
   some (resR (Md.realGo p (l.drop k) out)):=by
 intro m
 induction m with
 | zero=>
  intro k fuel out junk hk _ ho
  generalize loopK 8 B8_retb_Real _ _ kx _ fuel=KK
  rw[B8_retb_Real,List.drop_of_length_le (by omega)]
  simp only[eG,go_sem,thq S,nbr S,zN0,zN1,zN2,zN3,zN4,zI0,zI1,zI2,zI3,reduceCtorEq,o102_17 S,show ¬(k:Int)<l.length by omega,Md.realGo]
  exact hx _ _ _ none rfl ho
 | succ m ih=>
  intro k fuel out junk hk hf ho
  obtain⟨e,he⟩:=get_of (show k<l.length by omega)
  obtain⟨fuel,rfl⟩:∃ m,fuel=m+1:=⟨fuel-1,by omega⟩
  generalize hK:loopK 8 B8_retb_Real _ _ kx _ (fuel+1)=KK
  rw[B8_retb_Real,drop_get he,Md.realGo]
  have h2:(k:Int)<l.length:=by omega
  by_cases k8:(Md.at_ p e.pc).kind=8
  ·by_cases h4 : 4 <= out.length
   ·simp only[eG,go_sem,thq S,nbr S,zN0,zN1,zN2,zN3,zN4,zI0,zI1,zI2,zI3,reduceCtorEq,o102_17 S,w_ix he,c_seqm_At S,wi k (by omega),h2,ge_iff_le,k8,h4,show(4:Int)<=out.length by omega,resR]
   ·have l1 : (out.length + 1) * 8 <= limA := by unfold limA; omega
    have l2:out.length+1<=limA:=by unfold limA;omega
    cases junk with
    | nil=>
     simp only[List.append_nil]
     simp only[eG,go_sem,thq S,nbr S,zN0,zN1,zN2,zN3,zN4,zI0,zI1,zI2,zI3,reduceCtorEq,o102_17 S,w_ix he,c_seqm_At S,wi k (by omega),h2,ge_iff_le,k8,h4,show ¬(4:Int)<=out.length by omega,rep1',app_endI,l1,l2]
     rw[<-hK,loop_in (on S _ _ [4,10,17,18,19] (by decide) rfl) rfl _ _ _ _ _ _ _ _ _ rfl]
     simp only[eG,go_sem,thq S,nbr S,zN0,zN1,zN2,zN3,zN4,zI0,zI1,zI2,zI3,reduceCtorEq,o102_17 S,w_ix he,c_seqm_At S,wi k (by omega),h2,ge_iff_le]
     have e1:out.length+1=(out++[Md.w64 (e.pc+1)]).length:=by simp
     have:=ih (k+1) fuel (out++[Md.w64 (e.pc+1)]) [] (by omega) (by omega) (by simp;omega)
     rw[<-e1,List.append_nil] at this
     exact this
    | cons y junk=>
     simp only[eG,go_sem,thq S,nbr S,zN0,zN1,zN2,zN3,zN4,zI0,zI1,zI2,zI3,reduceCtorEq,o102_17 S,w_ix he,c_seqm_At S,wi k (by omega),h2,ge_iff_le,k8,h4,show ¬(4:Int)<=out.length by omega,rep1',app_inI (y:=y) (junk:=junk),l1,l2]
     rw[<-hK,loop_in (on S _ _ [4,10,17,18,19] (by decide) rfl) rfl _ _ _ _ _ _ _ _ _ rfl]
     simp only[eG,go_sem,thq S,nbr S,zN0,zN1,zN2,zN3,zN4,zI0,zI1,zI2,zI3,reduceCtorEq,o102_17 S,w_ix he,c_seqm_At S,wi k (by omega),h2,ge_iff_le]
     have e1:out.length+1=(out++[Md.w64 (e.pc+1)]).length:=by simp
     have:=ih (k+1) fuel (out++[Md.w64 (e.pc+1)]) junk (by omega) (by omega) (by simp;omega)
     rw[<-e1,List.append_assoc] at this
     exact this
  ·by_cases k9 : (Md.at_ p e.pc).kind = 9
   ·cases hr : out.reverse with
    | nil=>
     have:out=[]:=List.reverse_eq_nil_iff.1 hr
     subst this
     simp only[eG,go_sem,thq S,nbr S,zN0,zN1,zN2,zN3,zN4,zI0,zI1,zI2,zI3,reduceCtorEq,o102_17 S,w_ix he,c_seqm_At S,wi k (by omega),h2,ge_iff_le,k8,k9,List.length_nil,resR,zI0,Int.natCast_eq_zero]
    | cons y r=>
     have e0:out=r.reverse++[y]:=by rw[<-List.reverse_reverse out,hr,List.reverse_cons]
     subst e0
     have e1:(r.reverse++[y]).dropLast=r.reverse:=List.dropLast_concat
     have e2:(r.reverse++[y]).length=r.reverse.length+1:=by simp
     have w1:IntKind.i64.wrap (((r.reverse.length+1:Nat):Int)-1)=(r.reverse.length:Int):=by rw[e2] at ho;rw[wrap_i64 (by omega) (by omega)];omega
     have bd:=bndsV_hi (r.reverse.length+1) .i64 (r.reverse.length:Int) (by omega) (by omega)
     rw[e2,e1]
     simp only[eG,go_sem,thq S,nbr S,zN0,zN1,zN2,zN3,zN4,zI0,zI1,zI2,zI3,reduceCtorEq,o102_17 S,w_ix he,c_seqm_At S,wi k (by omega),h2,ge_iff_le,k8,k9,w1,bd,Int.toNat_natCast,Nat.succ_ne_zero,Int.natCast_eq_zero,ne_eq,not_true_eq_false,and_false,Nat.zero_mul,Nat.sub_zero,Nat.add_zero,Nat.zero_add]
     rw[<-hK,loop_in (on S _ _ [4,10,17,18,19] (by decide) rfl) rfl _ _ _ _ _ _ _ _ _ rfl]
     simp only[eG,go_sem,thq S,nbr S,zN0,zN1,zN2,zN3,zN4,zI0,zI1,zI2,zI3,reduceCtorEq,o102_17 S,w_ix he,c_seqm_At S,wi k (by omega),h2,ge_iff_le]
     have:=ih (k+1) fuel r.reverse ([y]++junk) (by omega) (by omega) (by omega)
     rw[<-List.append_assoc] at this
     exact this
   ·simp only [eG, go_sem, thq S, nbr S, zN0, zN1, zN2, zN3, zN4, zI0, zI1, zI2, zI3, reduceCtorEq, o102_17 S, w_ix he, c_seqm_At S, wi k (by omega), h2, ge_iff_le, k8, k9]
    rw[<-hK,loop_in (on S _ _ [4,10,17,18,19] (by decide) rfl) rfl _ _ _ _ _ _ _ _ _ rfl]
    simp only[eG,go_sem,thq S,nbr S,zN0,zN1,zN2,zN3,zN4,zI0,zI1,zI2,zI3,reduceCtorEq,o102_17 S,w_ix he,c_seqm_At S,wi k (by omega),h2,ge_iff_le]
    exact ih (k+1) fuel out junk (by omega) (by omega) ho
theorem loop_pRealA (dp:Nat)(p:Prog)(l:List Ent)(hl:l.length<1073741824)(kx:Nat->K)
  (hx:∀ T out junk k,getS .bot T 10=.sref 1 0 0 (out:List Int).length 1 k->(out:List Int).length<1073741824->ansOf (kx 0 (mk .bot 52 T) [.cells ((progC p).map .d) 0 false,.cells ((rowC (out++junk)).map .d) 0 false])=some (resR (some out)))
  (hx0:∀ T,getS .bot T 10=.d (.lst [] 0 (some 0))->ansOf (kx 0 (mk .bot 52 T) [.cells ((progC p).map .d) 0 false])=some (resR (some []))):
  ∀(m k fuel:Nat),k+m=l.length->m<=fuel->ansOf (B8_retb_Real (inn E 102) (evC E fn (dp+1)) (loopK 8 B8_retb_Real (inn E 102) (evC E fn (dp+1)) kx (kEnd 0 [.tmp 8,.tmp 9]) fuel) kx (kEnd 0 [.tmp 8,.tmp 9])
   (mk .bot 52 [(4,.ref 0 0 0),(10,.d (.lst [] 0 (some 0))),(17,.d (rowD l)),(18,aint l.length),(19,aint k)]) [.cells ((progC p).map .d) 0 false])=
   some (resR (Md.realGo p (l.drop k) [])):=by
 intro m
 induction m with
 | zero=>
  intro k fuel hk _
  generalize loopK 8 B8_retb_Real _ _ kx _ fuel=KK
  rw[B8_retb_Real,List.drop_of_length_le (by omega)]
  simp only[eG,go_sem,thq S,nbr S,zN0,zN1,zN2,zN3,zN4,zI0,zI1,zI2,zI3,reduceCtorEq,o102_17 S,show ¬(k:Int)<l.length by omega,Md.realGo]
  exact hx0 _ rfl
 | succ m ih=>
  intro k fuel hk hf
  obtain⟨e,he⟩:=get_of (show k<l.length by omega)
  obtain⟨fuel,rfl⟩:∃ m,fuel=m+1:=⟨fuel-1,by omega⟩
  generalize hK:loopK 8 B8_retb_Real _ _ kx _ (fuel+1)=KK
  rw[B8_retb_Real,drop_get he,Md.realGo]
  have h2:(k:Int)<l.length:=by omega
  by_cases k8:(Md.at_ p e.pc).kind=8
  ·simp only [eG, go_sem, thq S, nbr S, zN0, zN1, zN2, zN3, zN4, zI0, zI1, zI2, zI3, reduceCtorEq, o102_17 S, w_ix he, c_seqm_At S, wi k (by omega), h2, ge_iff_le, k8, List.length_nil, show ¬ (4 : Int) <= (0 : Nat) by omega, rep1', Nat.zero_add, Nat.zero_mul, Nat.lt_add_one, true_and, show (1 : Nat) * 8 <= limA by decide, show (1 : Nat) <= limA by decide, and_self]
   rw[<-hK,loop_in (on S _ _ [4,10,17,18,19] (by decide) rfl) rfl _ _ _ _ _ _ _ _ _ rfl]
   simp only[eG,go_sem,thq S,nbr S,zN0,zN1,zN2,zN3,zN4,zI0,zI1,zI2,zI3,reduceCtorEq,o102_17 S,w_ix he,c_seqm_At S,wi k (by omega),h2,ge_iff_le]
   exact loop_pRealB S dp p l hl kx hx m (k+1) fuel [Md.w64 (e.pc+1)] [] (by omega) (by omega) (by simp)
  ·by_cases k9 : (Md.at_ p e.pc).kind = 9
   ·simp only[eG,go_sem,thq S,nbr S,zN0,zN1,zN2,zN3,zN4,zI0,zI1,zI2,zI3,reduceCtorEq,o102_17 S,w_ix he,c_seqm_At S,wi k (by omega),h2,ge_iff_le,k8,k9,List.length_nil,resR,zI0,Int.natCast_eq_zero]
   ·simp only [eG, go_sem, thq S, nbr S, zN0, zN1, zN2, zN3, zN4, zI0, zI1, zI2, zI3, reduceCtorEq, o102_17 S, w_ix he, c_seqm_At S, wi k (by omega), h2, ge_iff_le, k8, k9]
    rw[<-hK,loop_in (on S _ _ [4,10,17,18,19] (by decide) rfl) rfl _ _ _ _ _ _ _ _ _ rfl]
    simp only[eG,go_sem,thq S,nbr S,zN0,zN1,zN2,zN3,zN4,zI0,zI1,zI2,zI3,reduceCtorEq,o102_17 S,w_ix he,c_seqm_At S,wi k (by omega),h2,ge_iff_le]
    exact ih (k+1) fuel (by omega) (by omega)
end
end Go.Aug.Mc
