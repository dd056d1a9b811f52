import Derived.Test.YtmfdoekbjkgckaaGreatMc12
namespace Go.Aug.Mc
open Go Go.Aug
open Nat renaming reduceLT -> zN0, reduceEqDiff -> zN1, reduceAdd -> zN2, reduceMul -> zN3, reduceLeDiff -> zN4
open Int renaming reduceEq -> zI0, reduceLT -> zI1, reduceLE -> zI2, reduceNeg -> zI3
set_option linter.unusedSimpArgs false
set_option linter.unusedVariables false
set_option maxHeartbeats 40000000
def Ux (Z:Option (AV×List Blk)):Option (List Int)->Prop
 | none=>Z=some (.tup [.d (.lst [] 0 (some 0)),YD false],[])
 | some out=>∃ junk k,Z=some (.tup [.sref 0 0 0 out.length 1 k,YD true],[.cells ((rC (out++junk)).map .d) 0 false])
theorem Z07 (Z:Option (AV×List Blk)):Ux Z none=(Z=some (.tup [.d (.lst [] 0 (some 0)),YD false],[])):=id rfl
theorem Z5m {Z:Option (AV×List Blk)}{out:List Int}(junk:List Int)(k:Option Nat)(h:Z=some (.tup [.sref 0 0 0 out.length 1 k,YD true],[.cells ((rC (out++junk)).map .d) 0 false])):Ux Z (some out):=⟨junk,k,h⟩
theorem Zbf {i:Nat}{out junk:List Int}{k:Option Nat}{A:List Blk}{b:Bool}(hA:A[i]? =some (.cells ((rC (out++junk)).map .d) 0 false)):
  DE 0 (some (.tup [.sref i 0 0 out.length 1 k,YD b],A))=some (.tup [.sref 0 0 0 out.length 1 k,YD b],[.cells ((rC (out++junk)).map .d) 0 false]):=by
 have hi:¬A.length<=i:=by
  intro h;rw[List.getElem?_eq_none h] at hA;cases hA
 simp only[eG,go_sem,PA,hA,hi,List.not_mem_nil,false_or,or_false,Nat.not_lt_zero,if_false]
variable {E:Env} {fn:FuncId->Option (Env->cT->cT)}
section
variable (S:Sur E fn)
include S
theorem Cj:E.lives 120 1=none/\E.lives 120 17=none/\E.lives 120 19=none/\E.lives 120 25=none/\E.lives 120 27=none:=⟨off S 120 1 (by decide) rfl,off S 120 17 (by decide) rfl,off S 120 19 (by decide) rfl,off S 120 25 (by decide) rfl,off S 120 27 (by decide) rfl⟩
theorem Z72 (dp:Nat)(p:Prog)(l:List Ent)(i:Int)(hl:l.length<1073741824)(kx:Nat->K)
  (hx:∀ T out junk k,ZT .bot T 10=.sref 1 0 0 (out:List Int).length 1 k->Ux (kx 0 (mk .bot 59 T) [.cells ((ZZ p).map .d) 0 false,.cells ((rC (out++junk)).map .d) 0 false]) (some out)):
  ∀(m k fuel:Nat) (out junk:List Int) (q:Option Nat),k+m=(Md.cut l i).length->m<=fuel->out.length<1073741824->(q=none∨q=some 0/\out=[]/\junk=[])->Ux (FX (Zq E 120) (Z4 E fn (dp+1)) (Zj 8 FX (Zq E 120) (Z4 E fn (dp+1)) kx (ZX 0 [.tmp 8,.tmp 9]) fuel) kx (ZX 0 [.tmp 8,.tmp 9])
   (mk .bot 59 [(2,.d (rD l)),(3,aI i),(4,.ref 0 0 0),(10,.sref 1 0 0 out.length 1 q),(11,aI k)]) [.cells ((ZZ p).map .d) 0 false,.cells ((rC (out++junk)).map .d) 0 false])
   (Md.Jq p ((Md.cut l i).drop k) out):=by
 intro m
 have hcl:(Md.cut l i).length=min i.toNat l.length:=by simp[Md.cut]
 induction m with
 | zero=>
  intro k fuel out junk q hk _ ho hq
  generalize Zj 8 FX _ _ kx _ fuel=KK
  rw[FX,List.drop_of_length_le (by omega)]
  by_cases h1:(k:Int)<i
  ·simp only [eG, go_sem, Z3 S, Z2 S, zN0, zN1, zN2, zN3, zN4, zI0, zI1, zI2, zI3, reduceCtorEq, Cj S, h1, show ¬ (k : Int) < l.length by omega, Md.Jq]
   exact hx _ _ _ q rfl
  ·simp only [eG, go_sem, Z3 S, Z2 S, zN0, zN1, zN2, zN3, zN4, zI0, zI1, zI2, zI3, reduceCtorEq, Cj S, h1, Md.Jq]
   exact hx _ _ _ q rfl
 | succ m ih=>
  intro k fuel out junk q hk hf ho hq
  obtain⟨e,he⟩:=YX (show k<l.length by omega)
  have hc:(Md.cut l i)[k]? =some e:=by unfold Md.cut;rw[List.getElem?_take,if_pos (by omega),he]
  obtain⟨fuel,rfl⟩:∃ m,fuel=m+1:=⟨fuel-1,by omega⟩
  generalize hK:Zj 8 FX _ _ kx _ (fuel+1)=KK
  rw[FX,JQ hc,Md.Jq]
  have h1:(k:Int)<i:=by omega
  have h2:(k:Int)<l.length:=by omega
  by_cases k8:(Md.at_ p e.pc).kind=8
  ·by_cases h4 : 4 <= out.length
   ·simp only[eG,go_sem,Z3 S,Z2 S,zN0,zN1,zN2,zN3,zN4,zI0,zI1,zI2,zI3,reduceCtorEq,Cj S,Zz he,ZV S,wi k (by omega),h1,h2,ge_iff_le,k8,h4,show(4:Int)<=out.length by omega,Z07]
   ·have l1 : (out.length + 1) * 8 <= Z5 := by unfold Z5; omega
    have l2:out.length+1<=Z5:=by unfold Z5;omega
    rcases hq with rfl | ⟨rfl,rfl,rfl⟩
    ·cases junk with
     | nil=>
      simp only[List.append_nil]
      simp only[eG,go_sem,Z3 S,Z2 S,zN0,zN1,zN2,zN3,zN4,zI0,zI1,zI2,zI3,reduceCtorEq,Cj S,Zz he,ZV S,wi k (by omega),h1,h2,ge_iff_le,k8,h4,show ¬(4:Int)<=out.length by omega,Z9,BX,l1,l2]
      rw[<-hK,Z8 (on S _ _ [2,3,4,10,11] (by decide) rfl) rfl _ _ _ _ _ _ _ _ _ rfl]
      simp only[eG,go_sem,Z3 S,Z2 S,zN0,zN1,zN2,zN3,zN4,zI0,zI1,zI2,zI3,reduceCtorEq,Cj S,Zz he,ZV S,wi k (by omega),h1,h2,ge_iff_le]
      have e1:out.length+1=(out++[Md.ZY (e.pc+1)]).length:=by simp
      have:=ih (k+1) fuel (out++[Md.ZY (e.pc+1)]) [] none (by omega) (by omega) (by simp;omega) (.inl rfl)
      rw[<-e1,List.append_nil] at this
      exact this
     | cons y junk=>
      simp only[eG,go_sem,Z3 S,Z2 S,zN0,zN1,zN2,zN3,zN4,zI0,zI1,zI2,zI3,reduceCtorEq,Cj S,Zz he,ZV S,wi k (by omega),h1,h2,ge_iff_le,k8,h4,show ¬(4:Int)<=out.length by omega,Z9,Z36 (y:=y) (junk:=junk),l1,l2]
      rw[<-hK,Z8 (on S _ _ [2,3,4,10,11] (by decide) rfl) rfl _ _ _ _ _ _ _ _ _ rfl]
      simp only[eG,go_sem,Z3 S,Z2 S,zN0,zN1,zN2,zN3,zN4,zI0,zI1,zI2,zI3,reduceCtorEq,Cj S,Zz he,ZV S,wi k (by omega),h1,h2,ge_iff_le]
      have e1:out.length+1=(out++[Md.ZY (e.pc+1)]).length:=by simp
      have:=ih (k+1) fuel (out++[Md.ZY (e.pc+1)]) junk none (by omega) (by omega) (by simp;omega) (.inl rfl)
      rw[<-e1,List.append_assoc] at this
      exact this
    ·simp only [eG, go_sem, Z3 S, Z2 S, zN0, zN1, zN2, zN3, zN4, zI0, zI1, zI2, zI3, reduceCtorEq, Cj S, Zz he, ZV S, wi k (by omega), h1, h2, ge_iff_le, k8, List.length_nil, show ¬ (4 : Int) <= (0 : Nat) by omega, Z9, E3 (cs := []), Nat.succ_ne_zero, show (1 : Nat) * 8 <= Z5 by decide, show (1 : Nat) <= Z5 by decide, ne_eq, not_false_eq_true]
     rw[<-hK,Z8 (on S _ _ [2,3,4,10,11] (by decide) rfl) rfl _ _ _ _ _ _ _ _ _ rfl]
     simp only[eG,go_sem,Z3 S,Z2 S,zN0,zN1,zN2,zN3,zN4,zI0,zI1,zI2,zI3,reduceCtorEq,Cj S,Zz he,ZV S,wi k (by omega),h1,h2,ge_iff_le]
     exact ih (k+1) fuel [Md.ZY (e.pc+1)] [] none (by omega) (by omega) (by simp) (.inl rfl)
  ·by_cases k9 : (Md.at_ p e.pc).kind = 9
   ·cases hr : out.reverse with
    | nil=>
     have:out=[]:=List.reverse_eq_nil_iff.1 hr
     subst this
     simp only[eG,go_sem,Z3 S,Z2 S,zN0,zN1,zN2,zN3,zN4,zI0,zI1,zI2,zI3,reduceCtorEq,Cj S,Zz he,ZV S,wi k (by omega),h1,h2,ge_iff_le,k8,k9,List.length_nil,Z07,zI0,Int.natCast_eq_zero]
    | cons y r=>
     have e0:out=r.reverse++[y]:=by rw[<-List.reverse_reverse out,hr,List.reverse_cons]
     subst e0
     have e1:(r.reverse++[y]).dropLast=r.reverse:=List.dropLast_concat
     have e2:(r.reverse++[y]).length=r.reverse.length+1:=by simp
     rcases hq with rfl | ⟨_,h,_⟩
     ·have w1 : IntKind.i64.wrap (((r.reverse.length + 1 : Nat) : Int) - 1) = (r.reverse.length : Int) := by rw [e2] at ho; rw [Q4 (by omega) (by omega)]; omega
      have bd:=H3 (r.reverse.length+1) .i64 (r.reverse.length:Int) (by omega) (by omega)
      rw[e2,e1]
      simp only[eG,go_sem,Z3 S,Z2 S,zN0,zN1,zN2,zN3,zN4,zI0,zI1,zI2,zI3,reduceCtorEq,Cj S,Zz he,ZV S,wi k (by omega),h1,h2,ge_iff_le,k8,k9,w1,bd,Int.toNat_natCast,Nat.succ_ne_zero,Int.natCast_eq_zero,ne_eq,not_true_eq_false,and_false,Nat.zero_mul,Nat.sub_zero,Nat.add_zero,Nat.zero_add]
      rw[<-hK,Z8 (on S _ _ [2,3,4,10,11] (by decide) rfl) rfl _ _ _ _ _ _ _ _ _ rfl]
      simp only[eG,go_sem,Z3 S,Z2 S,zN0,zN1,zN2,zN3,zN4,zI0,zI1,zI2,zI3,reduceCtorEq,Cj S,Zz he,ZV S,wi k (by omega),h1,h2,ge_iff_le]
      have:=ih (k+1) fuel r.reverse ([y]++junk) none (by omega) (by omega) (by omega) (.inl rfl)
      rw[<-List.append_assoc] at this
      exact this
     ·simp at h
   ·simp only [eG, go_sem, Z3 S, Z2 S, zN0, zN1, zN2, zN3, zN4, zI0, zI1, zI2, zI3, reduceCtorEq, Cj S, Zz he, ZV S, wi k (by omega), h1, h2, ge_iff_le, k8, k9]
    rw[<-hK,Z8 (on S _ _ [2,3,4,10,11] (by decide) rfl) rfl _ _ _ _ _ _ _ _ _ rfl]
    simp only[eG,go_sem,Z3 S,Z2 S,zN0,zN1,zN2,zN3,zN4,zI0,zI1,zI2,zI3,reduceCtorEq,Cj S,Zz he,ZV S,wi k (by omega),h1,h2,ge_iff_le]
    exact ih (k+1) fuel out junk q (by omega) (by omega) ho hq
theorem Z5o (dp:Nat)(p:Prog)(sk:List Int)(l:List Ent)(i:Int)(hl:l.length<1073741824)(hs:sk.length<1073741824):
  Ux (Z4 E fn (dp+2) 120 [.d (Zw p),.d (rD sk),.d (rD l),aI i] []) (Md.real p sk l i):=by
 rw[ZK,S.Z1r,ZM,Z3e,ZP _ _ _ _ _ _ _ _ rfl]
 by_cases h0:sk.length=0
 ·have : sk = [] := List.length_eq_zero_iff.1 h0
  subst this
  simp only[eG,go_sem,Z3 S,Z2 S,zN0,zN1,zN2,zN3,zN4,zI0,zI1,zI2,zI3,reduceCtorEq,Cj S,Q5]
  rw[Y9,Z8 (on S _ _ [2,3,4,10,11] (by decide) rfl) rfl _ _ _ _ _ _ _ _ _ rfl]
  simp only[eG,go_sem,Z3 S,Z2 S,zN0,zN1,zN2,zN3,zN4,zI0,zI1,zI2,zI3,reduceCtorEq,Cj S]
  refine Z72 S dp p l i hl _ ?_ (Md.cut l i).length 0 _ [] [] (some 0) (by omega) (by have:=K1 l i;omega) (by simp) (.inr ⟨rfl,rfl,rfl⟩)
  intro T out junk k h
  refine Z5m junk k ?_
  simp only[go_sem,Z3 S,Z2 S,zN0,zN1,zN2,zN3,zN4,zI0,zI1,zI2,zI3,reduceCtorEq,Cj S,h]
  exact Zbf rfl
 ·have l1 : sk.length * 8 <= Z5 := by unfold Z5; omega
  have l2:sk.length<=Z5:=by unfold Z5;omega
  have l3:(((rC sk).map AV.d).all AV.one)=true:=ME _
  simp only[eG,go_sem,Z3 S,Z2 S,zN0,zN1,zN2,zN3,zN4,zI0,zI1,zI2,zI3,reduceCtorEq,Cj S,Q5,E3 (cs:=[]),l1,l2,l3,ne_eq,h0,not_false_eq_true]
  rw[Y9,Z8 (on S _ _ [2,3,4,10,11] (by decide) rfl) rfl _ _ _ _ _ _ _ _ _ rfl]
  simp only[eG,go_sem,Z3 S,Z2 S,zN0,zN1,zN2,zN3,zN4,zI0,zI1,zI2,zI3,reduceCtorEq,Cj S]
  have:=Z72 S dp p l i hl (H4 0 (cQ (Z1 [st 58 (oV (.t 10)),st 8 (oV (.t 58)),st 9 (oV (.c (.v (.bool true))))]) cZ (Zq E 120) (Z4 E fn (dp+1)) (ZX 0 [.tmp 8,.tmp 9]) (fun _ _ _=>none) (ZX 0 [.tmp 8,.tmp 9])) (fun _ _ _=>none)) ?_ (Md.cut l i).length 0 999999999999999999999999999999 sk [] none (by omega) (by have:=K1 l i;omega) hs (.inl rfl)
  ·rw [List.append_nil] at this
   exact this
  intro T out junk k h
  refine Z5m junk k ?_
  simp only[go_sem,Z3 S,Z2 S,zN0,zN1,zN2,zN3,zN4,zI0,zI1,zI2,zI3,reduceCtorEq,Cj S,h]
  exact Zbf rfl
theorem Zms (dp:Nat)(p:Prog)(sk:List Int)(l:List Ent)(i:Int)(hl:l.length<1073741824)(hs:sk.length<1073741824)(h:Md.real p sk l i=none)(A:List Blk)(nb:Nat)(us:List Nat):
  ZH true E (Z4 E fn (dp+2)) 120 A nb (some ([Zw p,rD sk,rD l,vi i],us))=some (.made (.tup [.d (.lst [] 0 (some 0)),YD false]) []):=by
 have h1:=Z5o S dp p sk l i hl hs
 rw[h,Z07] at h1
 have hr:JN E (Z4 E fn (dp+2)) 120 [Zw p,rD sk,rD l,vi i]=some (.tup [.d (.lst [] 0 (some 0)),YD false],[]):=by
  unfold JN
  rw[np S 120 (by decide)]
  exact h1
 simp only[ZH,hr,F0,cond_true]
 show DS A us (some (.tup [.d (.lst [] 0 (some 0)),YD false],[],[]))=_
 show(bif B5 us || true then _ else _)=_
 rw[Bool.or_true];rfl
theorem Zmr (dp:Nat)(p:Prog)(sk:List Int)(l:List Ent)(i:Int)(hl:l.length<1073741824)(hs:sk.length<1073741824)(r:List Int)(h:Md.real p sk l i=some r):
  ∃ junk k,∀(A:List Blk) (nb:Nat) (us:List Nat),ZH true E (Z4 E fn (dp+2)) 120 A nb (some ([Zw p,rD sk,rD l,vi i],us))=some (.made (.tup [.sref nb 0 0 r.length 1 k,YD true]) [.cells ((rC (r++junk)).map .d) 0 false]):=by
 have h1:=Z5o S dp p sk l i hl hs
 rw[h] at h1
 obtain⟨junk,k,h1⟩:=h1
 refine⟨junk,k,fun A nb us=> ?_⟩
 have hr:JN E (Z4 E fn (dp+2)) 120 [Zw p,rD sk,rD l,vi i]=some (.tup [.sref 0 0 0 r.length 1 k,YD true],[.cells ((rC (r++junk)).map .d) 0 false]):=by
  unfold JN
  rw[np S 120 (by decide)]
  exact h1
 simp only[ZH,hr,F0,cond_true]
 have ht:Av [.cells ((rC (r++junk)).map .d) 0 false] nb 6 (.tup [.sref 0 0 0 r.length 1 k,YD true]) [] []=some (.tup [.sref nb 0 0 r.length 1 k,YD true],[.cells ((rC (r++junk)).map .d) 0 false],[0]):=by
  simp[Av,DY,Yj]
 rw[ht]
 have hf:G3 [.cells ((rC (r++junk)).map .d) 0 false]=true:=by
  show(((rC (r++junk)).map AV.d).all _&&true)=true
  rw[Bool.and_true,List.all_map]
  exact UW (r++junk)
 show(bif B5 us || (true&&G3 [.cells ((rC (r++junk)).map .d) 0 false]) then _ else _)=_
 rw[hf,Bool.and_true,Bool.or_true]
 rfl
end
def KC (p:Prog):Nat->List Ent->Int
 | _,[]=> -1
 | k,e::l=>bif Md.FJ p e then(k:Int) else KC p (k+1) l
theorem Z7p (p:Prog):∀(l:List Ent) (k:Nat),decide (KC p k l>=0)=l.any (Md.FJ p)
 | [],_=>rfl
 | e::l,k=>by
  rw[KC,List.any_cons]
  cases h:Md.FJ p e with
  | true=>simp
  | false=>
   rw[cond_false,Bool.false_or]
   exact Z7p p l (k+1)
variable {E:Env} {fn:FuncId->Option (Env->cT->cT)}
section
variable (S:Sur E fn)
include S
theorem P3:E.lives 148 7=none/\E.lives 148 17=none/\E.lives 148 19=none:=⟨off S 148 7 (by decide) rfl,off S 148 17 (by decide) rfl,off S 148 19 (by decide) rfl⟩
theorem Zn0:E.lives 133 7=none:=off S 133 7 (by decide) rfl
theorem P2:E.lives 154 1=none/\E.lives 154 13=none:=⟨off S 154 1 (by decide) rfl,off S 154 13 (by decide) rfl⟩
theorem Zj2 (dp:Nat)(p:Prog)(of:Regs)(l:List Ent)(i r:Int)(hl:l.length<1073741824):Z6 E fn (dp+3) 148 [Zw p,.agg (CX of),rD l,vi i,vi r] (.tup [vi (Md.reg p of l i r).1,vb (Md.reg p of l i r).2]):=by
 unfold Z6
 show Zk (Z4 E fn (dp+2+1) 148 [.d (Zw p),.d (.agg (CX of)),.d (rD l),.d (vi i),.d (vi r)] [])=_
 rw[ZK,S.Z94,ZM,Zed,ZP _ _ _ _ _ _ _ _ rfl]
 have hcl:=K1 l i
 by_cases h:r<0
 ·simp only[eG,go_sem,Z3 S,Z2 S,zN0,zN1,zN2,zN3,zN4,zI0,zI1,zI2,zI3,reduceCtorEq,P3 S,h,Md.reg]
 by_cases h2:r>=4
 ·simp only[eG,go_sem,Z3 S,Z2 S,zN0,zN1,zN2,zN3,zN4,zI0,zI1,zI2,zI3,reduceCtorEq,P3 S,h,h2,Md.reg,show 4<=r by omega]
 ·have e1 : (Md.cut l i).take (Md.cut l i).length = Md.cut l i := List.take_of_length_le (by omega)
  have e:Md.reg p of l i r=Md.E6 p r (Md.Bw of r) ((Md.cut l i).take (Md.cut l i).length).reverse:=by
   unfold Md.reg;rw[if_neg (by omega),e1]
  rw[e]
  obtain⟨es,hes⟩:=Z30 (s:=8) rfl (Md.cut l i) (Md.cut l i).length (Nat.le_refl _)
  have hr:=Zqd (E:=Zq E 148) (ag:=true) S.bk rfl (Md.cut l i) (by unfold Z5;omega) (by decide) (by simp) []
  rw[hes] at hr
  simp only[eG,go_sem,Z3 S,Z2 S,zN0,zN1,zN2,zN3,zN4,zI0,zI1,zI2,zI3,reduceCtorEq,P3 S,h,h2,PD S,hl,Zs5 S,hr]
  refine Zhv S (dp+1) p of (Md.cut l i) r (by omega) _ _ (Md.Bw of r) JX _ rfl rfl rfl rfl ?_ _ (Nat.le_refl _) es hes []
  intro A
  obtain rfl | rfl | rfl | rfl:r=0∨r=1∨r=2∨r=3:=by omega
  ·simp only[eG,go_sem,Z3 S,Z2 S,zN0,zN1,zN2,zN3,zN4,zI0,zI1,zI2,zI3,reduceCtorEq,P3 S,Int.toNat_zero,Int.reduceToNat,Nat.zero_mul,Md.Bw];rfl
  ·simp only[eG,go_sem,Z3 S,Z2 S,zN0,zN1,zN2,zN3,zN4,zI0,zI1,zI2,zI3,reduceCtorEq,P3 S,Int.reduceToNat,Nat.one_mul,Md.Bw];rfl
  ·simp only[eG,go_sem,Z3 S,Z2 S,zN0,zN1,zN2,zN3,zN4,zI0,zI1,zI2,zI3,reduceCtorEq,P3 S,Int.reduceToNat,Md.Bw];rfl
  ·simp only[eG,go_sem,Z3 S,Z2 S,zN0,zN1,zN2,zN3,zN4,zI0,zI1,zI2,zI3,reduceCtorEq,P3 S,Int.reduceToNat,Md.Bw];rfl
theorem Zrt (dp:Nat)(p_w p_wn p_fu p_r0 p_r1 p_r2 p_r3:Int)(p_ms:List MemT)(p_ls:List Label)(p_is:List Ins)(of_r0 of_r1 of_r2 of_r3:Int)(l:List Ent)(i r:Int)(hl:l.length<1073741824)(A:List Blk)(nb:Nat)(us:List Nat):ZH false E (Z4 E fn (dp+3)) 148 A nb (some ([.agg [vi p_w,vi p_wn,vi p_fu,vi p_r0,vi p_r1,vi p_r2,vi p_r3,rD p_ms,rD p_ls,rD p_is],.agg [vi of_r0,vi of_r1,vi of_r2,vi of_r3],rD l,vi i,vi r],us))=some (.made (.d (.tup [vi (Md.reg (⟨p_w,p_wn,p_fu,⟨p_r0,p_r1,p_r2,p_r3⟩,p_ms,p_ls,p_is⟩:Prog) (⟨of_r0,of_r1,of_r2,of_r3⟩:Regs) l i r).1,vb (Md.reg (⟨p_w,p_wn,p_fu,⟨p_r0,p_r1,p_r2,p_r3⟩,p_ms,p_ls,p_is⟩:Prog) (⟨of_r0,of_r1,of_r2,of_r3⟩:Regs) l i r).2])) []):=
 Z6.flat (Zj2 S dp (⟨p_w,p_wn,p_fu,⟨p_r0,p_r1,p_r2,p_r3⟩,p_ms,p_ls,p_is⟩:Prog) (⟨of_r0,of_r1,of_r2,of_r3⟩:Regs) l i r hl) (np S 148 (by decide)) (rfl) A nb us
theorem Zj1 (dp:Nat)(p:Prog)(of:Regs)(l:List Ent)(i:Int)(v:Val)(hl:l.length<1073741824):Z6 E fn (dp+4) 133 [Zw p,.agg (CX of),rD l,vi i,.agg (Cl.cells v)] (.tup [vi (Md.val p of l i v).1,vb (Md.val p of l i v).2]):=by
 unfold Z6
 show Zk (Z4 E fn (dp+3+1) 133 [.d (Zw p),.d (.agg (CX of)),.d (rD l),.d (vi i),.d (.agg (Cl.cells v))] [])=_
 rw[ZK,S.Z93,ZM,Zec,ZP _ _ _ _ _ _ _ _ rfl]
 cases h:v.reg<;>simp only[eG,go_sem,Z3 S,Z2 S,zN0,zN1,zN2,zN3,zN4,zI0,zI1,zI2,zI3,reduceCtorEq,Zn0 S,h,Md.val,Zrt S,hl,Z2d S]
theorem Zrs (dp:Nat)(p_w p_wn p_fu p_r0 p_r1 p_r2 p_r3:Int)(p_ms:List MemT)(p_ls:List Label)(p_is:List Ins)(of_r0 of_r1 of_r2 of_r3:Int)(l:List Ent)(i:Int)(v_g:Bool)(v_n:Int)(hl:l.length<1073741824)(A:List Blk)(nb:Nat)(us:List Nat):ZH false E (Z4 E fn (dp+4)) 133 A nb (some ([.agg [vi p_w,vi p_wn,vi p_fu,vi p_r0,vi p_r1,vi p_r2,vi p_r3,rD p_ms,rD p_ls,rD p_is],.agg [vi of_r0,vi of_r1,vi of_r2,vi of_r3],rD l,vi i,.agg [vb v_g,vi v_n]],us))=some (.made (.d (.tup [vi (Md.val (⟨p_w,p_wn,p_fu,⟨p_r0,p_r1,p_r2,p_r3⟩,p_ms,p_ls,p_is⟩:Prog) (⟨of_r0,of_r1,of_r2,of_r3⟩:Regs) l i (⟨v_g,v_n⟩:Val)).1,vb (Md.val (⟨p_w,p_wn,p_fu,⟨p_r0,p_r1,p_r2,p_r3⟩,p_ms,p_ls,p_is⟩:Prog) (⟨of_r0,of_r1,of_r2,of_r3⟩:Regs) l i (⟨v_g,v_n⟩:Val)).2])) []):=
 Z6.flat (Zj1 S dp (⟨p_w,p_wn,p_fu,⟨p_r0,p_r1,p_r2,p_r3⟩,p_ms,p_ls,p_is⟩:Prog) (⟨of_r0,of_r1,of_r2,of_r3⟩:Regs) l i (⟨v_g,v_n⟩:Val) hl) (np S 133 (by decide)) (rfl) A nb us
theorem Zj4 (dp:Nat)(e:Ent)(p:Prog):Z6 E fn (dp+2) 146 [.agg (Cl.cells e),.vptr (ZZ p)] (vb (Md.FJ p e)):=by
 unfold Z6
 show Zk (Z4 E fn (dp+1+1) 146 [.d (.agg (Cl.cells e)),.d (.vptr (ZZ p))] [])=_
 rw[ZK,S.Z96,ZM,Zef,ZP _ _ _ _ _ _ _ _ rfl]
 simp only[eG,go_sem,Z3 S,Z2 S,zN0,zN1,zN2,zN3,zN4,zI0,zI1,zI2,zI3,reduceCtorEq,Yx S,Md.FJ]
theorem Zcg (dp:Nat)(e_pc e_vl e_ad e_fr e_nx:Int)(e_dn e_kn e_ft:Bool)(p_w p_wn p_fu p_r0 p_r1 p_r2 p_r3:Int)(p_ms:List MemT)(p_ls:List Label)(p_is:List Ins)(A:List Blk)(nb:Nat)(us:List Nat):ZH false E (Z4 E fn (dp+2)) 146 A nb (some ([.agg [vi e_pc,vi e_vl,vi e_ad,vi e_fr,vi e_nx,vb e_dn,vb e_kn,vb e_ft],.vptr [vi p_w,vi p_wn,vi p_fu,vi p_r0,vi p_r1,vi p_r2,vi p_r3,rD p_ms,rD p_ls,rD p_is]],us))=some (.made (.d (vb (Md.FJ (⟨p_w,p_wn,p_fu,⟨p_r0,p_r1,p_r2,p_r3⟩,p_ms,p_ls,p_is⟩:Prog) (⟨e_pc,e_vl,e_ad,e_fr,e_nx,e_dn,e_kn,e_ft⟩:Ent)))) []):=
 Z6.flat (Zj4 S dp (⟨e_pc,e_vl,e_ad,e_fr,e_nx,e_dn,e_kn,e_ft⟩:Ent) (⟨p_w,p_wn,p_fu,⟨p_r0,p_r1,p_r2,p_r3⟩,p_ms,p_ls,p_is⟩:Prog) ) (np S 146 (by decide)) (rfl) A nb us
theorem Zob (dp:Nat)(p:Prog)(l:List Ent)(hl:l.length<1073741824)(kx:Nat->K)
  (hx:∀ T,Zk (kx 0 (mk .bot 19 T) [])=some (vi (-1))):
  ∀(m k fuel:Nat),k+m=l.length->m<=fuel->Zk (PP (Zq E 154) (Z4 E fn (dp+2)) (Zj 6 PP (Zq E 154) (Z4 E fn (dp+2)) kx (ZX 0 [.tmp 4]) fuel) kx (ZX 0 [.tmp 4])
   (mk .bot 19 [(0,.d (rD l)),(1,.d (.fn (.func 146) [.vptr (ZZ p)])),(7,aI l.length),(8,aI k)]) [])=some (vi (KC p k (l.drop k))):=by
 intro m
 induction m with
 | zero=>
  intro k fuel hk _
  generalize Zj 6 PP _ _ kx _ fuel=KK
  rw[PP,List.drop_of_length_le (by omega)]
  simp only[eG,go_sem,Z3 S,Z2 S,zN0,zN1,zN2,zN3,zN4,zI0,zI1,zI2,zI3,reduceCtorEq,P2 S,show ¬(k:Int)<l.length by omega,KC]
  exact hx _
 | succ m ih=>
  intro k fuel hk hf
  obtain⟨e,he⟩:=YX (show k<l.length by omega)
  obtain⟨fuel,rfl⟩:∃ m,fuel=m+1:=⟨fuel-1,by omega⟩
  generalize hK:Zj 6 PP _ _ kx _ (fuel+1)=KK
  rw[PP,JQ he]
  cases h0:Md.FJ p e with
  | false=>
   simp only[eG,go_sem,Z3 S,Z2 S,zN0,zN1,zN2,zN3,zN4,zI0,zI1,zI2,zI3,reduceCtorEq,P2 S,show(k:Int)<l.length by omega,Zz he,Zcg S,h0,KC,wi k (by omega)]
   rw[<-hK,Z8 (on S _ _ [0,1,7,8] (by decide) rfl) rfl _ _ _ _ _ _ _ _ _ rfl]
   simp only[eG,go_sem,Z3 S,Z2 S,zN0,zN1,zN2,zN3,zN4,zI0,zI1,zI2,zI3,reduceCtorEq,P2 S]
   exact ih (k+1) fuel (by omega) (by omega)
  | true=>simp only[eG,go_sem,Z3 S,Z2 S,zN0,zN1,zN2,zN3,zN4,zI0,zI1,zI2,zI3,reduceCtorEq,P2 S,show(k:Int)<l.length by omega,Zz he,Zcg S,h0,KC,wi k (by omega)]
theorem Zil (dp:Nat)(l:List Ent)(p:Prog)(hl:l.length<1073741824):Z6 E fn (dp+3) 154 [rD l,.fn (.func 146) [.vptr (ZZ p)]] (vi (KC p 0 l)):=by
 unfold Z6
 show Zk (Z4 E fn (dp+2+1) 154 [.d (rD l),.d (.fn (.func 146) [.vptr (ZZ p)])] [])=_
 rw[ZK,S.Z8k,ZM,Zdu,ZP _ _ _ _ _ _ _ _ rfl]
 simp only[eG,go_sem,Z3 S,Z2 S,zN0,zN1,zN2,zN3,zN4,zI0,zI1,zI2,zI3,reduceCtorEq,P2 S]
 rw[Y9,Z8 (on S _ _ [0,1,7,8] (by decide) rfl) rfl _ _ _ _ _ _ _ _ _ rfl]
 simp only[eG,go_sem,Z3 S,Z2 S,zN0,zN1,zN2,zN3,zN4,zI0,zI1,zI2,zI3,reduceCtorEq,P2 S]
 have:=Zob S dp p l hl (H4 0 (cQ (Z1 [st 4 (oV (ci (-1)))]) cZ (Zq E 154) (Z4 E fn (dp+2)) (ZX 0 [.tmp 4]) (fun _ _ _=>none) (ZX 0 [.tmp 4])) (fun _ _ _=>none)) ?_ l.length 0 999999999999999999999999999999 (by omega) (by omega)
 ·rw [List.drop_zero] at this
  exact this
 intro T
 simp only[eG,go_sem,Z3 S,Z2 S,zN0,zN1,zN2,zN3,zN4,zI0,zI1,zI2,zI3,reduceCtorEq,P2 S]
theorem Zrm (dp:Nat)(l:List Ent)(p_w p_wn p_fu p_r0 p_r1 p_r2 p_r3:Int)(p_ms:List MemT)(p_ls:List Label)(p_is:List Ins)(hl:l.length<1073741824)(A:List Blk)(nb:Nat)(us:List Nat):ZH false E (Z4 E fn (dp+3)) 154 A nb (some ([rD l,.fn (.func 146) [.vptr [vi p_w,vi p_wn,vi p_fu,vi p_r0,vi p_r1,vi p_r2,vi p_r3,rD p_ms,rD p_ls,rD p_is]]],us))=some (.made (.d (vi (KC (⟨p_w,p_wn,p_fu,⟨p_r0,p_r1,p_r2,p_r3⟩,p_ms,p_ls,p_is⟩:Prog) 0 l))) []):=
 Z6.flat (Zil S dp l (⟨p_w,p_wn,p_fu,⟨p_r0,p_r1,p_r2,p_r3⟩,p_ms,p_ls,p_is⟩:Prog) hl) (np S 154 (by decide)) (rfl) A nb us
theorem Zin (dp:Nat)(l:List Ent)(p:Prog)(hl:l.length<1073741824):Z6 E fn (dp+4) 145 [rD l,.fn (.func 146) [.vptr (ZZ p)]] (vb (l.any (Md.FJ p))):=by
 unfold Z6
 show Zk (Z4 E fn (dp+3+1) 145 [.d (rD l),.d (.fn (.func 146) [.vptr (ZZ p)])] [])=_
 rw[ZK,S.Z8m,ZM,Zdw,ZP _ _ _ _ _ _ _ _ rfl]
 rw[<-Z7p p l 0]
 simp only[eG,go_sem,Z3 S,Z2 S,zN0,zN1,zN2,zN3,zN4,zI0,zI1,zI2,zI3,reduceCtorEq,Zrm S,hl]
theorem Zrn (dp:Nat)(l:List Ent)(p_w p_wn p_fu p_r0 p_r1 p_r2 p_r3:Int)(p_ms:List MemT)(p_ls:List Label)(p_is:List Ins)(hl:l.length<1073741824)(A:List Blk)(nb:Nat)(us:List Nat):ZH false E (Z4 E fn (dp+4)) 145 A nb (some ([rD l,.fn (.func 146) [.vptr [vi p_w,vi p_wn,vi p_fu,vi p_r0,vi p_r1,vi p_r2,vi p_r3,rD p_ms,rD p_ls,rD p_is]]],us))=some (.made (.d (vb (l.any (Md.FJ (⟨p_w,p_wn,p_fu,⟨p_r0,p_r1,p_r2,p_r3⟩,p_ms,p_ls,p_is⟩:Prog))))) []):=
 Z6.flat (Zin S dp l (⟨p_w,p_wn,p_fu,⟨p_r0,p_r1,p_r2,p_r3⟩,p_ms,p_ls,p_is⟩:Prog) hl) (np S 145 (by decide)) (rfl) A nb us
theorem Zj5 (dp:Nat)(p:Prog)(l:List Ent)(i:Int)(hl:l.length<1073741824):Z6 E fn (dp+5) 127 [Zw p,rD l,vi i] (vb (Md.ND p l i)):=by
 unfold Z6
 show Zk (Z4 E fn (dp+4+1) 127 [.d (Zw p),.d (rD l),.d (vi i)] [])=_
 rw[ZK,S.Z97,ZM,Zeg,ZP _ _ _ _ _ _ _ _ rfl]
 have hcl:=K1 l i
 simp only[eG,go_sem,Z3 S,Z2 S,zN0,zN1,zN2,zN3,zN4,zI0,zI1,zI2,zI3,reduceCtorEq,PD S,hl,QE,Zrn S,show(Md.cut l i).length<1073741824 by omega,Md.ND]
theorem Zch (dp:Nat)(p_w p_wn p_fu p_r0 p_r1 p_r2 p_r3:Int)(p_ms:List MemT)(p_ls:List Label)(p_is:List Ins)(l:List Ent)(i:Int)(hl:l.length<1073741824)(A:List Blk)(nb:Nat)(us:List Nat):ZH false E (Z4 E fn (dp+5)) 127 A nb (some ([.agg [vi p_w,vi p_wn,vi p_fu,vi p_r0,vi p_r1,vi p_r2,vi p_r3,rD p_ms,rD p_ls,rD p_is],rD l,vi i],us))=some (.made (.d (vb (Md.ND (⟨p_w,p_wn,p_fu,⟨p_r0,p_r1,p_r2,p_r3⟩,p_ms,p_ls,p_is⟩:Prog) l i))) []):=
 Z6.flat (Zj5 S dp (⟨p_w,p_wn,p_fu,⟨p_r0,p_r1,p_r2,p_r3⟩,p_ms,p_ls,p_is⟩:Prog) l i hl) (np S 127 (by decide)) (rfl) A nb us
end
variable {E:Env} {fn:FuncId->Option (Env->cT->cT)}
section
variable (S:Sur E fn)
include S
theorem Zmz:E.lives 138 7=none:=off S 138 7 (by decide) rfl
theorem Zis (dp:Nat)(l:List Ent)(i:Int)(e:Ent)(hl:l.length<1073741824)(h0:0<=i)(h1:i<l.length):Z6 E fn (dp+1) 138 [rD l,vi i,.agg (Cl.cells e)] (.tup [rD (l.set i.toNat e),vb true]):=by
 unfold Z6
 show Zk (Z4 E fn (dp+1) 138 [.d (rD l),.d (vi i),.d (.agg (Cl.cells e))] [])=_
 rw[ZK,S.Z8s,ZM,Ze2,ZP _ _ _ _ _ _ _ _ rfl]
 obtain⟨e0,he⟩:=YX (show i.toNat<l.length by omega)
 have hne:l.length≠0:=by omega
 have hst:∀ A:List Blk,storeAt A 1 0 (0+i.toNat*8) [.d (vi e.pc),.d (vi e.val),.d (vi e.addr),.d (vi e.frm),.d (vi e.next),.d (vb e.done),.d (vb e.known),.d (vb e.fault)] 8 (some (.cells ((rC l).map .d) 0 false))=some (A.set 1 (.cells ((rC (l.set i.toNat e)).map .d) 0 false)):=fun A=>
  Mw (o:=0) (e':=e) (Cl.cells e) he rfl rfl rfl rfl (by show 0+8<=8;decide) 8 rfl _ (by omega)
 have hd:deep [.cells ((rC (l.set i.toNat e)).map .d) 0 false] 7 (.sref 0 0 0 l.length 8 none)=some (.lst (rC (l.set i.toNat e)) (l.set i.toNat e).length none,[0]):=CA _ (fun h=>by have:=congrArg List.length h;rw[List.length_set] at this;exact hne this) _ (by simp) 5 8 none rfl
 simp only[eG,go_sem,Z3 S,Z2 S,Nat.reduceLT,Nat.reduceEqDiff,Nat.reduceAdd,Nat.reduceMul,Nat.reduceLeDiff,Int.reduceEq,Int.reduceLT,Int.reduceLE,Int.reduceNeg,reduceCtorEq,Zmz S,show ¬i<0 by omega,show ¬i>=l.length by omega,RC S hl,ZC hne,ZB hne,h0,h1,hst,hd,Jv]
theorem Zrq (dp:Nat)(l:List Ent)(i e_pc e_vl e_ad e_fr e_nx:Int)(e_dn e_kn e_ft:Bool)(hl:l.length<1073741824)(h0:0<=i)(h1:i<l.length)(A:List Blk)(nb:Nat):ZH false E (Z4 E fn (dp+1)) 138 A nb (some ([rD l,vi i,.agg [vi e_pc,vi e_vl,vi e_ad,vi e_fr,vi e_nx,vb e_dn,vb e_kn,vb e_ft]],[]))=some (.made (.d (.tup [rD (l.set i.toNat (⟨e_pc,e_vl,e_ad,e_fr,e_nx,e_dn,e_kn,e_ft⟩:Ent)),vb true])) []):=
 Z6.deep (Zis S dp l i (⟨e_pc,e_vl,e_ad,e_fr,e_nx,e_dn,e_kn,e_ft⟩:Ent) hl h0 h1) (np S 138 (by decide)) A nb
end
structure Spot where
 p:Prog
 c:Conf
 i:Int
 e:Ent
 s:Ins
def CG (x:Spot):DV:=.agg (ZZ x.p++(QB x.c++(vi x.i::(Cl.cells x.e++Cl.cells x.s))))
theorem Zq5 (x:Spot):Spot.mk x.p x.c x.i x.e x.s=x:=rfl
attribute [go_sem] CG Zq5
def R6:Spot:=⟨⟨0,0,0,⟨0,0,0,0⟩,[],[],[]⟩,Md.QH,0,Md.N6,⟨0,0,0,⟨false,0⟩,⟨false,0⟩,⟨#[]⟩,0⟩⟩
def JY (p:Prog)(c:Conf)(i:Int):Spot:=⟨p,c,i,Md.ZW c.buf i,Md.YB p c i⟩
variable {E:Env} {fn:FuncId->Option (Env->cT->cT)}
section
variable (S:Sur E fn)
include S
theorem T7:E.lives 85 7=none:=off S 85 7 (by decide) rfl
theorem Zkj (dp:Nat)(p:Prog)(c:Conf)(i:Int)(hl:c.buf.length<1073741824):Z6 E fn (dp+6) 85 [Zw p,ZA c,vi i] (.tup [CG (bif Md.JG p c i then JY p c i else R6),vb (Md.JG p c i)]):=by
 unfold Z6
 show Zk (Z4 E fn (dp+5+1) 85 [.d (Zw p),.d (ZA c),.d (vi i)] [])=_
 rw[ZK,S.Zas,ZM,Zg1,ZP _ _ _ _ _ _ _ _ rfl]
 cases ho:Md.JG p c i with
 | true=>
  obtain⟨h0,he,h3⟩:=NW ho
  have ho':=ho
  simp only[Md.JG,Bool.and_eq_true,Bool.not_eq_true',beq_iff_eq,decide_eq_true_eq] at ho'
  simp only[eG,go_sem,Z3 S,Z2 S,zN0,zN1,zN2,zN3,zN4,zI0,zI1,zI2,zI3,reduceCtorEq,T7 S,EB S,ho'.1.1.1,show ¬i<0 by omega,show ¬i>=c.buf.length by omega,Zch S,hl,ho'.2,E5 h0 he,Yx S,JY,Md.YB,Bool.not_true]
 | false=>
  by_cases h1:c.end_=0
  ·by_cases h2 : i < 0
   ·simp only[eG,go_sem,Z3 S,Z2 S,zN0,zN1,zN2,zN3,zN4,zI0,zI1,zI2,zI3,reduceCtorEq,T7 S,EB S,h1,h2,Bool.not_true,R6,Md.QH,Md.N6]
   ·by_cases h3 : i >= c.buf.length
    ·simp only[eG,go_sem,Z3 S,Z2 S,zN0,zN1,zN2,zN3,zN4,zI0,zI1,zI2,zI3,reduceCtorEq,T7 S,EB S,h1,h2,h3,Bool.not_true,R6,Md.QH,Md.N6]
    ·have hb:Md.ND p c.buf i=true:=by
      cases hb:Md.ND p c.buf i with
      | true=>rfl
      | false=>
       have:Md.JG p c i=true:=by simp[Md.JG,hb,h1];omega
       rw[this] at ho;cases ho
     simp only[eG,go_sem,Z3 S,Z2 S,zN0,zN1,zN2,zN3,zN4,zI0,zI1,zI2,zI3,reduceCtorEq,T7 S,EB S,h1,h2,h3,Zch S,hl,hb,Bool.not_true,R6,Md.QH,Md.N6]
  ·simp only[eG,go_sem,Z3 S,Z2 S,zN0,zN1,zN2,zN3,zN4,zI0,zI1,zI2,zI3,reduceCtorEq,T7 S,EB S,eq_false h1,Bool.not_false,R6,Md.QH,Md.N6]
theorem H1 (dp:Nat)(p_w p_wn p_fu p_r0 p_r1 p_r2 p_r3:Int)(p_ms:List MemT)(p_ls:List Label)(p_is:List Ins)(c_r0 c_r1 c_r2 c_r3:Int)(c_mm c_st:List Int)(c_pc:Int)(c_bf:List Ent)(c_rb:List Int)(c_en i:Int)(hl:(⟨⟨⟨c_r0,c_r1,c_r2,c_r3⟩,c_mm,c_st,c_pc⟩,c_bf,c_rb,c_en⟩:Conf).buf.length<1073741824)(A:List Blk)(nb:Nat):ZH false E (Z4 E fn (dp+6)) 85 A nb (some ([.agg [vi p_w,vi p_wn,vi p_fu,vi p_r0,vi p_r1,vi p_r2,vi p_r3,rD p_ms,rD p_ls,rD p_is],.agg [vi c_r0,vi c_r1,vi c_r2,vi c_r3,rD c_mm,rD c_st,vi c_pc,rD c_bf,rD c_rb,vi c_en],vi i],[]))=some (.made (.d (.tup [CG (bif Md.JG (⟨p_w,p_wn,p_fu,⟨p_r0,p_r1,p_r2,p_r3⟩,p_ms,p_ls,p_is⟩:Prog) (⟨⟨⟨c_r0,c_r1,c_r2,c_r3⟩,c_mm,c_st,c_pc⟩,c_bf,c_rb,c_en⟩:Conf) i then JY (⟨p_w,p_wn,p_fu,⟨p_r0,p_r1,p_r2,p_r3⟩,p_ms,p_ls,p_is⟩:Prog) (⟨⟨⟨c_r0,c_r1,c_r2,c_r3⟩,c_mm,c_st,c_pc⟩,c_bf,c_rb,c_en⟩:Conf) i else R6),vb (Md.JG (⟨p_w,p_wn,p_fu,⟨p_r0,p_r1,p_r2,p_r3⟩,p_ms,p_ls,p_is⟩:Prog) (⟨⟨⟨c_r0,c_r1,c_r2,c_r3⟩,c_mm,c_st,c_pc⟩,c_bf,c_rb,c_en⟩:Conf) i)])) []):=
 Z6.deep (Zkj S dp (⟨p_w,p_wn,p_fu,⟨p_r0,p_r1,p_r2,p_r3⟩,p_ms,p_ls,p_is⟩:Prog) (⟨⟨⟨c_r0,c_r1,c_r2,c_r3⟩,c_mm,c_st,c_pc⟩,c_bf,c_rb,c_en⟩:Conf) i hl) (np S 85 (by decide)) A nb
theorem Zkb (dp:Nat)(x:Spot)(v:Val)(hl:x.c.buf.length<1073741824):Z6 E fn (dp+5) 99 [CG x,.agg (Cl.cells v)] (.tup [vi (Md.Y5 x.p x.c x.i v).1,vb (Md.Y5 x.p x.c x.i v).2]):=by
 unfold Z6
 show Zk (Z4 E fn (dp+4+1) 99 [.d (CG x),.d (.agg (Cl.cells v))] [])=_
 rw[ZK,S.Zak,ZM,Zft,ZP _ _ _ _ _ _ _ _ rfl]
 simp only[eG,go_sem,Z3 S,Z2 S,zN0,zN1,zN2,zN3,zN4,zI0,zI1,zI2,zI3,reduceCtorEq,Zrs S,hl,Md.Y5,Nat.add_zero,Nat.zero_add]
theorem WP (dp:Nat)(x_p_w x_p_wn x_p_fu x_p_r0 x_p_r1 x_p_r2 x_p_r3:Int)(x_p_ms:List MemT)(x_p_ls:List Label)(x_p_is:List Ins)(x_c_r0 x_c_r1 x_c_r2 x_c_r3:Int)(x_c_mm x_c_st:List Int)(x_c_pc:Int)(x_c_bf:List Ent)(x_c_rb:List Int)(x_c_en x_i x_e_pc x_e_vl x_e_ad x_e_fr x_e_nx:Int)(x_e_dn x_e_kn x_e_ft:Bool)(x_s_k x_s_o x_s_d:Int)(x_s_ag:Bool)(x_s_an:Int)(x_s_bg:Bool)(x_s_bn:Int)(x_s_nm:ByteArray)(x_s_tg:Int)(v_g:Bool)(v_n:Int)(hl:(⟨⟨x_p_w,x_p_wn,x_p_fu,⟨x_p_r0,x_p_r1,x_p_r2,x_p_r3⟩,x_p_ms,x_p_ls,x_p_is⟩,⟨⟨⟨x_c_r0,x_c_r1,x_c_r2,x_c_r3⟩,x_c_mm,x_c_st,x_c_pc⟩,x_c_bf,x_c_rb,x_c_en⟩,x_i,⟨x_e_pc,x_e_vl,x_e_ad,x_e_fr,x_e_nx,x_e_dn,x_e_kn,x_e_ft⟩,⟨x_s_k,x_s_o,x_s_d,⟨x_s_ag,x_s_an⟩,⟨x_s_bg,x_s_bn⟩,x_s_nm,x_s_tg⟩⟩:Spot).c.buf.length<1073741824)(A:List Blk)(nb:Nat)(us:List Nat):ZH false E (Z4 E fn (dp+5)) 99 A nb (some ([.agg [vi x_p_w,vi x_p_wn,vi x_p_fu,vi x_p_r0,vi x_p_r1,vi x_p_r2,vi x_p_r3,rD x_p_ms,rD x_p_ls,rD x_p_is,vi x_c_r0,vi x_c_r1,vi x_c_r2,vi x_c_r3,rD x_c_mm,rD x_c_st,vi x_c_pc,rD x_c_bf,rD x_c_rb,vi x_c_en,vi x_i,vi x_e_pc,vi x_e_vl,vi x_e_ad,vi x_e_fr,vi x_e_nx,vb x_e_dn,vb x_e_kn,vb x_e_ft,vi x_s_k,vi x_s_o,vi x_s_d,vb x_s_ag,vi x_s_an,vb x_s_bg,vi x_s_bn,vt x_s_nm,vi x_s_tg],.agg [vb v_g,vi v_n]],us))=some (.made (.d (.tup [vi (Md.Y5 (⟨⟨x_p_w,x_p_wn,x_p_fu,⟨x_p_r0,x_p_r1,x_p_r2,x_p_r3⟩,x_p_ms,x_p_ls,x_p_is⟩,⟨⟨⟨x_c_r0,x_c_r1,x_c_r2,x_c_r3⟩,x_c_mm,x_c_st,x_c_pc⟩,x_c_bf,x_c_rb,x_c_en⟩,x_i,⟨x_e_pc,x_e_vl,x_e_ad,x_e_fr,x_e_nx,x_e_dn,x_e_kn,x_e_ft⟩,⟨x_s_k,x_s_o,x_s_d,⟨x_s_ag,x_s_an⟩,⟨x_s_bg,x_s_bn⟩,x_s_nm,x_s_tg⟩⟩:Spot).p (⟨⟨x_p_w,x_p_wn,x_p_fu,⟨x_p_r0,x_p_r1,x_p_r2,x_p_r3⟩,x_p_ms,x_p_ls,x_p_is⟩,⟨⟨⟨x_c_r0,x_c_r1,x_c_r2,x_c_r3⟩,x_c_mm,x_c_st,x_c_pc⟩,x_c_bf,x_c_rb,x_c_en⟩,x_i,⟨x_e_pc,x_e_vl,x_e_ad,x_e_fr,x_e_nx,x_e_dn,x_e_kn,x_e_ft⟩,⟨x_s_k,x_s_o,x_s_d,⟨x_s_ag,x_s_an⟩,⟨x_s_bg,x_s_bn⟩,x_s_nm,x_s_tg⟩⟩:Spot).c (⟨⟨x_p_w,x_p_wn,x_p_fu,⟨x_p_r0,x_p_r1,x_p_r2,x_p_r3⟩,x_p_ms,x_p_ls,x_p_is⟩,⟨⟨⟨x_c_r0,x_c_r1,x_c_r2,x_c_r3⟩,x_c_mm,x_c_st,x_c_pc⟩,x_c_bf,x_c_rb,x_c_en⟩,x_i,⟨x_e_pc,x_e_vl,x_e_ad,x_e_fr,x_e_nx,x_e_dn,x_e_kn,x_e_ft⟩,⟨x_s_k,x_s_o,x_s_d,⟨x_s_ag,x_s_an⟩,⟨x_s_bg,x_s_bn⟩,x_s_nm,x_s_tg⟩⟩:Spot).i (⟨v_g,v_n⟩:Val)).1,vb (Md.Y5 (⟨⟨x_p_w,x_p_wn,x_p_fu,⟨x_p_r0,x_p_r1,x_p_r2,x_p_r3⟩,x_p_ms,x_p_ls,x_p_is⟩,⟨⟨⟨x_c_r0,x_c_r1,x_c_r2,x_c_r3⟩,x_c_mm,x_c_st,x_c_pc⟩,x_c_bf,x_c_rb,x_c_en⟩,x_i,⟨x_e_pc,x_e_vl,x_e_ad,x_e_fr,x_e_nx,x_e_dn,x_e_kn,x_e_ft⟩,⟨x_s_k,x_s_o,x_s_d,⟨x_s_ag,x_s_an⟩,⟨x_s_bg,x_s_bn⟩,x_s_nm,x_s_tg⟩⟩:Spot).p (⟨⟨x_p_w,x_p_wn,x_p_fu,⟨x_p_r0,x_p_r1,x_p_r2,x_p_r3⟩,x_p_ms,x_p_ls,x_p_is⟩,⟨⟨⟨x_c_r0,x_c_r1,x_c_r2,x_c_r3⟩,x_c_mm,x_c_st,x_c_pc⟩,x_c_bf,x_c_rb,x_c_en⟩,x_i,⟨x_e_pc,x_e_vl,x_e_ad,x_e_fr,x_e_nx,x_e_dn,x_e_kn,x_e_ft⟩,⟨x_s_k,x_s_o,x_s_d,⟨x_s_ag,x_s_an⟩,⟨x_s_bg,x_s_bn⟩,x_s_nm,x_s_tg⟩⟩:Spot).c (⟨⟨x_p_w,x_p_wn,x_p_fu,⟨x_p_r0,x_p_r1,x_p_r2,x_p_r3⟩,x_p_ms,x_p_ls,x_p_is⟩,⟨⟨⟨x_c_r0,x_c_r1,x_c_r2,x_c_r3⟩,x_c_mm,x_c_st,x_c_pc⟩,x_c_bf,x_c_rb,x_c_en⟩,x_i,⟨x_e_pc,x_e_vl,x_e_ad,x_e_fr,x_e_nx,x_e_dn,x_e_kn,x_e_ft⟩,⟨x_s_k,x_s_o,x_s_d,⟨x_s_ag,x_s_an⟩,⟨x_s_bg,x_s_bn⟩,x_s_nm,x_s_tg⟩⟩:Spot).i (⟨v_g,v_n⟩:Val)).2])) []):=
 Z6.flat (Zkb S dp (⟨⟨x_p_w,x_p_wn,x_p_fu,⟨x_p_r0,x_p_r1,x_p_r2,x_p_r3⟩,x_p_ms,x_p_ls,x_p_is⟩,⟨⟨⟨x_c_r0,x_c_r1,x_c_r2,x_c_r3⟩,x_c_mm,x_c_st,x_c_pc⟩,x_c_bf,x_c_rb,x_c_en⟩,x_i,⟨x_e_pc,x_e_vl,x_e_ad,x_e_fr,x_e_nx,x_e_dn,x_e_kn,x_e_ft⟩,⟨x_s_k,x_s_o,x_s_d,⟨x_s_ag,x_s_an⟩,⟨x_s_bg,x_s_bn⟩,x_s_nm,x_s_tg⟩⟩:Spot) (⟨v_g,v_n⟩:Val) hl) (np S 99 (by decide)) (rfl) A nb us
theorem Zkc (dp:Nat)(x:Spot)(hl:x.c.buf.length<1073741824):Z6 E fn (dp+6) 87 [CG x] (.tup [vi (Md.Y5 x.p x.c x.i x.s.a).1,vi (Md.Y5 x.p x.c x.i x.s.b).1,vb ((Md.Y5 x.p x.c x.i x.s.a).2&&(Md.Y5 x.p x.c x.i x.s.b).2)]):=by
 unfold Z6
 show Zk (Z4 E fn (dp+5+1) 87 [.d (CG x)] [])=_
 rw[ZK,S.Zal,ZM,Zfu,ZP _ _ _ _ _ _ _ _ rfl]
 cases h:(Md.Y5 x.p x.c x.i x.s.a).2<;>simp only[eG,go_sem,Z3 S,Z2 S,zN0,zN1,zN2,zN3,zN4,zI0,zI1,zI2,zI3,reduceCtorEq,WP S,hl,h]
theorem Nv (dp:Nat)(x_p_w x_p_wn x_p_fu x_p_r0 x_p_r1 x_p_r2 x_p_r3:Int)(x_p_ms:List MemT)(x_p_ls:List Label)(x_p_is:List Ins)(x_c_r0 x_c_r1 x_c_r2 x_c_r3:Int)(x_c_mm x_c_st:List Int)(x_c_pc:Int)(x_c_bf:List Ent)(x_c_rb:List Int)(x_c_en x_i x_e_pc x_e_vl x_e_ad x_e_fr x_e_nx:Int)(x_e_dn x_e_kn x_e_ft:Bool)(x_s_k x_s_o x_s_d:Int)(x_s_ag:Bool)(x_s_an:Int)(x_s_bg:Bool)(x_s_bn:Int)(x_s_nm:ByteArray)(x_s_tg:Int)(hl:(⟨⟨x_p_w,x_p_wn,x_p_fu,⟨x_p_r0,x_p_r1,x_p_r2,x_p_r3⟩,x_p_ms,x_p_ls,x_p_is⟩,⟨⟨⟨x_c_r0,x_c_r1,x_c_r2,x_c_r3⟩,x_c_mm,x_c_st,x_c_pc⟩,x_c_bf,x_c_rb,x_c_en⟩,x_i,⟨x_e_pc,x_e_vl,x_e_ad,x_e_fr,x_e_nx,x_e_dn,x_e_kn,x_e_ft⟩,⟨x_s_k,x_s_o,x_s_d,⟨x_s_ag,x_s_an⟩,⟨x_s_bg,x_s_bn⟩,x_s_nm,x_s_tg⟩⟩:Spot).c.buf.length<1073741824)(A:List Blk)(nb:Nat)(us:List Nat):ZH false E (Z4 E fn (dp+6)) 87 A nb (some ([.agg [vi x_p_w,vi x_p_wn,vi x_p_fu,vi x_p_r0,vi x_p_r1,vi x_p_r2,vi x_p_r3,rD x_p_ms,rD x_p_ls,rD x_p_is,vi x_c_r0,vi x_c_r1,vi x_c_r2,vi x_c_r3,rD x_c_mm,rD x_c_st,vi x_c_pc,rD x_c_bf,rD x_c_rb,vi x_c_en,vi x_i,vi x_e_pc,vi x_e_vl,vi x_e_ad,vi x_e_fr,vi x_e_nx,vb x_e_dn,vb x_e_kn,vb x_e_ft,vi x_s_k,vi x_s_o,vi x_s_d,vb x_s_ag,vi x_s_an,vb x_s_bg,vi x_s_bn,vt x_s_nm,vi x_s_tg]],us))=some (.made (.d (.tup [vi (Md.Y5 (⟨⟨x_p_w,x_p_wn,x_p_fu,⟨x_p_r0,x_p_r1,x_p_r2,x_p_r3⟩,x_p_ms,x_p_ls,x_p_is⟩,⟨⟨⟨x_c_r0,x_c_r1,x_c_r2,x_c_r3⟩,x_c_mm,x_c_st,x_c_pc⟩,x_c_bf,x_c_rb,x_c_en⟩,x_i,⟨x_e_pc,x_e_vl,x_e_ad,x_e_fr,x_e_nx,x_e_dn,x_e_kn,x_e_ft⟩,⟨x_s_k,x_s_o,x_s_d,⟨x_s_ag,x_s_an⟩,⟨x_s_bg,x_s_bn⟩,x_s_nm,x_s_tg⟩⟩:Spot).p (⟨⟨x_p_w,x_p_wn,x_p_fu,⟨x_p_r0,x_p_r1,x_p_r2,x_p_r3⟩,x_p_ms,x_p_ls,x_p_is⟩,⟨⟨⟨x_c_r0,x_c_r1,x_c_r2,x_c_r3⟩,x_c_mm,x_c_st,x_c_pc⟩,x_c_bf,x_c_rb,x_c_en⟩,x_i,⟨x_e_pc,x_e_vl,x_e_ad,x_e_fr,x_e_nx,x_e_dn,x_e_kn,x_e_ft⟩,⟨x_s_k,x_s_o,x_s_d,⟨x_s_ag,x_s_an⟩,⟨x_s_bg,x_s_bn⟩,x_s_nm,x_s_tg⟩⟩:Spot).c (⟨⟨x_p_w,x_p_wn,x_p_fu,⟨x_p_r0,x_p_r1,x_p_r2,x_p_r3⟩,x_p_ms,x_p_ls,x_p_is⟩,⟨⟨⟨x_c_r0,x_c_r1,x_c_r2,x_c_r3⟩,x_c_mm,x_c_st,x_c_pc⟩,x_c_bf,x_c_rb,x_c_en⟩,x_i,⟨x_e_pc,x_e_vl,x_e_ad,x_e_fr,x_e_nx,x_e_dn,x_e_kn,x_e_ft⟩,⟨x_s_k,x_s_o,x_s_d,⟨x_s_ag,x_s_an⟩,⟨x_s_bg,x_s_bn⟩,x_s_nm,x_s_tg⟩⟩:Spot).i (⟨⟨x_p_w,x_p_wn,x_p_fu,⟨x_p_r0,x_p_r1,x_p_r2,x_p_r3⟩,x_p_ms,x_p_ls,x_p_is⟩,⟨⟨⟨x_c_r0,x_c_r1,x_c_r2,x_c_r3⟩,x_c_mm,x_c_st,x_c_pc⟩,x_c_bf,x_c_rb,x_c_en⟩,x_i,⟨x_e_pc,x_e_vl,x_e_ad,x_e_fr,x_e_nx,x_e_dn,x_e_kn,x_e_ft⟩,⟨x_s_k,x_s_o,x_s_d,⟨x_s_ag,x_s_an⟩,⟨x_s_bg,x_s_bn⟩,x_s_nm,x_s_tg⟩⟩:Spot).s.a).1,vi (Md.Y5 (⟨⟨x_p_w,x_p_wn,x_p_fu,⟨x_p_r0,x_p_r1,x_p_r2,x_p_r3⟩,x_p_ms,x_p_ls,x_p_is⟩,⟨⟨⟨x_c_r0,x_c_r1,x_c_r2,x_c_r3⟩,x_c_mm,x_c_st,x_c_pc⟩,x_c_bf,x_c_rb,x_c_en⟩,x_i,⟨x_e_pc,x_e_vl,x_e_ad,x_e_fr,x_e_nx,x_e_dn,x_e_kn,x_e_ft⟩,⟨x_s_k,x_s_o,x_s_d,⟨x_s_ag,x_s_an⟩,⟨x_s_bg,x_s_bn⟩,x_s_nm,x_s_tg⟩⟩:Spot).p (⟨⟨x_p_w,x_p_wn,x_p_fu,⟨x_p_r0,x_p_r1,x_p_r2,x_p_r3⟩,x_p_ms,x_p_ls,x_p_is⟩,⟨⟨⟨x_c_r0,x_c_r1,x_c_r2,x_c_r3⟩,x_c_mm,x_c_st,x_c_pc⟩,x_c_bf,x_c_rb,x_c_en⟩,x_i,⟨x_e_pc,x_e_vl,x_e_ad,x_e_fr,x_e_nx,x_e_dn,x_e_kn,x_e_ft⟩,⟨x_s_k,x_s_o,x_s_d,⟨x_s_ag,x_s_an⟩,⟨x_s_bg,x_s_bn⟩,x_s_nm,x_s_tg⟩⟩:Spot).c (⟨⟨x_p_w,x_p_wn,x_p_fu,⟨x_p_r0,x_p_r1,x_p_r2,x_p_r3⟩,x_p_ms,x_p_ls,x_p_is⟩,⟨⟨⟨x_c_r0,x_c_r1,x_c_r2,x_c_r3⟩,x_c_mm,x_c_st,x_c_pc⟩,x_c_bf,x_c_rb,x_c_en⟩,x_i,⟨x_e_pc,x_e_vl,x_e_ad,x_e_fr,x_e_nx,x_e_dn,x_e_kn,x_e_ft⟩,⟨x_s_k,x_s_o,x_s_d,⟨x_s_ag,x_s_an⟩,⟨x_s_bg,x_s_bn⟩,x_s_nm,x_s_tg⟩⟩:Spot).i (⟨⟨x_p_w,x_p_wn,x_p_fu,⟨x_p_r0,x_p_r1,x_p_r2,x_p_r3⟩,x_p_ms,x_p_ls,x_p_is⟩,⟨⟨⟨x_c_r0,x_c_r1,x_c_r2,x_c_r3⟩,x_c_mm,x_c_st,x_c_pc⟩,x_c_bf,x_c_rb,x_c_en⟩,x_i,⟨x_e_pc,x_e_vl,x_e_ad,x_e_fr,x_e_nx,x_e_dn,x_e_kn,x_e_ft⟩,⟨x_s_k,x_s_o,x_s_d,⟨x_s_ag,x_s_an⟩,⟨x_s_bg,x_s_bn⟩,x_s_nm,x_s_tg⟩⟩:Spot).s.b).1,vb ((Md.Y5 (⟨⟨x_p_w,x_p_wn,x_p_fu,⟨x_p_r0,x_p_r1,x_p_r2,x_p_r3⟩,x_p_ms,x_p_ls,x_p_is⟩,⟨⟨⟨x_c_r0,x_c_r1,x_c_r2,x_c_r3⟩,x_c_mm,x_c_st,x_c_pc⟩,x_c_bf,x_c_rb,x_c_en⟩,x_i,⟨x_e_pc,x_e_vl,x_e_ad,x_e_fr,x_e_nx,x_e_dn,x_e_kn,x_e_ft⟩,⟨x_s_k,x_s_o,x_s_d,⟨x_s_ag,x_s_an⟩,⟨x_s_bg,x_s_bn⟩,x_s_nm,x_s_tg⟩⟩:Spot).p (⟨⟨x_p_w,x_p_wn,x_p_fu,⟨x_p_r0,x_p_r1,x_p_r2,x_p_r3⟩,x_p_ms,x_p_ls,x_p_is⟩,⟨⟨⟨x_c_r0,x_c_r1,x_c_r2,x_c_r3⟩,x_c_mm,x_c_st,x_c_pc⟩,x_c_bf,x_c_rb,x_c_en⟩,x_i,⟨x_e_pc,x_e_vl,x_e_ad,x_e_fr,x_e_nx,x_e_dn,x_e_kn,x_e_ft⟩,⟨x_s_k,x_s_o,x_s_d,⟨x_s_ag,x_s_an⟩,⟨x_s_bg,x_s_bn⟩,x_s_nm,x_s_tg⟩⟩:Spot).c (⟨⟨x_p_w,x_p_wn,x_p_fu,⟨x_p_r0,x_p_r1,x_p_r2,x_p_r3⟩,x_p_ms,x_p_ls,x_p_is⟩,⟨⟨⟨x_c_r0,x_c_r1,x_c_r2,x_c_r3⟩,x_c_mm,x_c_st,x_c_pc⟩,x_c_bf,x_c_rb,x_c_en⟩,x_i,⟨x_e_pc,x_e_vl,x_e_ad,x_e_fr,x_e_nx,x_e_dn,x_e_kn,x_e_ft⟩,⟨x_s_k,x_s_o,x_s_d,⟨x_s_ag,x_s_an⟩,⟨x_s_bg,x_s_bn⟩,x_s_nm,x_s_tg⟩⟩:Spot).i (⟨⟨x_p_w,x_p_wn,x_p_fu,⟨x_p_r0,x_p_r1,x_p_r2,x_p_r3⟩,x_p_ms,x_p_ls,x_p_is⟩,⟨⟨⟨x_c_r0,x_c_r1,x_c_r2,x_c_r3⟩,x_c_mm,x_c_st,x_c_pc⟩,x_c_bf,x_c_rb,x_c_en⟩,x_i,⟨x_e_pc,x_e_vl,x_e_ad,x_e_fr,x_e_nx,x_e_dn,x_e_kn,x_e_ft⟩,⟨x_s_k,x_s_o,x_s_d,⟨x_s_ag,x_s_an⟩,⟨x_s_bg,x_s_bn⟩,x_s_nm,x_s_tg⟩⟩:Spot).s.a).2&&(Md.Y5 (⟨⟨x_p_w,x_p_wn,x_p_fu,⟨x_p_r0,x_p_r1,x_p_r2,x_p_r3⟩,x_p_ms,x_p_ls,x_p_is⟩,⟨⟨⟨x_c_r0,x_c_r1,x_c_r2,x_c_r3⟩,x_c_mm,x_c_st,x_c_pc⟩,x_c_bf,x_c_rb,x_c_en⟩,x_i,⟨x_e_pc,x_e_vl,x_e_ad,x_e_fr,x_e_nx,x_e_dn,x_e_kn,x_e_ft⟩,⟨x_s_k,x_s_o,x_s_d,⟨x_s_ag,x_s_an⟩,⟨x_s_bg,x_s_bn⟩,x_s_nm,x_s_tg⟩⟩:Spot).p (⟨⟨x_p_w,x_p_wn,x_p_fu,⟨x_p_r0,x_p_r1,x_p_r2,x_p_r3⟩,x_p_ms,x_p_ls,x_p_is⟩,⟨⟨⟨x_c_r0,x_c_r1,x_c_r2,x_c_r3⟩,x_c_mm,x_c_st,x_c_pc⟩,x_c_bf,x_c_rb,x_c_en⟩,x_i,⟨x_e_pc,x_e_vl,x_e_ad,x_e_fr,x_e_nx,x_e_dn,x_e_kn,x_e_ft⟩,⟨x_s_k,x_s_o,x_s_d,⟨x_s_ag,x_s_an⟩,⟨x_s_bg,x_s_bn⟩,x_s_nm,x_s_tg⟩⟩:Spot).c (⟨⟨x_p_w,x_p_wn,x_p_fu,⟨x_p_r0,x_p_r1,x_p_r2,x_p_r3⟩,x_p_ms,x_p_ls,x_p_is⟩,⟨⟨⟨x_c_r0,x_c_r1,x_c_r2,x_c_r3⟩,x_c_mm,x_c_st,x_c_pc⟩,x_c_bf,x_c_rb,x_c_en⟩,x_i,⟨x_e_pc,x_e_vl,x_e_ad,x_e_fr,x_e_nx,x_e_dn,x_e_kn,x_e_ft⟩,⟨x_s_k,x_s_o,x_s_d,⟨x_s_ag,x_s_an⟩,⟨x_s_bg,x_s_bn⟩,x_s_nm,x_s_tg⟩⟩:Spot).i (⟨⟨x_p_w,x_p_wn,x_p_fu,⟨x_p_r0,x_p_r1,x_p_r2,x_p_r3⟩,x_p_ms,x_p_ls,x_p_is⟩,⟨⟨⟨x_c_r0,x_c_r1,x_c_r2,x_c_r3⟩,x_c_mm,x_c_st,x_c_pc⟩,x_c_bf,x_c_rb,x_c_en⟩,x_i,⟨x_e_pc,x_e_vl,x_e_ad,x_e_fr,x_e_nx,x_e_dn,x_e_kn,x_e_ft⟩,⟨x_s_k,x_s_o,x_s_d,⟨x_s_ag,x_s_an⟩,⟨x_s_bg,x_s_bn⟩,x_s_nm,x_s_tg⟩⟩:Spot).s.b).2)])) []):=
 Z6.flat (Zkc S dp (⟨⟨x_p_w,x_p_wn,x_p_fu,⟨x_p_r0,x_p_r1,x_p_r2,x_p_r3⟩,x_p_ms,x_p_ls,x_p_is⟩,⟨⟨⟨x_c_r0,x_c_r1,x_c_r2,x_c_r3⟩,x_c_mm,x_c_st,x_c_pc⟩,x_c_bf,x_c_rb,x_c_en⟩,x_i,⟨x_e_pc,x_e_vl,x_e_ad,x_e_fr,x_e_nx,x_e_dn,x_e_kn,x_e_ft⟩,⟨x_s_k,x_s_o,x_s_d,⟨x_s_ag,x_s_an⟩,⟨x_s_bg,x_s_bn⟩,x_s_nm,x_s_tg⟩⟩:Spot) hl) (np S 87 (by decide)) (rfl) A nb us
theorem Zkg (dp:Nat)(x:Spot)(hl:x.c.buf.length<1073741824):Z6 E fn (dp+6) 100 [CG x] (.tup [vi (Md.C8 x.p x.c x.i x.s.d).1,vb (Md.C8 x.p x.c x.i x.s.d).2]):=by
 unfold Z6
 show Zk (Z4 E fn (dp+5+1) 100 [.d (CG x)] [])=_
 rw[ZK,S.Zap,ZM,Zfy,ZP _ _ _ _ _ _ _ _ rfl]
 simp only[eG,go_sem,Z3 S,Z2 S,zN0,zN1,zN2,zN3,zN4,zI0,zI1,zI2,zI3,reduceCtorEq,WP S,hl,Md.Y5,Md.val,Md.C8]
theorem Zcm (dp:Nat)(x_p_w x_p_wn x_p_fu x_p_r0 x_p_r1 x_p_r2 x_p_r3:Int)(x_p_ms:List MemT)(x_p_ls:List Label)(x_p_is:List Ins)(x_c_r0 x_c_r1 x_c_r2 x_c_r3:Int)(x_c_mm x_c_st:List Int)(x_c_pc:Int)(x_c_bf:List Ent)(x_c_rb:List Int)(x_c_en x_i x_e_pc x_e_vl x_e_ad x_e_fr x_e_nx:Int)(x_e_dn x_e_kn x_e_ft:Bool)(x_s_k x_s_o x_s_d:Int)(x_s_ag:Bool)(x_s_an:Int)(x_s_bg:Bool)(x_s_bn:Int)(x_s_nm:ByteArray)(x_s_tg:Int)(hl:(⟨⟨x_p_w,x_p_wn,x_p_fu,⟨x_p_r0,x_p_r1,x_p_r2,x_p_r3⟩,x_p_ms,x_p_ls,x_p_is⟩,⟨⟨⟨x_c_r0,x_c_r1,x_c_r2,x_c_r3⟩,x_c_mm,x_c_st,x_c_pc⟩,x_c_bf,x_c_rb,x_c_en⟩,x_i,⟨x_e_pc,x_e_vl,x_e_ad,x_e_fr,x_e_nx,x_e_dn,x_e_kn,x_e_ft⟩,⟨x_s_k,x_s_o,x_s_d,⟨x_s_ag,x_s_an⟩,⟨x_s_bg,x_s_bn⟩,x_s_nm,x_s_tg⟩⟩:Spot).c.buf.length<1073741824)(A:List Blk)(nb:Nat)(us:List Nat):ZH false E (Z4 E fn (dp+6)) 100 A nb (some ([.agg [vi x_p_w,vi x_p_wn,vi x_p_fu,vi x_p_r0,vi x_p_r1,vi x_p_r2,vi x_p_r3,rD x_p_ms,rD x_p_ls,rD x_p_is,vi x_c_r0,vi x_c_r1,vi x_c_r2,vi x_c_r3,rD x_c_mm,rD x_c_st,vi x_c_pc,rD x_c_bf,rD x_c_rb,vi x_c_en,vi x_i,vi x_e_pc,vi x_e_vl,vi x_e_ad,vi x_e_fr,vi x_e_nx,vb x_e_dn,vb x_e_kn,vb x_e_ft,vi x_s_k,vi x_s_o,vi x_s_d,vb x_s_ag,vi x_s_an,vb x_s_bg,vi x_s_bn,vt x_s_nm,vi x_s_tg]],us))=some (.made (.d (.tup [vi (Md.C8 (⟨⟨x_p_w,x_p_wn,x_p_fu,⟨x_p_r0,x_p_r1,x_p_r2,x_p_r3⟩,x_p_ms,x_p_ls,x_p_is⟩,⟨⟨⟨x_c_r0,x_c_r1,x_c_r2,x_c_r3⟩,x_c_mm,x_c_st,x_c_pc⟩,x_c_bf,x_c_rb,x_c_en⟩,x_i,⟨x_e_pc,x_e_vl,x_e_ad,x_e_fr,x_e_nx,x_e_dn,x_e_kn,x_e_ft⟩,⟨x_s_k,x_s_o,x_s_d,⟨x_s_ag,x_s_an⟩,⟨x_s_bg,x_s_bn⟩,x_s_nm,x_s_tg⟩⟩:Spot).p (⟨⟨x_p_w,x_p_wn,x_p_fu,⟨x_p_r0,x_p_r1,x_p_r2,x_p_r3⟩,x_p_ms,x_p_ls,x_p_is⟩,⟨⟨⟨x_c_r0,x_c_r1,x_c_r2,x_c_r3⟩,x_c_mm,x_c_st,x_c_pc⟩,x_c_bf,x_c_rb,x_c_en⟩,x_i,⟨x_e_pc,x_e_vl,x_e_ad,x_e_fr,x_e_nx,x_e_dn,x_e_kn,x_e_ft⟩,⟨x_s_k,x_s_o,x_s_d,⟨x_s_ag,x_s_an⟩,⟨x_s_bg,x_s_bn⟩,x_s_nm,x_s_tg⟩⟩:Spot).c (⟨⟨x_p_w,x_p_wn,x_p_fu,⟨x_p_r0,x_p_r1,x_p_r2,x_p_r3⟩,x_p_ms,x_p_ls,x_p_is⟩,⟨⟨⟨x_c_r0,x_c_r1,x_c_r2,x_c_r3⟩,x_c_mm,x_c_st,x_c_pc⟩,x_c_bf,x_c_rb,x_c_en⟩,x_i,⟨x_e_pc,x_e_vl,x_e_ad,x_e_fr,x_e_nx,x_e_dn,x_e_kn,x_e_ft⟩,⟨x_s_k,x_s_o,x_s_d,⟨x_s_ag,x_s_an⟩,⟨x_s_bg,x_s_bn⟩,x_s_nm,x_s_tg⟩⟩:Spot).i (⟨⟨x_p_w,x_p_wn,x_p_fu,⟨x_p_r0,x_p_r1,x_p_r2,x_p_r3⟩,x_p_ms,x_p_ls,x_p_is⟩,⟨⟨⟨x_c_r0,x_c_r1,x_c_r2,x_c_r3⟩,x_c_mm,x_c_st,x_c_pc⟩,x_c_bf,x_c_rb,x_c_en⟩,x_i,⟨x_e_pc,x_e_vl,x_e_ad,x_e_fr,x_e_nx,x_e_dn,x_e_kn,x_e_ft⟩,⟨x_s_k,x_s_o,x_s_d,⟨x_s_ag,x_s_an⟩,⟨x_s_bg,x_s_bn⟩,x_s_nm,x_s_tg⟩⟩:Spot).s.d).1,vb (Md.C8 (⟨⟨x_p_w,x_p_wn,x_p_fu,⟨x_p_r0,x_p_r1,x_p_r2,x_p_r3⟩,x_p_ms,x_p_ls,x_p_is⟩,⟨⟨⟨x_c_r0,x_c_r1,x_c_r2,x_c_r3⟩,x_c_mm,x_c_st,x_c_pc⟩,x_c_bf,x_c_rb,x_c_en⟩,x_i,⟨x_e_pc,x_e_vl,x_e_ad,x_e_fr,x_e_nx,x_e_dn,x_e_kn,x_e_ft⟩,⟨x_s_k,x_s_o,x_s_d,⟨x_s_ag,x_s_an⟩,⟨x_s_bg,x_s_bn⟩,x_s_nm,x_s_tg⟩⟩:Spot).p (⟨⟨x_p_w,x_p_wn,x_p_fu,⟨x_p_r0,x_p_r1,x_p_r2,x_p_r3⟩,x_p_ms,x_p_ls,x_p_is⟩,⟨⟨⟨x_c_r0,x_c_r1,x_c_r2,x_c_r3⟩,x_c_mm,x_c_st,x_c_pc⟩,x_c_bf,x_c_rb,x_c_en⟩,x_i,⟨x_e_pc,x_e_vl,x_e_ad,x_e_fr,x_e_nx,x_e_dn,x_e_kn,x_e_ft⟩,⟨x_s_k,x_s_o,x_s_d,⟨x_s_ag,x_s_an⟩,⟨x_s_bg,x_s_bn⟩,x_s_nm,x_s_tg⟩⟩:Spot).c (⟨⟨x_p_w,x_p_wn,x_p_fu,⟨x_p_r0,x_p_r1,x_p_r2,x_p_r3⟩,x_p_ms,x_p_ls,x_p_is⟩,⟨⟨⟨x_c_r0,x_c_r1,x_c_r2,x_c_r3⟩,x_c_mm,x_c_st,x_c_pc⟩,x_c_bf,x_c_rb,x_c_en⟩,x_i,⟨x_e_pc,x_e_vl,x_e_ad,x_e_fr,x_e_nx,x_e_dn,x_e_kn,x_e_ft⟩,⟨x_s_k,x_s_o,x_s_d,⟨x_s_ag,x_s_an⟩,⟨x_s_bg,x_s_bn⟩,x_s_nm,x_s_tg⟩⟩:Spot).i (⟨⟨x_p_w,x_p_wn,x_p_fu,⟨x_p_r0,x_p_r1,x_p_r2,x_p_r3⟩,x_p_ms,x_p_ls,x_p_is⟩,⟨⟨⟨x_c_r0,x_c_r1,x_c_r2,x_c_r3⟩,x_c_mm,x_c_st,x_c_pc⟩,x_c_bf,x_c_rb,x_c_en⟩,x_i,⟨x_e_pc,x_e_vl,x_e_ad,x_e_fr,x_e_nx,x_e_dn,x_e_kn,x_e_ft⟩,⟨x_s_k,x_s_o,x_s_d,⟨x_s_ag,x_s_an⟩,⟨x_s_bg,x_s_bn⟩,x_s_nm,x_s_tg⟩⟩:Spot).s.d).2])) []):=
 Z6.flat (Zkg S dp (⟨⟨x_p_w,x_p_wn,x_p_fu,⟨x_p_r0,x_p_r1,x_p_r2,x_p_r3⟩,x_p_ms,x_p_ls,x_p_is⟩,⟨⟨⟨x_c_r0,x_c_r1,x_c_r2,x_c_r3⟩,x_c_mm,x_c_st,x_c_pc⟩,x_c_bf,x_c_rb,x_c_en⟩,x_i,⟨x_e_pc,x_e_vl,x_e_ad,x_e_fr,x_e_nx,x_e_dn,x_e_kn,x_e_ft⟩,⟨x_s_k,x_s_o,x_s_d,⟨x_s_ag,x_s_an⟩,⟨x_s_bg,x_s_bn⟩,x_s_nm,x_s_tg⟩⟩:Spot) hl) (np S 100 (by decide)) (rfl) A nb us
end
def KW (x:Spot):Bool:=(Md.Y5 x.p x.c x.i x.s.a).2&&(Md.Y5 x.p x.c x.i x.s.b).2
def FU (x:Spot):Int:=Md.Y2 x.p.w ((Md.Y5 x.p x.c x.i x.s.a).1+(Md.Y5 x.p x.c x.i x.s.b).1)
def MZ (x:Spot):Bool:=decide (FU x<Z7 x.p.mems)
def FE (x:Spot):Ent×Bool×Bool:=
 bif KW x then
  (bif MZ x then (⟨x.e.pc, (Md.EW x.p x.c x.i (FU x)).1, FU x, (Md.EW x.p x.c x.i (FU x)).2.1, x.e.next, true, true, x.e.fault⟩, true, (Md.EW x.p x.c x.i (FU x)).2.2)
   else(⟨x.e.pc,0,FU x,-1,x.e.next,true,true,true⟩,false,true))
 else(Md.N6,false,false)
def SS (x:Spot):Bool:=Md.ready (Z7 x.p.mems) x.p x.c x.i x.s (Md.Y5 x.p x.c x.i x.s.a) (Md.Y5 x.p x.c x.i x.s.b) (Md.C8 x.p x.c x.i x.s.d)
variable {E:Env} {fn:FuncId->Option (Env->cT->cT)}
section
variable (S:Sur E fn)
include S
theorem Z0o:E.lives 105 9=none/\E.lives 105 19=none:=⟨off S 105 9 (by decide) rfl,off S 105 19 (by decide) rfl⟩
theorem Zmu:E.lives 86 15=none/\E.lives 86 17=none/\E.lives 86 21=none/\E.lives 86 25=none/\E.lives 86 31=none/\E.lives 86 35=none:=⟨off S 86 15 (by decide) rfl,off S 86 17 (by decide) rfl,off S 86 21 (by decide) rfl,off S 86 25 (by decide) rfl,off S 86 31 (by decide) rfl,off S 86 35 (by decide) rfl⟩
theorem Zkf (dp:Nat)(x:Spot)(hl:x.c.buf.length<1073741824)(hm:x.p.mems.length<1073741824):Z6 E fn (dp+7) 105 [CG x] (.tup [.agg (Cl.cells (FE x).1),vb (FE x).2.1,vb (FE x).2.2]):=by
 unfold Z6
 show Zk (Z4 E fn (dp+6+1) 105 [.d (CG x)] [])=_
 rw[ZK,S.Zao,ZM,Zfx,ZP _ _ _ _ _ _ _ _ rfl]
 have e1:((Md.Y5 x.p x.c x.i x.s.a).2&&(Md.Y5 x.p x.c x.i x.s.b).2)=KW x:=rfl
 have e2:Md.Y2 x.p.w ((Md.Y5 x.p x.c x.i x.s.a).1+(Md.Y5 x.p x.c x.i x.s.b).1)=FU x:=rfl
 have e3:decide (FU x<Z7 x.p.mems)=MZ x:=rfl
 cases h:KW x with
 | false=>simp only[eG,go_sem,Z3 S,Z2 S,zN0,zN1,zN2,zN3,zN4,zI0,zI1,zI2,zI3,reduceCtorEq,Z0o S,Nv S,hl,e1,h,Bool.not_false,FE,Md.N6]
 | true=>
  cases h2:MZ x with
  | true=>simp only[eG,go_sem,Z3 S,Z2 S,zN0,zN1,zN2,zN3,zN4,zI0,zI1,zI2,zI3,reduceCtorEq,Z0o S,Nv S,hl,hm,e1,e2,e3,h,h2,Bool.not_true,Bool.not_false,FE,TX S,Zs1 S,Md.EW]
  | false=>simp only[eG,go_sem,Z3 S,Z2 S,zN0,zN1,zN2,zN3,zN4,zI0,zI1,zI2,zI3,reduceCtorEq,Z0o S,Nv S,hl,hm,e1,e2,e3,h,h2,Bool.not_true,Bool.not_false,FE,TX S]
theorem Zcl (dp:Nat)(x_p_w x_p_wn x_p_fu x_p_r0 x_p_r1 x_p_r2 x_p_r3:Int)(x_p_ms:List MemT)(x_p_ls:List Label)(x_p_is:List Ins)(x_c_r0 x_c_r1 x_c_r2 x_c_r3:Int)(x_c_mm x_c_st:List Int)(x_c_pc:Int)(x_c_bf:List Ent)(x_c_rb:List Int)(x_c_en x_i x_e_pc x_e_vl x_e_ad x_e_fr x_e_nx:Int)(x_e_dn x_e_kn x_e_ft:Bool)(x_s_k x_s_o x_s_d:Int)(x_s_ag:Bool)(x_s_an:Int)(x_s_bg:Bool)(x_s_bn:Int)(x_s_nm:ByteArray)(x_s_tg:Int)(hl:(⟨⟨x_p_w,x_p_wn,x_p_fu,⟨x_p_r0,x_p_r1,x_p_r2,x_p_r3⟩,x_p_ms,x_p_ls,x_p_is⟩,⟨⟨⟨x_c_r0,x_c_r1,x_c_r2,x_c_r3⟩,x_c_mm,x_c_st,x_c_pc⟩,x_c_bf,x_c_rb,x_c_en⟩,x_i,⟨x_e_pc,x_e_vl,x_e_ad,x_e_fr,x_e_nx,x_e_dn,x_e_kn,x_e_ft⟩,⟨x_s_k,x_s_o,x_s_d,⟨x_s_ag,x_s_an⟩,⟨x_s_bg,x_s_bn⟩,x_s_nm,x_s_tg⟩⟩:Spot).c.buf.length<1073741824)(hm:(⟨⟨x_p_w,x_p_wn,x_p_fu,⟨x_p_r0,x_p_r1,x_p_r2,x_p_r3⟩,x_p_ms,x_p_ls,x_p_is⟩,⟨⟨⟨x_c_r0,x_c_r1,x_c_r2,x_c_r3⟩,x_c_mm,x_c_st,x_c_pc⟩,x_c_bf,x_c_rb,x_c_en⟩,x_i,⟨x_e_pc,x_e_vl,x_e_ad,x_e_fr,x_e_nx,x_e_dn,x_e_kn,x_e_ft⟩,⟨x_s_k,x_s_o,x_s_d,⟨x_s_ag,x_s_an⟩,⟨x_s_bg,x_s_bn⟩,x_s_nm,x_s_tg⟩⟩:Spot).p.mems.length<1073741824)(A:List Blk)(nb:Nat)(us:List Nat):ZH false E (Z4 E fn (dp+7)) 105 A nb (some ([.agg [vi x_p_w,vi x_p_wn,vi x_p_fu,vi x_p_r0,vi x_p_r1,vi x_p_r2,vi x_p_r3,rD x_p_ms,rD x_p_ls,rD x_p_is,vi x_c_r0,vi x_c_r1,vi x_c_r2,vi x_c_r3,rD x_c_mm,rD x_c_st,vi x_c_pc,rD x_c_bf,rD x_c_rb,vi x_c_en,vi x_i,vi x_e_pc,vi x_e_vl,vi x_e_ad,vi x_e_fr,vi x_e_nx,vb x_e_dn,vb x_e_kn,vb x_e_ft,vi x_s_k,vi x_s_o,vi x_s_d,vb x_s_ag,vi x_s_an,vb x_s_bg,vi x_s_bn,vt x_s_nm,vi x_s_tg]],us))=some (.made (.d (.tup [.agg (Cl.cells (FE (⟨⟨x_p_w,x_p_wn,x_p_fu,⟨x_p_r0,x_p_r1,x_p_r2,x_p_r3⟩,x_p_ms,x_p_ls,x_p_is⟩,⟨⟨⟨x_c_r0,x_c_r1,x_c_r2,x_c_r3⟩,x_c_mm,x_c_st,x_c_pc⟩,x_c_bf,x_c_rb,x_c_en⟩,x_i,⟨x_e_pc,x_e_vl,x_e_ad,x_e_fr,x_e_nx,x_e_dn,x_e_kn,x_e_ft⟩,⟨x_s_k,x_s_o,x_s_d,⟨x_s_ag,x_s_an⟩,⟨x_s_bg,x_s_bn⟩,x_s_nm,x_s_tg⟩⟩:Spot)).1),vb (FE (⟨⟨x_p_w,x_p_wn,x_p_fu,⟨x_p_r0,x_p_r1,x_p_r2,x_p_r3⟩,x_p_ms,x_p_ls,x_p_is⟩,⟨⟨⟨x_c_r0,x_c_r1,x_c_r2,x_c_r3⟩,x_c_mm,x_c_st,x_c_pc⟩,x_c_bf,x_c_rb,x_c_en⟩,x_i,⟨x_e_pc,x_e_vl,x_e_ad,x_e_fr,x_e_nx,x_e_dn,x_e_kn,x_e_ft⟩,⟨x_s_k,x_s_o,x_s_d,⟨x_s_ag,x_s_an⟩,⟨x_s_bg,x_s_bn⟩,x_s_nm,x_s_tg⟩⟩:Spot)).2.1,vb (FE (⟨⟨x_p_w,x_p_wn,x_p_fu,⟨x_p_r0,x_p_r1,x_p_r2,x_p_r3⟩,x_p_ms,x_p_ls,x_p_is⟩,⟨⟨⟨x_c_r0,x_c_r1,x_c_r2,x_c_r3⟩,x_c_mm,x_c_st,x_c_pc⟩,x_c_bf,x_c_rb,x_c_en⟩,x_i,⟨x_e_pc,x_e_vl,x_e_ad,x_e_fr,x_e_nx,x_e_dn,x_e_kn,x_e_ft⟩,⟨x_s_k,x_s_o,x_s_d,⟨x_s_ag,x_s_an⟩,⟨x_s_bg,x_s_bn⟩,x_s_nm,x_s_tg⟩⟩:Spot)).2.2])) []):=
 Z6.flat (Zkf S dp (⟨⟨x_p_w,x_p_wn,x_p_fu,⟨x_p_r0,x_p_r1,x_p_r2,x_p_r3⟩,x_p_ms,x_p_ls,x_p_is⟩,⟨⟨⟨x_c_r0,x_c_r1,x_c_r2,x_c_r3⟩,x_c_mm,x_c_st,x_c_pc⟩,x_c_bf,x_c_rb,x_c_en⟩,x_i,⟨x_e_pc,x_e_vl,x_e_ad,x_e_fr,x_e_nx,x_e_dn,x_e_kn,x_e_ft⟩,⟨x_s_k,x_s_o,x_s_d,⟨x_s_ag,x_s_an⟩,⟨x_s_bg,x_s_bn⟩,x_s_nm,x_s_tg⟩⟩:Spot) hl hm) (np S 105 (by decide)) (rfl) A nb us
theorem Zkd (dp:Nat)(x:Spot)(hl:x.c.buf.length<1073741824)(hm:x.p.mems.length<1073741824):Z6 E fn (dp+8) 86 [CG x] (vb (SS x)):=by
 unfold Z6
 show Zk (Z4 E fn (dp+7+1) 86 [.d (CG x)] [])=_
 rw[ZK,S.Zam,ZM,Zfv,ZP _ _ _ _ _ _ _ _ rfl]
 have e1:((Md.Y5 x.p x.c x.i x.s.a).2&&(Md.Y5 x.p x.c x.i x.s.b).2)=KW x:=rfl
 have hld:(FE x).2.2=(KW x&&(decide (FU x>=Z7 x.p.mems) || (Md.EW x.p x.c x.i (FU x)).2.2)):=by
  unfold FE MZ
  cases KW x with
  | false=>rfl
  | true=>
   by_cases h:FU x<Z7 x.p.mems
   ·simp[h,Int.not_le.2 h]
   ·simp[h,Int.not_lt.1 h]
 unfold SS
 cases hab:KW x<;>simp only[eG,go_sem,Z3 S,Z2 S,zN0,zN1,zN2,zN3,zN4,zI0,zI1,zI2,zI3,reduceCtorEq,Zmu S,Nv S,Zcm S,WP S,Zcl S,hl,hm,e1,hab,hld]
 all_goals
  have h':=hab
  unfold KW at h'
  by_cases k1:x.s.kind=1
  ·simp only[k1,Md.ready,h',if_true,decide_true,cond_true,true_or]
  by_cases k5:x.s.kind=5
  ·simp only[k5,Md.ready,h',if_true,decide_true,cond_true,or_true,zI0,decide_false,cond_false]
  by_cases k4:x.s.kind=4
  ·simp only[k4,Md.ready,h',if_true,if_false,decide_true,cond_true,or_self,zI0,decide_false,cond_false,Bool.true_and,Bool.false_and]
  by_cases k2:x.s.kind=2
  ·simp only [k2, Md.ready, h', if_true, if_false, decide_true, cond_true, or_self, zI0, decide_false, cond_false, Bool.true_and, Bool.false_and, FU]
   try rfl
  by_cases k3:x.s.kind=3
  ·simp only[k3,Md.ready,if_true,if_false,decide_true,cond_true,or_self,zI0,decide_false,cond_false]
  by_cases k7:x.s.kind=7
  ·simp only[k7,Md.ready,if_true,if_false,decide_true,cond_true,or_self,zI0,decide_false,cond_false]
  ·simp only[k1,k2,k3,k4,k5,k7,Md.ready,if_true,if_false,decide_true,cond_true,or_self,zI0,decide_false,cond_false]
theorem Zs2 (dp:Nat)(x_p_w x_p_wn x_p_fu x_p_r0 x_p_r1 x_p_r2 x_p_r3:Int)(x_p_ms:List MemT)(x_p_ls:List Label)(x_p_is:List Ins)(x_c_r0 x_c_r1 x_c_r2 x_c_r3:Int)(x_c_mm x_c_st:List Int)(x_c_pc:Int)(x_c_bf:List Ent)(x_c_rb:List Int)(x_c_en x_i x_e_pc x_e_vl x_e_ad x_e_fr x_e_nx:Int)(x_e_dn x_e_kn x_e_ft:Bool)(x_s_k x_s_o x_s_d:Int)(x_s_ag:Bool)(x_s_an:Int)(x_s_bg:Bool)(x_s_bn:Int)(x_s_nm:ByteArray)(x_s_tg:Int)(hl:(⟨⟨x_p_w,x_p_wn,x_p_fu,⟨x_p_r0,x_p_r1,x_p_r2,x_p_r3⟩,x_p_ms,x_p_ls,x_p_is⟩,⟨⟨⟨x_c_r0,x_c_r1,x_c_r2,x_c_r3⟩,x_c_mm,x_c_st,x_c_pc⟩,x_c_bf,x_c_rb,x_c_en⟩,x_i,⟨x_e_pc,x_e_vl,x_e_ad,x_e_fr,x_e_nx,x_e_dn,x_e_kn,x_e_ft⟩,⟨x_s_k,x_s_o,x_s_d,⟨x_s_ag,x_s_an⟩,⟨x_s_bg,x_s_bn⟩,x_s_nm,x_s_tg⟩⟩:Spot).c.buf.length<1073741824)(hm:(⟨⟨x_p_w,x_p_wn,x_p_fu,⟨x_p_r0,x_p_r1,x_p_r2,x_p_r3⟩,x_p_ms,x_p_ls,x_p_is⟩,⟨⟨⟨x_c_r0,x_c_r1,x_c_r2,x_c_r3⟩,x_c_mm,x_c_st,x_c_pc⟩,x_c_bf,x_c_rb,x_c_en⟩,x_i,⟨x_e_pc,x_e_vl,x_e_ad,x_e_fr,x_e_nx,x_e_dn,x_e_kn,x_e_ft⟩,⟨x_s_k,x_s_o,x_s_d,⟨x_s_ag,x_s_an⟩,⟨x_s_bg,x_s_bn⟩,x_s_nm,x_s_tg⟩⟩:Spot).p.mems.length<1073741824)(A:List Blk)(nb:Nat)(us:List Nat):ZH false E (Z4 E fn (dp+8)) 86 A nb (some ([.agg [vi x_p_w,vi x_p_wn,vi x_p_fu,vi x_p_r0,vi x_p_r1,vi x_p_r2,vi x_p_r3,rD x_p_ms,rD x_p_ls,rD x_p_is,vi x_c_r0,vi x_c_r1,vi x_c_r2,vi x_c_r3,rD x_c_mm,rD x_c_st,vi x_c_pc,rD x_c_bf,rD x_c_rb,vi x_c_en,vi x_i,vi x_e_pc,vi x_e_vl,vi x_e_ad,vi x_e_fr,vi x_e_nx,vb x_e_dn,vb x_e_kn,vb x_e_ft,vi x_s_k,vi x_s_o,vi x_s_d,vb x_s_ag,vi x_s_an,vb x_s_bg,vi x_s_bn,vt x_s_nm,vi x_s_tg]],us))=some (.made (.d (vb (SS (⟨⟨x_p_w,x_p_wn,x_p_fu,⟨x_p_r0,x_p_r1,x_p_r2,x_p_r3⟩,x_p_ms,x_p_ls,x_p_is⟩,⟨⟨⟨x_c_r0,x_c_r1,x_c_r2,x_c_r3⟩,x_c_mm,x_c_st,x_c_pc⟩,x_c_bf,x_c_rb,x_c_en⟩,x_i,⟨x_e_pc,x_e_vl,x_e_ad,x_e_fr,x_e_nx,x_e_dn,x_e_kn,x_e_ft⟩,⟨x_s_k,x_s_o,x_s_d,⟨x_s_ag,x_s_an⟩,⟨x_s_bg,x_s_bn⟩,x_s_nm,x_s_tg⟩⟩:Spot)))) []):=
 Z6.flat (Zkd S dp (⟨⟨x_p_w,x_p_wn,x_p_fu,⟨x_p_r0,x_p_r1,x_p_r2,x_p_r3⟩,x_p_ms,x_p_ls,x_p_is⟩,⟨⟨⟨x_c_r0,x_c_r1,x_c_r2,x_c_r3⟩,x_c_mm,x_c_st,x_c_pc⟩,x_c_bf,x_c_rb,x_c_en⟩,x_i,⟨x_e_pc,x_e_vl,x_e_ad,x_e_fr,x_e_nx,x_e_dn,x_e_kn,x_e_ft⟩,⟨x_s_k,x_s_o,x_s_d,⟨x_s_ag,x_s_an⟩,⟨x_s_bg,x_s_bn⟩,x_s_nm,x_s_tg⟩⟩:Spot) hl hm) (np S 86 (by decide)) (rfl) A nb us
theorem Zkm (dp:Nat)(p:Prog)(c:Conf)(i:Int)(hl:c.buf.length<1073741824)(hm:p.mems.length<1073741824):Z6 E fn (dp+9) 55 [Zw p,ZA c,vi i] (vb (Md.can (Z7 p.mems) p c i)):=by
 unfold Z6
 show Zk (Z4 E fn (dp+8+1) 55 [.d (Zw p),.d (ZA c),.d (vi i)] [])=_
 rw[ZK,S.Zav,ZM,Zg4,ZP _ _ _ _ _ _ _ _ rfl]
 cases ho:Md.JG p c i with
 | false=>simp only[eG,go_sem,Z3 S,Z2 S,zN0,zN1,zN2,zN3,zN4,zI0,zI1,zI2,zI3,reduceCtorEq,H1 S,hl,ho,Md.can]
 | true=>
  have e:SS (JY p c i)=Md.ready (Z7 p.mems) p c i (Md.YB p c i) (Md.Y5 p c i (Md.YB p c i).a) (Md.Y5 p c i (Md.YB p c i).b) (Md.C8 p c i (Md.YB p c i).d):=rfl
  cases hd:(Md.ZW c.buf i).done with
  | true=>simp only[eG,go_sem,Z3 S,Z2 S,zN0,zN1,zN2,zN3,zN4,zI0,zI1,zI2,zI3,reduceCtorEq,H1 S,hl,ho,JY,hd,Bool.not_true,Md.can]
  | false=>
   have hd':(JY p c i).e.done=false:=hd
   have e2:SS { p:=(JY p c i).p,c:=(JY p c i).c,i:=(JY p c i).i,e:={ pc:=(JY p c i).e.pc,val:=(JY p c i).e.val,addr:=(JY p c i).e.addr,frm:=(JY p c i).e.frm,next:=(JY p c i).e.next,done:=false,known:=(JY p c i).e.known,fault:=(JY p c i).e.fault },s:=(JY p c i).s }=Md.ready (Z7 p.mems) p c i (Md.YB p c i) (Md.Y5 p c i (Md.YB p c i).a) (Md.Y5 p c i (Md.YB p c i).b) (Md.C8 p c i (Md.YB p c i).d):=by rw[<-hd'];exact e
   simp only[eG,go_sem,Z3 S,Z2 S,zN0,zN1,zN2,zN3,zN4,zI0,zI1,zI2,zI3,reduceCtorEq,H1 S,hl,ho,hd',Bool.not_false,Zs2 S,show(JY p c i).c.buf.length<1073741824 from hl,show(JY p c i).p.mems.length<1073741824 from hm,e2,Md.can,hd]
theorem PE (dp:Nat)(p_w p_wn p_fu p_r0 p_r1 p_r2 p_r3:Int)(p_ms:List MemT)(p_ls:List Label)(p_is:List Ins)(c_r0 c_r1 c_r2 c_r3:Int)(c_mm c_st:List Int)(c_pc:Int)(c_bf:List Ent)(c_rb:List Int)(c_en i:Int)(hl:(⟨⟨⟨c_r0,c_r1,c_r2,c_r3⟩,c_mm,c_st,c_pc⟩,c_bf,c_rb,c_en⟩:Conf).buf.length<1073741824)(hm:(⟨p_w,p_wn,p_fu,⟨p_r0,p_r1,p_r2,p_r3⟩,p_ms,p_ls,p_is⟩:Prog).mems.length<1073741824)(A:List Blk)(nb:Nat)(us:List Nat):ZH false E (Z4 E fn (dp+9)) 55 A nb (some ([.agg [vi p_w,vi p_wn,vi p_fu,vi p_r0,vi p_r1,vi p_r2,vi p_r3,rD p_ms,rD p_ls,rD p_is],.agg [vi c_r0,vi c_r1,vi c_r2,vi c_r3,rD c_mm,rD c_st,vi c_pc,rD c_bf,rD c_rb,vi c_en],vi i],us))=some (.made (.d (vb (Md.can (Z7 (⟨p_w,p_wn,p_fu,⟨p_r0,p_r1,p_r2,p_r3⟩,p_ms,p_ls,p_is⟩:Prog).mems) (⟨p_w,p_wn,p_fu,⟨p_r0,p_r1,p_r2,p_r3⟩,p_ms,p_ls,p_is⟩:Prog) (⟨⟨⟨c_r0,c_r1,c_r2,c_r3⟩,c_mm,c_st,c_pc⟩,c_bf,c_rb,c_en⟩:Conf) i))) []):=
 Z6.flat (Zkm S dp (⟨p_w,p_wn,p_fu,⟨p_r0,p_r1,p_r2,p_r3⟩,p_ms,p_ls,p_is⟩:Prog) (⟨⟨⟨c_r0,c_r1,c_r2,c_r3⟩,c_mm,c_st,c_pc⟩,c_bf,c_rb,c_en⟩:Conf) i hl hm) (np S 55 (by decide)) (rfl) A nb us
theorem Zke (dp:Nat)(x:Spot)(e:Ent)(hm:x.c.state.mem.length<1073741824)(hs:x.c.state.stack.length<1073741824)(hl:x.c.buf.length<1073741824)(hr:x.c.rsb.length<1073741824)(h0:0<=x.i)(h1:x.i<x.c.buf.length):Z6 E fn (dp+3) 106 [CG x,.agg (Cl.cells e)] (ZA (Md.put x.c x.i e)):=by
 unfold Z6
 show Zk (Z4 E fn (dp+2+1) 106 [.d (CG x),.d (.agg (Cl.cells e))] [])=_
 rw[ZK,S.Zan,ZM,Zfw,ZP _ _ _ _ _ _ _ _ rfl]
 simp only[eG,go_sem,Z3 S,Z2 S,zN0,zN1,zN2,zN3,zN4,zI0,zI1,zI2,zI3,reduceCtorEq,Z2h S,hm,hs,hl,hr,Zrq S,h0,h1,Md.put]
theorem KN (dp:Nat)(x_p_w x_p_wn x_p_fu x_p_r0 x_p_r1 x_p_r2 x_p_r3:Int)(x_p_ms:List MemT)(x_p_ls:List Label)(x_p_is:List Ins)(x_c_r0 x_c_r1 x_c_r2 x_c_r3:Int)(x_c_mm x_c_st:List Int)(x_c_pc:Int)(x_c_bf:List Ent)(x_c_rb:List Int)(x_c_en x_i x_e_pc x_e_vl x_e_ad x_e_fr x_e_nx:Int)(x_e_dn x_e_kn x_e_ft:Bool)(x_s_k x_s_o x_s_d:Int)(x_s_ag:Bool)(x_s_an:Int)(x_s_bg:Bool)(x_s_bn:Int)(x_s_nm:ByteArray)(x_s_tg e_pc e_vl e_ad e_fr e_nx:Int)(e_dn e_kn e_ft:Bool)(hm:(⟨⟨x_p_w,x_p_wn,x_p_fu,⟨x_p_r0,x_p_r1,x_p_r2,x_p_r3⟩,x_p_ms,x_p_ls,x_p_is⟩,⟨⟨⟨x_c_r0,x_c_r1,x_c_r2,x_c_r3⟩,x_c_mm,x_c_st,x_c_pc⟩,x_c_bf,x_c_rb,x_c_en⟩,x_i,⟨x_e_pc,x_e_vl,x_e_ad,x_e_fr,x_e_nx,x_e_dn,x_e_kn,x_e_ft⟩,⟨x_s_k,x_s_o,x_s_d,⟨x_s_ag,x_s_an⟩,⟨x_s_bg,x_s_bn⟩,x_s_nm,x_s_tg⟩⟩:Spot).c.state.mem.length<1073741824)(hs:(⟨⟨x_p_w,x_p_wn,x_p_fu,⟨x_p_r0,x_p_r1,x_p_r2,x_p_r3⟩,x_p_ms,x_p_ls,x_p_is⟩,⟨⟨⟨x_c_r0,x_c_r1,x_c_r2,x_c_r3⟩,x_c_mm,x_c_st,x_c_pc⟩,x_c_bf,x_c_rb,x_c_en⟩,x_i,⟨x_e_pc,x_e_vl,x_e_ad,x_e_fr,x_e_nx,x_e_dn,x_e_kn,x_e_ft⟩,⟨x_s_k,x_s_o,x_s_d,⟨x_s_ag,x_s_an⟩,⟨x_s_bg,x_s_bn⟩,x_s_nm,x_s_tg⟩⟩:Spot).c.state.stack.length<1073741824)(hl:(⟨⟨x_p_w,x_p_wn,x_p_fu,⟨x_p_r0,x_p_r1,x_p_r2,x_p_r3⟩,x_p_ms,x_p_ls,x_p_is⟩,⟨⟨⟨x_c_r0,x_c_r1,x_c_r2,x_c_r3⟩,x_c_mm,x_c_st,x_c_pc⟩,x_c_bf,x_c_rb,x_c_en⟩,x_i,⟨x_e_pc,x_e_vl,x_e_ad,x_e_fr,x_e_nx,x_e_dn,x_e_kn,x_e_ft⟩,⟨x_s_k,x_s_o,x_s_d,⟨x_s_ag,x_s_an⟩,⟨x_s_bg,x_s_bn⟩,x_s_nm,x_s_tg⟩⟩:Spot).c.buf.length<1073741824)(hr:(⟨⟨x_p_w,x_p_wn,x_p_fu,⟨x_p_r0,x_p_r1,x_p_r2,x_p_r3⟩,x_p_ms,x_p_ls,x_p_is⟩,⟨⟨⟨x_c_r0,x_c_r1,x_c_r2,x_c_r3⟩,x_c_mm,x_c_st,x_c_pc⟩,x_c_bf,x_c_rb,x_c_en⟩,x_i,⟨x_e_pc,x_e_vl,x_e_ad,x_e_fr,x_e_nx,x_e_dn,x_e_kn,x_e_ft⟩,⟨x_s_k,x_s_o,x_s_d,⟨x_s_ag,x_s_an⟩,⟨x_s_bg,x_s_bn⟩,x_s_nm,x_s_tg⟩⟩:Spot).c.rsb.length<1073741824)(h0:0<=(⟨⟨x_p_w,x_p_wn,x_p_fu,⟨x_p_r0,x_p_r1,x_p_r2,x_p_r3⟩,x_p_ms,x_p_ls,x_p_is⟩,⟨⟨⟨x_c_r0,x_c_r1,x_c_r2,x_c_r3⟩,x_c_mm,x_c_st,x_c_pc⟩,x_c_bf,x_c_rb,x_c_en⟩,x_i,⟨x_e_pc,x_e_vl,x_e_ad,x_e_fr,x_e_nx,x_e_dn,x_e_kn,x_e_ft⟩,⟨x_s_k,x_s_o,x_s_d,⟨x_s_ag,x_s_an⟩,⟨x_s_bg,x_s_bn⟩,x_s_nm,x_s_tg⟩⟩:Spot).i)(h1:(⟨⟨x_p_w,x_p_wn,x_p_fu,⟨x_p_r0,x_p_r1,x_p_r2,x_p_r3⟩,x_p_ms,x_p_ls,x_p_is⟩,⟨⟨⟨x_c_r0,x_c_r1,x_c_r2,x_c_r3⟩,x_c_mm,x_c_st,x_c_pc⟩,x_c_bf,x_c_rb,x_c_en⟩,x_i,⟨x_e_pc,x_e_vl,x_e_ad,x_e_fr,x_e_nx,x_e_dn,x_e_kn,x_e_ft⟩,⟨x_s_k,x_s_o,x_s_d,⟨x_s_ag,x_s_an⟩,⟨x_s_bg,x_s_bn⟩,x_s_nm,x_s_tg⟩⟩:Spot).i<(⟨⟨x_p_w,x_p_wn,x_p_fu,⟨x_p_r0,x_p_r1,x_p_r2,x_p_r3⟩,x_p_ms,x_p_ls,x_p_is⟩,⟨⟨⟨x_c_r0,x_c_r1,x_c_r2,x_c_r3⟩,x_c_mm,x_c_st,x_c_pc⟩,x_c_bf,x_c_rb,x_c_en⟩,x_i,⟨x_e_pc,x_e_vl,x_e_ad,x_e_fr,x_e_nx,x_e_dn,x_e_kn,x_e_ft⟩,⟨x_s_k,x_s_o,x_s_d,⟨x_s_ag,x_s_an⟩,⟨x_s_bg,x_s_bn⟩,x_s_nm,x_s_tg⟩⟩:Spot).c.buf.length)(A:List Blk)(nb:Nat):ZH false E (Z4 E fn (dp+3)) 106 A nb (some ([.agg [vi x_p_w,vi x_p_wn,vi x_p_fu,vi x_p_r0,vi x_p_r1,vi x_p_r2,vi x_p_r3,rD x_p_ms,rD x_p_ls,rD x_p_is,vi x_c_r0,vi x_c_r1,vi x_c_r2,vi x_c_r3,rD x_c_mm,rD x_c_st,vi x_c_pc,rD x_c_bf,rD x_c_rb,vi x_c_en,vi x_i,vi x_e_pc,vi x_e_vl,vi x_e_ad,vi x_e_fr,vi x_e_nx,vb x_e_dn,vb x_e_kn,vb x_e_ft,vi x_s_k,vi x_s_o,vi x_s_d,vb x_s_ag,vi x_s_an,vb x_s_bg,vi x_s_bn,vt x_s_nm,vi x_s_tg],.agg [vi e_pc,vi e_vl,vi e_ad,vi e_fr,vi e_nx,vb e_dn,vb e_kn,vb e_ft]],[]))=some (.made (.d (ZA (Md.put (⟨⟨x_p_w,x_p_wn,x_p_fu,⟨x_p_r0,x_p_r1,x_p_r2,x_p_r3⟩,x_p_ms,x_p_ls,x_p_is⟩,⟨⟨⟨x_c_r0,x_c_r1,x_c_r2,x_c_r3⟩,x_c_mm,x_c_st,x_c_pc⟩,x_c_bf,x_c_rb,x_c_en⟩,x_i,⟨x_e_pc,x_e_vl,x_e_ad,x_e_fr,x_e_nx,x_e_dn,x_e_kn,x_e_ft⟩,⟨x_s_k,x_s_o,x_s_d,⟨x_s_ag,x_s_an⟩,⟨x_s_bg,x_s_bn⟩,x_s_nm,x_s_tg⟩⟩:Spot).c (⟨⟨x_p_w,x_p_wn,x_p_fu,⟨x_p_r0,x_p_r1,x_p_r2,x_p_r3⟩,x_p_ms,x_p_ls,x_p_is⟩,⟨⟨⟨x_c_r0,x_c_r1,x_c_r2,x_c_r3⟩,x_c_mm,x_c_st,x_c_pc⟩,x_c_bf,x_c_rb,x_c_en⟩,x_i,⟨x_e_pc,x_e_vl,x_e_ad,x_e_fr,x_e_nx,x_e_dn,x_e_kn,x_e_ft⟩,⟨x_s_k,x_s_o,x_s_d,⟨x_s_ag,x_s_an⟩,⟨x_s_bg,x_s_bn⟩,x_s_nm,x_s_tg⟩⟩:Spot).i (⟨e_pc,e_vl,e_ad,e_fr,e_nx,e_dn,e_kn,e_ft⟩:Ent)))) []):=
 Z6.deep (Zke S dp (⟨⟨x_p_w,x_p_wn,x_p_fu,⟨x_p_r0,x_p_r1,x_p_r2,x_p_r3⟩,x_p_ms,x_p_ls,x_p_is⟩,⟨⟨⟨x_c_r0,x_c_r1,x_c_r2,x_c_r3⟩,x_c_mm,x_c_st,x_c_pc⟩,x_c_bf,x_c_rb,x_c_en⟩,x_i,⟨x_e_pc,x_e_vl,x_e_ad,x_e_fr,x_e_nx,x_e_dn,x_e_kn,x_e_ft⟩,⟨x_s_k,x_s_o,x_s_d,⟨x_s_ag,x_s_an⟩,⟨x_s_bg,x_s_bn⟩,x_s_nm,x_s_tg⟩⟩:Spot) (⟨e_pc,e_vl,e_ad,e_fr,e_nx,e_dn,e_kn,e_ft⟩:Ent) hm hs hl hr h0 h1) (np S 106 (by decide)) A nb
end
section
variable (S:Sur E fn)
include S
theorem Dv:E.lives 135 1=none/\E.lives 135 17=none/\E.lives 135 19=none/\E.lives 135 25=none/\E.lives 135 27=none:=⟨off S 135 1 (by decide) rfl,off S 135 17 (by decide) rfl,off S 135 19 (by decide) rfl,off S 135 25 (by decide) rfl,off S 135 27 (by decide) rfl⟩
theorem Zru {l:List Int}(h:l.length<1073741824)(call:cT)(A:List Blk)(nb:Nat)(us:List Nat):ZH true E call 117 A nb (some ([.lst (rC l) l.length none],us))=some (.made (YJ nb l) (Yw l)):=E9 S h call A nb us
theorem Z73 (dp:Nat)(p:Prog)(l:List Ent)(hl:l.length<1073741824)(kx:Nat->K)
  (hx:∀ T out junk k,ZT .bot T 10=.sref 1 0 0 (out:List Int).length 1 k->(out:List Int).length<1073741824->Zk (kx 0 (mk .bot 52 T) [.cells ((ZZ p).map .d) 0 false,.cells ((rC (out++junk)).map .d) 0 false])=some (CW (some out))):
  ∀(m k fuel:Nat) (out junk:List Int),k+m=l.length->m<=fuel->out.length<1073741824->Zk (FW (Zq E 135) (Z4 E fn (dp+1)) (Zj 8 FW (Zq E 135) (Z4 E fn (dp+1)) kx (ZX 0 [.tmp 8,.tmp 9]) fuel) kx (ZX 0 [.tmp 8,.tmp 9])
   (mk .bot 52 [(4,.ref 0 0 0),(10,.sref 1 0 0 out.length 1 none),(17,.d (rD l)),(18,aI l.length),(19,aI k)]) [.cells ((ZZ p).map .d) 0 false,.cells ((rC (out++junk)).map .d) 0 false])=
   some (CW (Md.Jq p (l.drop k) out)):=by
 intro m
 induction m with
 | zero=>
  intro k fuel out junk hk _ ho
  generalize Zj 8 FW _ _ kx _ fuel=KK
  rw[FW,List.drop_of_length_le (by omega)]
  simp only[eG,go_sem,Z3 S,Z2 S,zN0,zN1,zN2,zN3,zN4,zI0,zI1,zI2,zI3,reduceCtorEq,Dv S,show ¬(k:Int)<l.length by omega,Md.Jq]
  exact hx _ _ _ none rfl ho
 | succ m ih=>
  intro k fuel out junk hk hf ho
  obtain⟨e,he⟩:=YX (show k<l.length by omega)
  obtain⟨fuel,rfl⟩:∃ m,fuel=m+1:=⟨fuel-1,by omega⟩
  generalize hK:Zj 8 FW _ _ kx _ (fuel+1)=KK
  rw[FW,JQ he,Md.Jq]
  have h2:(k:Int)<l.length:=by omega
  by_cases k8:(Md.at_ p e.pc).kind=8
  ·by_cases h4 : 4 <= out.length
   ·simp only[eG,go_sem,Z3 S,Z2 S,zN0,zN1,zN2,zN3,zN4,zI0,zI1,zI2,zI3,reduceCtorEq,Dv S,Zz he,Yx S,wi k (by omega),h2,ge_iff_le,k8,h4,show(4:Int)<=out.length by omega,CW]
   ·have l1 : (out.length + 1) * 8 <= Z5 := by unfold Z5; omega
    have l2:out.length+1<=Z5:=by unfold Z5;omega
    cases junk with
    | nil=>
     simp only[List.append_nil]
     simp only[eG,go_sem,Z3 S,Z2 S,zN0,zN1,zN2,zN3,zN4,zI0,zI1,zI2,zI3,reduceCtorEq,Dv S,Zz he,Yx S,wi k (by omega),h2,ge_iff_le,k8,h4,show ¬(4:Int)<=out.length by omega,Z9,BX,l1,l2]
     rw[<-hK,Z8 (on S _ _ [4,10,17,18,19] (by decide) rfl) rfl _ _ _ _ _ _ _ _ _ rfl]
     simp only[eG,go_sem,Z3 S,Z2 S,zN0,zN1,zN2,zN3,zN4,zI0,zI1,zI2,zI3,reduceCtorEq,Dv S,Zz he,Yx S,wi k (by omega),h2,ge_iff_le]
     have e1:out.length+1=(out++[Md.ZY (e.pc+1)]).length:=by simp
     have:=ih (k+1) fuel (out++[Md.ZY (e.pc+1)]) [] (by omega) (by omega) (by simp;omega)
     rw[<-e1,List.append_nil] at this
     exact this
    | cons y junk=>
     simp only[eG,go_sem,Z3 S,Z2 S,zN0,zN1,zN2,zN3,zN4,zI0,zI1,zI2,zI3,reduceCtorEq,Dv S,Zz he,Yx S,wi k (by omega),h2,ge_iff_le,k8,h4,show ¬(4:Int)<=out.length by omega,Z9,Z36 (y:=y) (junk:=junk),l1,l2]
     rw[<-hK,Z8 (on S _ _ [4,10,17,18,19] (by decide) rfl) rfl _ _ _ _ _ _ _ _ _ rfl]
     simp only[eG,go_sem,Z3 S,Z2 S,zN0,zN1,zN2,zN3,zN4,zI0,zI1,zI2,zI3,reduceCtorEq,Dv S,Zz he,Yx S,wi k (by omega),h2,ge_iff_le]
     have e1:out.length+1=(out++[Md.ZY (e.pc+1)]).length:=by simp
     have:=ih (k+1) fuel (out++[Md.ZY (e.pc+1)]) junk (by omega) (by omega) (by simp;omega)
     rw[<-e1,List.append_assoc] at this
     exact this
  ·by_cases k9 : (Md.at_ p e.pc).kind = 9
   ·cases hr : out.reverse with
    | nil=>
     have:out=[]:=List.reverse_eq_nil_iff.1 hr
     subst this
     simp only[eG,go_sem,Z3 S,Z2 S,zN0,zN1,zN2,zN3,zN4,zI0,zI1,zI2,zI3,reduceCtorEq,Dv S,Zz he,Yx S,wi k (by omega),h2,ge_iff_le,k8,k9,List.length_nil,CW,zI0,Int.natCast_eq_zero]
    | cons y r=>
     have e0:out=r.reverse++[y]:=by rw[<-List.reverse_reverse out,hr,List.reverse_cons]
     subst e0
     have e1:(r.reverse++[y]).dropLast=r.reverse:=List.dropLast_concat
     have e2:(r.reverse++[y]).length=r.reverse.length+1:=by simp
     have w1:IntKind.i64.wrap (((r.reverse.length+1:Nat):Int)-1)=(r.reverse.length:Int):=by rw[e2] at ho;rw[Q4 (by omega) (by omega)];omega
     have bd:=H3 (r.reverse.length+1) .i64 (r.reverse.length:Int) (by omega) (by omega)
     rw[e2,e1]
     simp only[eG,go_sem,Z3 S,Z2 S,zN0,zN1,zN2,zN3,zN4,zI0,zI1,zI2,zI3,reduceCtorEq,Dv S,Zz he,Yx S,wi k (by omega),h2,ge_iff_le,k8,k9,w1,bd,Int.toNat_natCast,Nat.succ_ne_zero,Int.natCast_eq_zero,ne_eq,not_true_eq_false,and_false,Nat.zero_mul,Nat.sub_zero,Nat.add_zero,Nat.zero_add]
     rw[<-hK,Z8 (on S _ _ [4,10,17,18,19] (by decide) rfl) rfl _ _ _ _ _ _ _ _ _ rfl]
     simp only[eG,go_sem,Z3 S,Z2 S,zN0,zN1,zN2,zN3,zN4,zI0,zI1,zI2,zI3,reduceCtorEq,Dv S,Zz he,Yx S,wi k (by omega),h2,ge_iff_le]
     have:=ih (k+1) fuel r.reverse ([y]++junk) (by omega) (by omega) (by omega)
     rw[<-List.append_assoc] at this
     exact this
   ·simp only [eG, go_sem, Z3 S, Z2 S, zN0, zN1, zN2, zN3, zN4, zI0, zI1, zI2, zI3, reduceCtorEq, Dv S, Zz he, Yx S, wi k (by omega), h2, ge_iff_le, k8, k9]
    rw[<-hK,Z8 (on S _ _ [4,10,17,18,19] (by decide) rfl) rfl _ _ _ _ _ _ _ _ _ rfl]
    simp only[eG,go_sem,Z3 S,Z2 S,zN0,zN1,zN2,zN3,zN4,zI0,zI1,zI2,zI3,reduceCtorEq,Dv S,Zz he,Yx S,wi k (by omega),h2,ge_iff_le]
    exact ih (k+1) fuel out junk (by omega) (by omega) ho
theorem Zo7 (dp:Nat)(p:Prog)(l:List Ent)(hl:l.length<1073741824)(kx:Nat->K)
  (hx:∀ T out junk k,ZT .bot T 10=.sref 1 0 0 (out:List Int).length 1 k->(out:List Int).length<1073741824->Zk (kx 0 (mk .bot 52 T) [.cells ((ZZ p).map .d) 0 false,.cells ((rC (out++junk)).map .d) 0 false])=some (CW (some out)))
  (hx0:∀ T,ZT .bot T 10=.d (.lst [] 0 (some 0))->Zk (kx 0 (mk .bot 52 T) [.cells ((ZZ p).map .d) 0 false])=some (CW (some []))):
  ∀(m k fuel:Nat),k+m=l.length->m<=fuel->Zk (FW (Zq E 135) (Z4 E fn (dp+1)) (Zj 8 FW (Zq E 135) (Z4 E fn (dp+1)) kx (ZX 0 [.tmp 8,.tmp 9]) fuel) kx (ZX 0 [.tmp 8,.tmp 9])
   (mk .bot 52 [(4,.ref 0 0 0),(10,.d (.lst [] 0 (some 0))),(17,.d (rD l)),(18,aI l.length),(19,aI k)]) [.cells ((ZZ p).map .d) 0 false])=
   some (CW (Md.Jq p (l.drop k) [])):=by
 intro m
 induction m with
 | zero=>
  intro k fuel hk _
  generalize Zj 8 FW _ _ kx _ fuel=KK
  rw[FW,List.drop_of_length_le (by omega)]
  simp only[eG,go_sem,Z3 S,Z2 S,zN0,zN1,zN2,zN3,zN4,zI0,zI1,zI2,zI3,reduceCtorEq,Dv S,show ¬(k:Int)<l.length by omega,Md.Jq]
  exact hx0 _ rfl
 | succ m ih=>
  intro k fuel hk hf
  obtain⟨e,he⟩:=YX (show k<l.length by omega)
  obtain⟨fuel,rfl⟩:∃ m,fuel=m+1:=⟨fuel-1,by omega⟩
  generalize hK:Zj 8 FW _ _ kx _ (fuel+1)=KK
  rw[FW,JQ he,Md.Jq]
  have h2:(k:Int)<l.length:=by omega
  by_cases k8:(Md.at_ p e.pc).kind=8
  ·simp only [eG, go_sem, Z3 S, Z2 S, zN0, zN1, zN2, zN3, zN4, zI0, zI1, zI2, zI3, reduceCtorEq, Dv S, Zz he, Yx S, wi k (by omega), h2, ge_iff_le, k8, List.length_nil, show ¬ (4 : Int) <= (0 : Nat) by omega, Z9, Nat.zero_add, Nat.zero_mul, Nat.lt_add_one, true_and, show (1 : Nat) * 8 <= Z5 by decide, show (1 : Nat) <= Z5 by decide, and_self]
   rw[<-hK,Z8 (on S _ _ [4,10,17,18,19] (by decide) rfl) rfl _ _ _ _ _ _ _ _ _ rfl]
   simp only[eG,go_sem,Z3 S,Z2 S,zN0,zN1,zN2,zN3,zN4,zI0,zI1,zI2,zI3,reduceCtorEq,Dv S,Zz he,Yx S,wi k (by omega),h2,ge_iff_le]
   exact Z73 S dp p l hl kx hx m (k+1) fuel [Md.ZY (e.pc+1)] [] (by omega) (by omega) (by simp)
  ·by_cases k9 : (Md.at_ p e.pc).kind = 9
   ·simp only[eG,go_sem,Z3 S,Z2 S,zN0,zN1,zN2,zN3,zN4,zI0,zI1,zI2,zI3,reduceCtorEq,Dv S,Zz he,Yx S,wi k (by omega),h2,ge_iff_le,k8,k9,List.length_nil,CW,zI0,Int.natCast_eq_zero]
   ·simp only [eG, go_sem, Z3 S, Z2 S, zN0, zN1, zN2, zN3, zN4, zI0, zI1, zI2, zI3, reduceCtorEq, Dv S, Zz he, Yx S, wi k (by omega), h2, ge_iff_le, k8, k9]
    rw[<-hK,Z8 (on S _ _ [4,10,17,18,19] (by decide) rfl) rfl _ _ _ _ _ _ _ _ _ rfl]
    simp only[eG,go_sem,Z3 S,Z2 S,zN0,zN1,zN2,zN3,zN4,zI0,zI1,zI2,zI3,reduceCtorEq,Dv S,Zz he,Yx S,wi k (by omega),h2,ge_iff_le]
    exact ih (k+1) fuel (by omega) (by omega)
end
theorem Zsy {i:Nat}{out:List Int}{k:Option Nat}{A:List Blk}{b:Bool}(hA:A[i]? =some (.cells ((rC out).map .d) 0 false)):
  Zk (DE 0 (some (.tup [.sref i 0 0 out.length 1 k,YD b],A)))=some (.tup [rD out,vb b]):=Z37 (junk:=[]) (by rw[List.append_nil];exact hA)
variable {E:Env} {fn:FuncId->Option (Env->cT->cT)}
section
variable (S:Sur E fn)
include S
theorem P4:E.lives 135 1=none/\E.lives 135 17=none/\E.lives 135 19=none/\E.lives 135 25=none/\E.lives 135 27=none:=⟨off S 135 1 (by decide) rfl,off S 135 17 (by decide) rfl,off S 135 19 (by decide) rfl,off S 135 25 (by decide) rfl,off S 135 27 (by decide) rfl⟩
theorem Z69:E.lives 102 13=none:=off S 102 13 (by decide) rfl
theorem Z0p:E.lives 104 11=none:=off S 104 11 (by decide) rfl
theorem Z2i (call:cT)(A:List Blk)(nb:Nat)(us:List Nat):ZH true E call 117 A nb (some ([.lst [] 0 none],us))=some (.made (.d (.lst [] 0 (some 0))) []):=E9 S (l:=[]) (by decide) call A nb us
theorem Ziz (dp:Nat)(p:Prog)(sk:List Int)(l:List Ent)(i:Int)(hl:l.length<1073741824)(hs:sk.length<1073741824):Z6 E fn (dp+3) 135 [Zw p,rD sk,rD l,vi i] (.tup [rD (Bv (Md.real p sk l i)),vb (ED (Md.real p sk l i))]):=by
 unfold Z6
 show Zk (Z4 E fn (dp+2+1) 135 [.d (Zw p),.d (rD sk),.d (rD l),.d (vi i)] [])=_
 rw[ZK,S.Z90,ZM,Ze9,ZP _ _ _ _ _ _ _ _ rfl]
 have hcl:=K1 l i
 have fin:∀ X:Option (List Int),DV.tup [rD (Bv X),vb (ED X)]=CW X:=fun X=>by cases X<;>rfl
 rw[fin]
 have h0x:∀ T,ZT .bot T 10=.d (.lst [] 0 (some 0))->Zk (H4 0 (cQ (Z1 [st 50 (oV (.t 10)),st 51 (oK (.f 117) [(.t 50)]),st 8 (oV (.t 51)),st 9 (oV (.c (.v (.bool true))))]) cZ (Zq E 135) (Z4 E fn (dp+2)) (ZX 0 [.tmp 8,.tmp 9]) (fun _ _ _=>none) (ZX 0 [.tmp 8,.tmp 9])) (fun _ _ _=>none) 0 (mk .bot 52 T) [.cells ((ZZ p).map .d) 0 false])=some (CW (some [])):=by
  intro T h
  simp only[eG,go_sem,Z3 S,Z2 S,zN0,zN1,zN2,zN3,zN4,zI0,zI1,zI2,zI3,reduceCtorEq,P4 S,h,Z2i S,CW]
 have hx:∀ T out junk k,ZT .bot T 10=.sref 1 0 0 (out:List Int).length 1 k->(out:List Int).length<1073741824->Zk (H4 0 (cQ (Z1 [st 50 (oV (.t 10)),st 51 (oK (.f 117) [(.t 50)]),st 8 (oV (.t 51)),st 9 (oV (.c (.v (.bool true))))]) cZ (Zq E 135) (Z4 E fn (dp+2)) (ZX 0 [.tmp 8,.tmp 9]) (fun _ _ _=>none) (ZX 0 [.tmp 8,.tmp 9])) (fun _ _ _=>none) 0 (mk .bot 52 T) [.cells ((ZZ p).map .d) 0 false,.cells ((rC (out++junk)).map .d) 0 false])=some (CW (some out)):=by
  intro T out junk k h ho
  by_cases hz:out.length=0
  ·have : out = [] := List.length_eq_zero_iff.1 hz
   subst this
   simp only[eG,go_sem,Z3 S,Z2 S,zN0,zN1,zN2,zN3,zN4,zI0,zI1,zI2,zI3,reduceCtorEq,P4 S,h,Z2i S,CW]
  ·have hne : out ≠ [] := fun h => hz (by rw [h]; rfl)
   have hd:=Zbt (i:=1) (A:=[.cells ((ZZ p).map .d) 0 false,.cells ((rC (out++junk)).map .d) 0 false]) hne rfl 6 1 k rfl
   simp only[ZZ,List.map_cons,List.map_nil] at hd
   simp only[go_sem,Z3 S,Z2 S,zN0,zN1,zN2,zN3,zN4,zI0,zI1,zI2,zI3,reduceCtorEq,P4 S,h,hd,Zru S ho,ZC hz,ZB hz]
   exact Zsy rfl
 by_cases h0:sk.length=0
 ·have : sk = [] := List.length_eq_zero_iff.1 h0
  subst this
  simp only[eG,go_sem,Z3 S,Z2 S,zN0,zN1,zN2,zN3,zN4,zI0,zI1,zI2,zI3,reduceCtorEq,P4 S,Z2i S,PD S,hl]
  rw[Y9,Z8 (on S _ _ [4,10,17,18,19] (by decide) rfl) rfl _ _ _ _ _ _ _ _ _ rfl]
  simp only[eG,go_sem,Z3 S,Z2 S,zN0,zN1,zN2,zN3,zN4,zI0,zI1,zI2,zI3,reduceCtorEq,P4 S]
  exact Zo7 S (dp+1) p (Md.cut l i) (by omega) _ hx h0x (Md.cut l i).length 0 _ (by omega) (by omega)
 ·simp only [eG, go_sem, Z3 S, Z2 S, zN0, zN1, zN2, zN3, zN4, zI0, zI1, zI2, zI3, reduceCtorEq, P4 S, E9 S hs, ZC h0, ZB h0, PD S, hl]
  rw[Y9,Z8 (on S _ _ [4,10,17,18,19] (by decide) rfl) rfl _ _ _ _ _ _ _ _ _ rfl]
  simp only[eG,go_sem,Z3 S,Z2 S,zN0,zN1,zN2,zN3,zN4,zI0,zI1,zI2,zI3,reduceCtorEq,P4 S]
  have:=Z73 S (dp+1) p (Md.cut l i) (by omega) _ hx (Md.cut l i).length 0 999999999999999999999999999999 sk [] (by omega) (by omega) hs
  rw[List.append_nil] at this
  exact this
theorem TY (dp:Nat)(p_w p_wn p_fu p_r0 p_r1 p_r2 p_r3:Int)(p_ms:List MemT)(p_ls:List Label)(p_is:List Ins)(sk:List Int)(l:List Ent)(i:Int)(hl:l.length<1073741824)(hs:sk.length<1073741824)(A:List Blk)(nb:Nat):ZH false E (Z4 E fn (dp+3)) 135 A nb (some ([.agg [vi p_w,vi p_wn,vi p_fu,vi p_r0,vi p_r1,vi p_r2,vi p_r3,rD p_ms,rD p_ls,rD p_is],rD sk,rD l,vi i],[]))=some (.made (.d (.tup [rD (Bv (Md.real (⟨p_w,p_wn,p_fu,⟨p_r0,p_r1,p_r2,p_r3⟩,p_ms,p_ls,p_is⟩:Prog) sk l i)),vb (ED (Md.real (⟨p_w,p_wn,p_fu,⟨p_r0,p_r1,p_r2,p_r3⟩,p_ms,p_ls,p_is⟩:Prog) sk l i))])) []):=
 Z6.deep (Ziz S dp (⟨p_w,p_wn,p_fu,⟨p_r0,p_r1,p_r2,p_r3⟩,p_ms,p_ls,p_is⟩:Prog) sk l i hl hs) (np S 135 (by decide)) A nb
theorem Zkh (dp:Nat)(x:Spot)(to:Int)(hm:x.c.state.mem.length<1073741824)(hs:x.c.state.stack.length<1073741824)(hl:x.c.buf.length<1073741824)(hr:x.c.rsb.length<1073741824)(h0:0<=x.i)(h1:x.i<x.c.buf.length):Z6 E fn (dp+4) 102 [CG x,vi to] (.tup [ZA (Md.B6 x.c x.i x.e to).1,rD (Md.B6 x.c x.i x.e to).2,vb true]):=by
 unfold Z6
 show Zk (Z4 E fn (dp+3+1) 102 [.d (CG x),.d (vi to)] [])=_
 rw[ZK,S.Zaq,ZM,Zfz,ZP _ _ _ _ _ _ _ _ rfl]
 have w1:IntKind.i64.wrap (x.i+1)=x.i+1:=Q4 (by omega) (by omega)
 have t1:(x.i+1).toNat=x.i.toNat+1:=by omega
 by_cases he:to=x.e.next
 ·simp only [eG, go_sem, Z3 S, Z2 S, zN0, zN1, zN2, zN3, zN4, zI0, zI1, zI2, zI3, reduceCtorEq, Z69 S, eq_true he, Bool.not_true, KN S, hm, hs, hl, hr, h0, h1, Z9, Yk, Nat.succ_ne_zero, Nat.one_ne_zero, Nat.one_mul, Nat.le_refl, Md.B6, eq_true he.symm, Md.put]
  rfl
 ·have he' : ¬ x.e.next = to := fun h => he h.symm
  simp only[eG,go_sem,Z3 S,Z2 S,zN0,zN1,zN2,zN3,zN4,zI0,zI1,zI2,zI3,reduceCtorEq,Z69 S,eq_false he,Bool.not_false,KN S,hm,hs,hl,hr,h0,h1,Z9,Yk,Nat.succ_ne_zero,Nat.one_ne_zero,Nat.one_mul,Nat.le_refl,Md.B6,eq_false he',Md.put,PD S,List.length_set,w1,Md.cut,t1]
  rfl
theorem WQ (dp:Nat)(x_p_w x_p_wn x_p_fu x_p_r0 x_p_r1 x_p_r2 x_p_r3:Int)(x_p_ms:List MemT)(x_p_ls:List Label)(x_p_is:List Ins)(x_c_r0 x_c_r1 x_c_r2 x_c_r3:Int)(x_c_mm x_c_st:List Int)(x_c_pc:Int)(x_c_bf:List Ent)(x_c_rb:List Int)(x_c_en x_i x_e_pc x_e_vl x_e_ad x_e_fr x_e_nx:Int)(x_e_dn x_e_kn x_e_ft:Bool)(x_s_k x_s_o x_s_d:Int)(x_s_ag:Bool)(x_s_an:Int)(x_s_bg:Bool)(x_s_bn:Int)(x_s_nm:ByteArray)(x_s_tg to:Int)(hm:(⟨⟨x_p_w,x_p_wn,x_p_fu,⟨x_p_r0,x_p_r1,x_p_r2,x_p_r3⟩,x_p_ms,x_p_ls,x_p_is⟩,⟨⟨⟨x_c_r0,x_c_r1,x_c_r2,x_c_r3⟩,x_c_mm,x_c_st,x_c_pc⟩,x_c_bf,x_c_rb,x_c_en⟩,x_i,⟨x_e_pc,x_e_vl,x_e_ad,x_e_fr,x_e_nx,x_e_dn,x_e_kn,x_e_ft⟩,⟨x_s_k,x_s_o,x_s_d,⟨x_s_ag,x_s_an⟩,⟨x_s_bg,x_s_bn⟩,x_s_nm,x_s_tg⟩⟩:Spot).c.state.mem.length<1073741824)(hs:(⟨⟨x_p_w,x_p_wn,x_p_fu,⟨x_p_r0,x_p_r1,x_p_r2,x_p_r3⟩,x_p_ms,x_p_ls,x_p_is⟩,⟨⟨⟨x_c_r0,x_c_r1,x_c_r2,x_c_r3⟩,x_c_mm,x_c_st,x_c_pc⟩,x_c_bf,x_c_rb,x_c_en⟩,x_i,⟨x_e_pc,x_e_vl,x_e_ad,x_e_fr,x_e_nx,x_e_dn,x_e_kn,x_e_ft⟩,⟨x_s_k,x_s_o,x_s_d,⟨x_s_ag,x_s_an⟩,⟨x_s_bg,x_s_bn⟩,x_s_nm,x_s_tg⟩⟩:Spot).c.state.stack.length<1073741824)(hl:(⟨⟨x_p_w,x_p_wn,x_p_fu,⟨x_p_r0,x_p_r1,x_p_r2,x_p_r3⟩,x_p_ms,x_p_ls,x_p_is⟩,⟨⟨⟨x_c_r0,x_c_r1,x_c_r2,x_c_r3⟩,x_c_mm,x_c_st,x_c_pc⟩,x_c_bf,x_c_rb,x_c_en⟩,x_i,⟨x_e_pc,x_e_vl,x_e_ad,x_e_fr,x_e_nx,x_e_dn,x_e_kn,x_e_ft⟩,⟨x_s_k,x_s_o,x_s_d,⟨x_s_ag,x_s_an⟩,⟨x_s_bg,x_s_bn⟩,x_s_nm,x_s_tg⟩⟩:Spot).c.buf.length<1073741824)(hr:(⟨⟨x_p_w,x_p_wn,x_p_fu,⟨x_p_r0,x_p_r1,x_p_r2,x_p_r3⟩,x_p_ms,x_p_ls,x_p_is⟩,⟨⟨⟨x_c_r0,x_c_r1,x_c_r2,x_c_r3⟩,x_c_mm,x_c_st,x_c_pc⟩,x_c_bf,x_c_rb,x_c_en⟩,x_i,⟨x_e_pc,x_e_vl,x_e_ad,x_e_fr,x_e_nx,x_e_dn,x_e_kn,x_e_ft⟩,⟨x_s_k,x_s_o,x_s_d,⟨x_s_ag,x_s_an⟩,⟨x_s_bg,x_s_bn⟩,x_s_nm,x_s_tg⟩⟩:Spot).c.rsb.length<1073741824)(h0:0<=(⟨⟨x_p_w,x_p_wn,x_p_fu,⟨x_p_r0,x_p_r1,x_p_r2,x_p_r3⟩,x_p_ms,x_p_ls,x_p_is⟩,⟨⟨⟨x_c_r0,x_c_r1,x_c_r2,x_c_r3⟩,x_c_mm,x_c_st,x_c_pc⟩,x_c_bf,x_c_rb,x_c_en⟩,x_i,⟨x_e_pc,x_e_vl,x_e_ad,x_e_fr,x_e_nx,x_e_dn,x_e_kn,x_e_ft⟩,⟨x_s_k,x_s_o,x_s_d,⟨x_s_ag,x_s_an⟩,⟨x_s_bg,x_s_bn⟩,x_s_nm,x_s_tg⟩⟩:Spot).i)(h1:(⟨⟨x_p_w,x_p_wn,x_p_fu,⟨x_p_r0,x_p_r1,x_p_r2,x_p_r3⟩,x_p_ms,x_p_ls,x_p_is⟩,⟨⟨⟨x_c_r0,x_c_r1,x_c_r2,x_c_r3⟩,x_c_mm,x_c_st,x_c_pc⟩,x_c_bf,x_c_rb,x_c_en⟩,x_i,⟨x_e_pc,x_e_vl,x_e_ad,x_e_fr,x_e_nx,x_e_dn,x_e_kn,x_e_ft⟩,⟨x_s_k,x_s_o,x_s_d,⟨x_s_ag,x_s_an⟩,⟨x_s_bg,x_s_bn⟩,x_s_nm,x_s_tg⟩⟩:Spot).i<(⟨⟨x_p_w,x_p_wn,x_p_fu,⟨x_p_r0,x_p_r1,x_p_r2,x_p_r3⟩,x_p_ms,x_p_ls,x_p_is⟩,⟨⟨⟨x_c_r0,x_c_r1,x_c_r2,x_c_r3⟩,x_c_mm,x_c_st,x_c_pc⟩,x_c_bf,x_c_rb,x_c_en⟩,x_i,⟨x_e_pc,x_e_vl,x_e_ad,x_e_fr,x_e_nx,x_e_dn,x_e_kn,x_e_ft⟩,⟨x_s_k,x_s_o,x_s_d,⟨x_s_ag,x_s_an⟩,⟨x_s_bg,x_s_bn⟩,x_s_nm,x_s_tg⟩⟩:Spot).c.buf.length)(A:List Blk)(nb:Nat):ZH false E (Z4 E fn (dp+4)) 102 A nb (some ([.agg [vi x_p_w,vi x_p_wn,vi x_p_fu,vi x_p_r0,vi x_p_r1,vi x_p_r2,vi x_p_r3,rD x_p_ms,rD x_p_ls,rD x_p_is,vi x_c_r0,vi x_c_r1,vi x_c_r2,vi x_c_r3,rD x_c_mm,rD x_c_st,vi x_c_pc,rD x_c_bf,rD x_c_rb,vi x_c_en,vi x_i,vi x_e_pc,vi x_e_vl,vi x_e_ad,vi x_e_fr,vi x_e_nx,vb x_e_dn,vb x_e_kn,vb x_e_ft,vi x_s_k,vi x_s_o,vi x_s_d,vb x_s_ag,vi x_s_an,vb x_s_bg,vi x_s_bn,vt x_s_nm,vi x_s_tg],vi to],[]))=some (.made (.d (.tup [ZA (Md.B6 (⟨⟨x_p_w,x_p_wn,x_p_fu,⟨x_p_r0,x_p_r1,x_p_r2,x_p_r3⟩,x_p_ms,x_p_ls,x_p_is⟩,⟨⟨⟨x_c_r0,x_c_r1,x_c_r2,x_c_r3⟩,x_c_mm,x_c_st,x_c_pc⟩,x_c_bf,x_c_rb,x_c_en⟩,x_i,⟨x_e_pc,x_e_vl,x_e_ad,x_e_fr,x_e_nx,x_e_dn,x_e_kn,x_e_ft⟩,⟨x_s_k,x_s_o,x_s_d,⟨x_s_ag,x_s_an⟩,⟨x_s_bg,x_s_bn⟩,x_s_nm,x_s_tg⟩⟩:Spot).c (⟨⟨x_p_w,x_p_wn,x_p_fu,⟨x_p_r0,x_p_r1,x_p_r2,x_p_r3⟩,x_p_ms,x_p_ls,x_p_is⟩,⟨⟨⟨x_c_r0,x_c_r1,x_c_r2,x_c_r3⟩,x_c_mm,x_c_st,x_c_pc⟩,x_c_bf,x_c_rb,x_c_en⟩,x_i,⟨x_e_pc,x_e_vl,x_e_ad,x_e_fr,x_e_nx,x_e_dn,x_e_kn,x_e_ft⟩,⟨x_s_k,x_s_o,x_s_d,⟨x_s_ag,x_s_an⟩,⟨x_s_bg,x_s_bn⟩,x_s_nm,x_s_tg⟩⟩:Spot).i (⟨⟨x_p_w,x_p_wn,x_p_fu,⟨x_p_r0,x_p_r1,x_p_r2,x_p_r3⟩,x_p_ms,x_p_ls,x_p_is⟩,⟨⟨⟨x_c_r0,x_c_r1,x_c_r2,x_c_r3⟩,x_c_mm,x_c_st,x_c_pc⟩,x_c_bf,x_c_rb,x_c_en⟩,x_i,⟨x_e_pc,x_e_vl,x_e_ad,x_e_fr,x_e_nx,x_e_dn,x_e_kn,x_e_ft⟩,⟨x_s_k,x_s_o,x_s_d,⟨x_s_ag,x_s_an⟩,⟨x_s_bg,x_s_bn⟩,x_s_nm,x_s_tg⟩⟩:Spot).e to).1,rD (Md.B6 (⟨⟨x_p_w,x_p_wn,x_p_fu,⟨x_p_r0,x_p_r1,x_p_r2,x_p_r3⟩,x_p_ms,x_p_ls,x_p_is⟩,⟨⟨⟨x_c_r0,x_c_r1,x_c_r2,x_c_r3⟩,x_c_mm,x_c_st,x_c_pc⟩,x_c_bf,x_c_rb,x_c_en⟩,x_i,⟨x_e_pc,x_e_vl,x_e_ad,x_e_fr,x_e_nx,x_e_dn,x_e_kn,x_e_ft⟩,⟨x_s_k,x_s_o,x_s_d,⟨x_s_ag,x_s_an⟩,⟨x_s_bg,x_s_bn⟩,x_s_nm,x_s_tg⟩⟩:Spot).c (⟨⟨x_p_w,x_p_wn,x_p_fu,⟨x_p_r0,x_p_r1,x_p_r2,x_p_r3⟩,x_p_ms,x_p_ls,x_p_is⟩,⟨⟨⟨x_c_r0,x_c_r1,x_c_r2,x_c_r3⟩,x_c_mm,x_c_st,x_c_pc⟩,x_c_bf,x_c_rb,x_c_en⟩,x_i,⟨x_e_pc,x_e_vl,x_e_ad,x_e_fr,x_e_nx,x_e_dn,x_e_kn,x_e_ft⟩,⟨x_s_k,x_s_o,x_s_d,⟨x_s_ag,x_s_an⟩,⟨x_s_bg,x_s_bn⟩,x_s_nm,x_s_tg⟩⟩:Spot).i (⟨⟨x_p_w,x_p_wn,x_p_fu,⟨x_p_r0,x_p_r1,x_p_r2,x_p_r3⟩,x_p_ms,x_p_ls,x_p_is⟩,⟨⟨⟨x_c_r0,x_c_r1,x_c_r2,x_c_r3⟩,x_c_mm,x_c_st,x_c_pc⟩,x_c_bf,x_c_rb,x_c_en⟩,x_i,⟨x_e_pc,x_e_vl,x_e_ad,x_e_fr,x_e_nx,x_e_dn,x_e_kn,x_e_ft⟩,⟨x_s_k,x_s_o,x_s_d,⟨x_s_ag,x_s_an⟩,⟨x_s_bg,x_s_bn⟩,x_s_nm,x_s_tg⟩⟩:Spot).e to).2,vb true])) []):=
 Z6.deep (Zkh S dp (⟨⟨x_p_w,x_p_wn,x_p_fu,⟨x_p_r0,x_p_r1,x_p_r2,x_p_r3⟩,x_p_ms,x_p_ls,x_p_is⟩,⟨⟨⟨x_c_r0,x_c_r1,x_c_r2,x_c_r3⟩,x_c_mm,x_c_st,x_c_pc⟩,x_c_bf,x_c_rb,x_c_en⟩,x_i,⟨x_e_pc,x_e_vl,x_e_ad,x_e_fr,x_e_nx,x_e_dn,x_e_kn,x_e_ft⟩,⟨x_s_k,x_s_o,x_s_d,⟨x_s_ag,x_s_an⟩,⟨x_s_bg,x_s_bn⟩,x_s_nm,x_s_tg⟩⟩:Spot) to hm hs hl hr h0 h1) (np S 102 (by decide)) A nb
theorem Zki (dp:Nat)(x:Spot)(hm:x.c.state.mem.length<1073741824)(hs:x.c.state.stack.length<1073741824)(hl:x.c.buf.length<1073741824)(hr:x.c.rsb.length<1073741824)(h0:0<=x.i)(h1:x.i<x.c.buf.length)(hg:(Bv (Md.real x.p x.c.state.stack x.c.buf x.i)).length<1073741824):Z6 E fn (dp+5) 104 [CG x] (.tup [ZA (Md.J6 (Z7 x.p.mems) x.p x.c x.i x.e ⟨9,0,0,⟨false,0⟩,⟨false,0⟩,⟨#[]⟩,0⟩ 0 0 0).1,rD (Md.J6 (Z7 x.p.mems) x.p x.c x.i x.e ⟨9,0,0,⟨false,0⟩,⟨false,0⟩,⟨#[]⟩,0⟩ 0 0 0).2,vb true]):=by
 unfold Z6
 show Zk (Z4 E fn (dp+4+1) 104 [.d (CG x)] [])=_
 rw[ZK,S.Zar,ZM,Zg0,ZP _ _ _ _ _ _ _ _ rfl]
 cases hreal:Md.real x.p x.c.state.stack x.c.buf x.i with
 | none=>simp only[eG,go_sem,Z3 S,Z2 S,zN0,zN1,zN2,zN3,zN4,zI0,zI1,zI2,zI3,reduceCtorEq,Z0p S,TY S,S3 S,KN S,WQ S,hm,hs,hl,hr,h0,h1,Md.J6,zI0,if_true,if_false,hreal,show ED (none:Option (List Int))=false from rfl,Bool.not_false,Bool.not_true,show(Bv none).length=0 from rfl,show(0:Nat)<1073741824 by decide]
 | some r=>
  rw[hreal] at hg
  have hg':r.length<1073741824:=hg
  by_cases hz:r.length=0
  ·simp only[eG,go_sem,Z3 S,Z2 S,zN0,zN1,zN2,zN3,zN4,zI0,zI1,zI2,zI3,reduceCtorEq,Z0p S,TY S,S3 S,KN S,WQ S,hm,hs,hl,hr,h0,h1,Md.J6,zI0,if_true,if_false,hreal,Bv,ED,Bool.not_false,Bool.not_true,hg',ne_eq,eq_true hz,not_true_eq_false]
  ·simp only[eG,go_sem,Z3 S,Z2 S,zN0,zN1,zN2,zN3,zN4,zI0,zI1,zI2,zI3,reduceCtorEq,Z0p S,TY S,S3 S,KN S,WQ S,hm,hs,hl,hr,h0,h1,Md.J6,zI0,if_true,if_false,hreal,Bv,ED,Bool.not_false,Bool.not_true,hg',ne_eq,eq_false hz,not_false_eq_true]
theorem Zs3 (dp:Nat)(x_p_w x_p_wn x_p_fu x_p_r0 x_p_r1 x_p_r2 x_p_r3:Int)(x_p_ms:List MemT)(x_p_ls:List Label)(x_p_is:List Ins)(x_c_r0 x_c_r1 x_c_r2 x_c_r3:Int)(x_c_mm x_c_st:List Int)(x_c_pc:Int)(x_c_bf:List Ent)(x_c_rb:List Int)(x_c_en x_i x_e_pc x_e_vl x_e_ad x_e_fr x_e_nx:Int)(x_e_dn x_e_kn x_e_ft:Bool)(x_s_k x_s_o x_s_d:Int)(x_s_ag:Bool)(x_s_an:Int)(x_s_bg:Bool)(x_s_bn:Int)(x_s_nm:ByteArray)(x_s_tg:Int)(hm:(⟨⟨x_p_w,x_p_wn,x_p_fu,⟨x_p_r0,x_p_r1,x_p_r2,x_p_r3⟩,x_p_ms,x_p_ls,x_p_is⟩,⟨⟨⟨x_c_r0,x_c_r1,x_c_r2,x_c_r3⟩,x_c_mm,x_c_st,x_c_pc⟩,x_c_bf,x_c_rb,x_c_en⟩,x_i,⟨x_e_pc,x_e_vl,x_e_ad,x_e_fr,x_e_nx,x_e_dn,x_e_kn,x_e_ft⟩,⟨x_s_k,x_s_o,x_s_d,⟨x_s_ag,x_s_an⟩,⟨x_s_bg,x_s_bn⟩,x_s_nm,x_s_tg⟩⟩:Spot).c.state.mem.length<1073741824)(hs:(⟨⟨x_p_w,x_p_wn,x_p_fu,⟨x_p_r0,x_p_r1,x_p_r2,x_p_r3⟩,x_p_ms,x_p_ls,x_p_is⟩,⟨⟨⟨x_c_r0,x_c_r1,x_c_r2,x_c_r3⟩,x_c_mm,x_c_st,x_c_pc⟩,x_c_bf,x_c_rb,x_c_en⟩,x_i,⟨x_e_pc,x_e_vl,x_e_ad,x_e_fr,x_e_nx,x_e_dn,x_e_kn,x_e_ft⟩,⟨x_s_k,x_s_o,x_s_d,⟨x_s_ag,x_s_an⟩,⟨x_s_bg,x_s_bn⟩,x_s_nm,x_s_tg⟩⟩:Spot).c.state.stack.length<1073741824)(hl:(⟨⟨x_p_w,x_p_wn,x_p_fu,⟨x_p_r0,x_p_r1,x_p_r2,x_p_r3⟩,x_p_ms,x_p_ls,x_p_is⟩,⟨⟨⟨x_c_r0,x_c_r1,x_c_r2,x_c_r3⟩,x_c_mm,x_c_st,x_c_pc⟩,x_c_bf,x_c_rb,x_c_en⟩,x_i,⟨x_e_pc,x_e_vl,x_e_ad,x_e_fr,x_e_nx,x_e_dn,x_e_kn,x_e_ft⟩,⟨x_s_k,x_s_o,x_s_d,⟨x_s_ag,x_s_an⟩,⟨x_s_bg,x_s_bn⟩,x_s_nm,x_s_tg⟩⟩:Spot).c.buf.length<1073741824)(hr:(⟨⟨x_p_w,x_p_wn,x_p_fu,⟨x_p_r0,x_p_r1,x_p_r2,x_p_r3⟩,x_p_ms,x_p_ls,x_p_is⟩,⟨⟨⟨x_c_r0,x_c_r1,x_c_r2,x_c_r3⟩,x_c_mm,x_c_st,x_c_pc⟩,x_c_bf,x_c_rb,x_c_en⟩,x_i,⟨x_e_pc,x_e_vl,x_e_ad,x_e_fr,x_e_nx,x_e_dn,x_e_kn,x_e_ft⟩,⟨x_s_k,x_s_o,x_s_d,⟨x_s_ag,x_s_an⟩,⟨x_s_bg,x_s_bn⟩,x_s_nm,x_s_tg⟩⟩:Spot).c.rsb.length<1073741824)(h0:0<=(⟨⟨x_p_w,x_p_wn,x_p_fu,⟨x_p_r0,x_p_r1,x_p_r2,x_p_r3⟩,x_p_ms,x_p_ls,x_p_is⟩,⟨⟨⟨x_c_r0,x_c_r1,x_c_r2,x_c_r3⟩,x_c_mm,x_c_st,x_c_pc⟩,x_c_bf,x_c_rb,x_c_en⟩,x_i,⟨x_e_pc,x_e_vl,x_e_ad,x_e_fr,x_e_nx,x_e_dn,x_e_kn,x_e_ft⟩,⟨x_s_k,x_s_o,x_s_d,⟨x_s_ag,x_s_an⟩,⟨x_s_bg,x_s_bn⟩,x_s_nm,x_s_tg⟩⟩:Spot).i)(h1:(⟨⟨x_p_w,x_p_wn,x_p_fu,⟨x_p_r0,x_p_r1,x_p_r2,x_p_r3⟩,x_p_ms,x_p_ls,x_p_is⟩,⟨⟨⟨x_c_r0,x_c_r1,x_c_r2,x_c_r3⟩,x_c_mm,x_c_st,x_c_pc⟩,x_c_bf,x_c_rb,x_c_en⟩,x_i,⟨x_e_pc,x_e_vl,x_e_ad,x_e_fr,x_e_nx,x_e_dn,x_e_kn,x_e_ft⟩,⟨x_s_k,x_s_o,x_s_d,⟨x_s_ag,x_s_an⟩,⟨x_s_bg,x_s_bn⟩,x_s_nm,x_s_tg⟩⟩:Spot).i<(⟨⟨x_p_w,x_p_wn,x_p_fu,⟨x_p_r0,x_p_r1,x_p_r2,x_p_r3⟩,x_p_ms,x_p_ls,x_p_is⟩,⟨⟨⟨x_c_r0,x_c_r1,x_c_r2,x_c_r3⟩,x_c_mm,x_c_st,x_c_pc⟩,x_c_bf,x_c_rb,x_c_en⟩,x_i,⟨x_e_pc,x_e_vl,x_e_ad,x_e_fr,x_e_nx,x_e_dn,x_e_kn,x_e_ft⟩,⟨x_s_k,x_s_o,x_s_d,⟨x_s_ag,x_s_an⟩,⟨x_s_bg,x_s_bn⟩,x_s_nm,x_s_tg⟩⟩:Spot).c.buf.length)(hg:(Bv (Md.real (⟨⟨x_p_w,x_p_wn,x_p_fu,⟨x_p_r0,x_p_r1,x_p_r2,x_p_r3⟩,x_p_ms,x_p_ls,x_p_is⟩,⟨⟨⟨x_c_r0,x_c_r1,x_c_r2,x_c_r3⟩,x_c_mm,x_c_st,x_c_pc⟩,x_c_bf,x_c_rb,x_c_en⟩,x_i,⟨x_e_pc,x_e_vl,x_e_ad,x_e_fr,x_e_nx,x_e_dn,x_e_kn,x_e_ft⟩,⟨x_s_k,x_s_o,x_s_d,⟨x_s_ag,x_s_an⟩,⟨x_s_bg,x_s_bn⟩,x_s_nm,x_s_tg⟩⟩:Spot).p (⟨⟨x_p_w,x_p_wn,x_p_fu,⟨x_p_r0,x_p_r1,x_p_r2,x_p_r3⟩,x_p_ms,x_p_ls,x_p_is⟩,⟨⟨⟨x_c_r0,x_c_r1,x_c_r2,x_c_r3⟩,x_c_mm,x_c_st,x_c_pc⟩,x_c_bf,x_c_rb,x_c_en⟩,x_i,⟨x_e_pc,x_e_vl,x_e_ad,x_e_fr,x_e_nx,x_e_dn,x_e_kn,x_e_ft⟩,⟨x_s_k,x_s_o,x_s_d,⟨x_s_ag,x_s_an⟩,⟨x_s_bg,x_s_bn⟩,x_s_nm,x_s_tg⟩⟩:Spot).c.state.stack (⟨⟨x_p_w,x_p_wn,x_p_fu,⟨x_p_r0,x_p_r1,x_p_r2,x_p_r3⟩,x_p_ms,x_p_ls,x_p_is⟩,⟨⟨⟨x_c_r0,x_c_r1,x_c_r2,x_c_r3⟩,x_c_mm,x_c_st,x_c_pc⟩,x_c_bf,x_c_rb,x_c_en⟩,x_i,⟨x_e_pc,x_e_vl,x_e_ad,x_e_fr,x_e_nx,x_e_dn,x_e_kn,x_e_ft⟩,⟨x_s_k,x_s_o,x_s_d,⟨x_s_ag,x_s_an⟩,⟨x_s_bg,x_s_bn⟩,x_s_nm,x_s_tg⟩⟩:Spot).c.buf (⟨⟨x_p_w,x_p_wn,x_p_fu,⟨x_p_r0,x_p_r1,x_p_r2,x_p_r3⟩,x_p_ms,x_p_ls,x_p_is⟩,⟨⟨⟨x_c_r0,x_c_r1,x_c_r2,x_c_r3⟩,x_c_mm,x_c_st,x_c_pc⟩,x_c_bf,x_c_rb,x_c_en⟩,x_i,⟨x_e_pc,x_e_vl,x_e_ad,x_e_fr,x_e_nx,x_e_dn,x_e_kn,x_e_ft⟩,⟨x_s_k,x_s_o,x_s_d,⟨x_s_ag,x_s_an⟩,⟨x_s_bg,x_s_bn⟩,x_s_nm,x_s_tg⟩⟩:Spot).i)).length<1073741824)(A:List Blk)(nb:Nat):ZH false E (Z4 E fn (dp+5)) 104 A nb (some ([.agg [vi x_p_w,vi x_p_wn,vi x_p_fu,vi x_p_r0,vi x_p_r1,vi x_p_r2,vi x_p_r3,rD x_p_ms,rD x_p_ls,rD x_p_is,vi x_c_r0,vi x_c_r1,vi x_c_r2,vi x_c_r3,rD x_c_mm,rD x_c_st,vi x_c_pc,rD x_c_bf,rD x_c_rb,vi x_c_en,vi x_i,vi x_e_pc,vi x_e_vl,vi x_e_ad,vi x_e_fr,vi x_e_nx,vb x_e_dn,vb x_e_kn,vb x_e_ft,vi x_s_k,vi x_s_o,vi x_s_d,vb x_s_ag,vi x_s_an,vb x_s_bg,vi x_s_bn,vt x_s_nm,vi x_s_tg]],[]))=some (.made (.d (.tup [ZA (Md.J6 (Z7 (⟨⟨x_p_w,x_p_wn,x_p_fu,⟨x_p_r0,x_p_r1,x_p_r2,x_p_r3⟩,x_p_ms,x_p_ls,x_p_is⟩,⟨⟨⟨x_c_r0,x_c_r1,x_c_r2,x_c_r3⟩,x_c_mm,x_c_st,x_c_pc⟩,x_c_bf,x_c_rb,x_c_en⟩,x_i,⟨x_e_pc,x_e_vl,x_e_ad,x_e_fr,x_e_nx,x_e_dn,x_e_kn,x_e_ft⟩,⟨x_s_k,x_s_o,x_s_d,⟨x_s_ag,x_s_an⟩,⟨x_s_bg,x_s_bn⟩,x_s_nm,x_s_tg⟩⟩:Spot).p.mems) (⟨⟨x_p_w,x_p_wn,x_p_fu,⟨x_p_r0,x_p_r1,x_p_r2,x_p_r3⟩,x_p_ms,x_p_ls,x_p_is⟩,⟨⟨⟨x_c_r0,x_c_r1,x_c_r2,x_c_r3⟩,x_c_mm,x_c_st,x_c_pc⟩,x_c_bf,x_c_rb,x_c_en⟩,x_i,⟨x_e_pc,x_e_vl,x_e_ad,x_e_fr,x_e_nx,x_e_dn,x_e_kn,x_e_ft⟩,⟨x_s_k,x_s_o,x_s_d,⟨x_s_ag,x_s_an⟩,⟨x_s_bg,x_s_bn⟩,x_s_nm,x_s_tg⟩⟩:Spot).p (⟨⟨x_p_w,x_p_wn,x_p_fu,⟨x_p_r0,x_p_r1,x_p_r2,x_p_r3⟩,x_p_ms,x_p_ls,x_p_is⟩,⟨⟨⟨x_c_r0,x_c_r1,x_c_r2,x_c_r3⟩,x_c_mm,x_c_st,x_c_pc⟩,x_c_bf,x_c_rb,x_c_en⟩,x_i,⟨x_e_pc,x_e_vl,x_e_ad,x_e_fr,x_e_nx,x_e_dn,x_e_kn,x_e_ft⟩,⟨x_s_k,x_s_o,x_s_d,⟨x_s_ag,x_s_an⟩,⟨x_s_bg,x_s_bn⟩,x_s_nm,x_s_tg⟩⟩:Spot).c (⟨⟨x_p_w,x_p_wn,x_p_fu,⟨x_p_r0,x_p_r1,x_p_r2,x_p_r3⟩,x_p_ms,x_p_ls,x_p_is⟩,⟨⟨⟨x_c_r0,x_c_r1,x_c_r2,x_c_r3⟩,x_c_mm,x_c_st,x_c_pc⟩,x_c_bf,x_c_rb,x_c_en⟩,x_i,⟨x_e_pc,x_e_vl,x_e_ad,x_e_fr,x_e_nx,x_e_dn,x_e_kn,x_e_ft⟩,⟨x_s_k,x_s_o,x_s_d,⟨x_s_ag,x_s_an⟩,⟨x_s_bg,x_s_bn⟩,x_s_nm,x_s_tg⟩⟩:Spot).i (⟨⟨x_p_w,x_p_wn,x_p_fu,⟨x_p_r0,x_p_r1,x_p_r2,x_p_r3⟩,x_p_ms,x_p_ls,x_p_is⟩,⟨⟨⟨x_c_r0,x_c_r1,x_c_r2,x_c_r3⟩,x_c_mm,x_c_st,x_c_pc⟩,x_c_bf,x_c_rb,x_c_en⟩,x_i,⟨x_e_pc,x_e_vl,x_e_ad,x_e_fr,x_e_nx,x_e_dn,x_e_kn,x_e_ft⟩,⟨x_s_k,x_s_o,x_s_d,⟨x_s_ag,x_s_an⟩,⟨x_s_bg,x_s_bn⟩,x_s_nm,x_s_tg⟩⟩:Spot).e ⟨9,0,0,⟨false,0⟩,⟨false,0⟩,⟨#[]⟩,0⟩ 0 0 0).1,rD (Md.J6 (Z7 (⟨⟨x_p_w,x_p_wn,x_p_fu,⟨x_p_r0,x_p_r1,x_p_r2,x_p_r3⟩,x_p_ms,x_p_ls,x_p_is⟩,⟨⟨⟨x_c_r0,x_c_r1,x_c_r2,x_c_r3⟩,x_c_mm,x_c_st,x_c_pc⟩,x_c_bf,x_c_rb,x_c_en⟩,x_i,⟨x_e_pc,x_e_vl,x_e_ad,x_e_fr,x_e_nx,x_e_dn,x_e_kn,x_e_ft⟩,⟨x_s_k,x_s_o,x_s_d,⟨x_s_ag,x_s_an⟩,⟨x_s_bg,x_s_bn⟩,x_s_nm,x_s_tg⟩⟩:Spot).p.mems) (⟨⟨x_p_w,x_p_wn,x_p_fu,⟨x_p_r0,x_p_r1,x_p_r2,x_p_r3⟩,x_p_ms,x_p_ls,x_p_is⟩,⟨⟨⟨x_c_r0,x_c_r1,x_c_r2,x_c_r3⟩,x_c_mm,x_c_st,x_c_pc⟩,x_c_bf,x_c_rb,x_c_en⟩,x_i,⟨x_e_pc,x_e_vl,x_e_ad,x_e_fr,x_e_nx,x_e_dn,x_e_kn,x_e_ft⟩,⟨x_s_k,x_s_o,x_s_d,⟨x_s_ag,x_s_an⟩,⟨x_s_bg,x_s_bn⟩,x_s_nm,x_s_tg⟩⟩:Spot).p (⟨⟨x_p_w,x_p_wn,x_p_fu,⟨x_p_r0,x_p_r1,x_p_r2,x_p_r3⟩,x_p_ms,x_p_ls,x_p_is⟩,⟨⟨⟨x_c_r0,x_c_r1,x_c_r2,x_c_r3⟩,x_c_mm,x_c_st,x_c_pc⟩,x_c_bf,x_c_rb,x_c_en⟩,x_i,⟨x_e_pc,x_e_vl,x_e_ad,x_e_fr,x_e_nx,x_e_dn,x_e_kn,x_e_ft⟩,⟨x_s_k,x_s_o,x_s_d,⟨x_s_ag,x_s_an⟩,⟨x_s_bg,x_s_bn⟩,x_s_nm,x_s_tg⟩⟩:Spot).c (⟨⟨x_p_w,x_p_wn,x_p_fu,⟨x_p_r0,x_p_r1,x_p_r2,x_p_r3⟩,x_p_ms,x_p_ls,x_p_is⟩,⟨⟨⟨x_c_r0,x_c_r1,x_c_r2,x_c_r3⟩,x_c_mm,x_c_st,x_c_pc⟩,x_c_bf,x_c_rb,x_c_en⟩,x_i,⟨x_e_pc,x_e_vl,x_e_ad,x_e_fr,x_e_nx,x_e_dn,x_e_kn,x_e_ft⟩,⟨x_s_k,x_s_o,x_s_d,⟨x_s_ag,x_s_an⟩,⟨x_s_bg,x_s_bn⟩,x_s_nm,x_s_tg⟩⟩:Spot).i (⟨⟨x_p_w,x_p_wn,x_p_fu,⟨x_p_r0,x_p_r1,x_p_r2,x_p_r3⟩,x_p_ms,x_p_ls,x_p_is⟩,⟨⟨⟨x_c_r0,x_c_r1,x_c_r2,x_c_r3⟩,x_c_mm,x_c_st,x_c_pc⟩,x_c_bf,x_c_rb,x_c_en⟩,x_i,⟨x_e_pc,x_e_vl,x_e_ad,x_e_fr,x_e_nx,x_e_dn,x_e_kn,x_e_ft⟩,⟨x_s_k,x_s_o,x_s_d,⟨x_s_ag,x_s_an⟩,⟨x_s_bg,x_s_bn⟩,x_s_nm,x_s_tg⟩⟩:Spot).e ⟨9,0,0,⟨false,0⟩,⟨false,0⟩,⟨#[]⟩,0⟩ 0 0 0).2,vb true])) []):=
 Z6.deep (Zki S dp (⟨⟨x_p_w,x_p_wn,x_p_fu,⟨x_p_r0,x_p_r1,x_p_r2,x_p_r3⟩,x_p_ms,x_p_ls,x_p_is⟩,⟨⟨⟨x_c_r0,x_c_r1,x_c_r2,x_c_r3⟩,x_c_mm,x_c_st,x_c_pc⟩,x_c_bf,x_c_rb,x_c_en⟩,x_i,⟨x_e_pc,x_e_vl,x_e_ad,x_e_fr,x_e_nx,x_e_dn,x_e_kn,x_e_ft⟩,⟨x_s_k,x_s_o,x_s_d,⟨x_s_ag,x_s_an⟩,⟨x_s_bg,x_s_bn⟩,x_s_nm,x_s_tg⟩⟩:Spot) hm hs hl hr h0 h1 hg) (np S 104 (by decide)) A nb
end
end Go.Aug.Mc
