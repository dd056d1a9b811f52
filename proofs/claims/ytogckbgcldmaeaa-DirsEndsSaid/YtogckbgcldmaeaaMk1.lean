import Derived.Test.YtogckbgcldmaeaaMc37
import Derived.Test.YtogckbgcldmaeaaBo
import Derived.Test.YtogckbgcldmaeaaMk
import Derived.Test.YtogckbgcldmaeaaMc2
namespace Go.Aug.Mc
open Go Go.Aug
open Nat renaming reduceLT -> zN0, reduceEqDiff -> zN1, reduceAdd -> zN2, reduceMul -> zN3, reduceLeDiff -> zN4
open Int renaming reduceEq -> zI0, reduceLT -> zI1, reduceLE -> zI2, reduceNeg -> zI3
set_option linter.unusedSimpArgs false
set_option linter.unusedVariables false
set_option maxHeartbeats 40000000
set_option maxRecDepth 200000
theorem rep_zero (n:Nat):rep [zi] n=(rowC (List.replicate n (0:Int))).map .d:=by
 induction n with
 | zero=>rfl
 | succ n ih=>show zi::rep [zi] n=_;rw[ih];rfl
theorem mk_A (n nb:Nat)(h:n<=100000):makeA [zi] 1 8 nb (aint n) (aint n)=some (.made (.sref nb 0 0 n 1 (some n)) [.cells ((rowC (List.replicate n (0:Int))).map .d) 0 false]):=by
 have lim:limA=1099511627776:=rfl
 show(if(0:Int)<=n/\(n:Int)<=n/\8*(n:Int)<=limA/\(n:Int)<=limA then some (Done.made (.sref nb 0 0 (n:Int).toNat 1 (some (n:Int).toNat)) [.cells (rep [zi] (n:Int).toNat) 0 false]) else none)=_
 rw[if_pos (by omega),Int.toNat_natCast,rep_zero]
theorem o_make (E:Env)(call:CallT)(tm:List AV)(A:List Blk)(nb:Nat)(z:List AV)(s bytes:Nat)(l c:Opd):oMake z s bytes l c E call tm A nb=makeA z s bytes nb (look tm l) (look tm c):=id rfl
structure SOk (N:Int) (s:State):Prop where
 mem:(s.mem.length:Int)=N
 mv:∀ x ∈ s.mem,0<=x
 rg:0<=s.regs.r0/\0<=s.regs.r1/\0<=s.regs.r2/\0<=s.regs.r3
 stk:s.stack=[]
 pc:s.pc=0
variable {E:Env} {fn:FuncId->Option (Env->CallT->CallT)}
section
variable (S:Sur E fn)
include S
theorem o72_39:E.lives 72 1=none/\E.lives 72 15=none:=⟨off S 72 1 (by decide) rfl,off S 72 15 (by decide) rfl⟩
theorem o73_39:E.lives 73 1=none/\E.lives 73 9=none/\E.lives 73 23=none:=⟨off S 73 1 (by decide) rfl,off S 73 9 (by decide) rfl,off S 73 23 (by decide) rfl⟩
theorem says_Places (dp:Nat)(p:Prog)(hms:∀ m ∈ p.mems,0<=m.n/\m.n<=16)(hml:p.mems.length<1000):Says E fn (dp+1) 72 [progD p] (rowD (places p))/\PlOk (cellsI p.mems) (places p)/\(places p).length<=20000:=by
 obtain⟨P,hP⟩:∃ P:Option DV->Prop,P=fun o=>o=some (rowD (places p))/\PlOk (cellsI p.mems) (places p)/\(places p).length<=20000:=⟨_,rfl⟩
 have fin:∀ q:List Place,PlOk (cellsI p.mems) q->q.length<=20000->q=places p->P (some (rowD q)):=fun q h1 h2 h3=>by subst h3;rw[hP];exact⟨rfl,h1,h2⟩
 have key:P (ansOf (evC E fn (dp+1) 72 [.d (progD p)] [])):=by
  clear hP
  rw[evC_succ,S.f_r7_Places,apF_some,F_r7_Places,mkF_run _ _ _ _ _ _ _ _ rfl]
  simp only[eG,go_sem,thq S,nbr S,zN0,zN1,zN2,zN3,zN4,zI0,zI1,zI2,zI3,reduceCtorEq,o72_39 S]
  rw[big_eq,loop_in (on S _ _ [1,3,4] (by decide) rfl) rfl _ _ _ _ _ _ _ _ _ rfl]
  simp only[eG,go_sem,thq S,nbr S,zN0,zN1,zN2,zN3,zN4,zI0,zI1,zI2,zI3,reduceCtorEq,o72_39 S]
  refine pl1 S dp (cellsI p.mems) p _ P (plR p 4 0 []) ?_ 4 0 _ [] (by omega) (by omega) (by intro x hx;cases hx) (by simp) rfl
  intro T q t1 t3 hq hl hQ
  have next:=fun(kx:Nat->K) hx=>pl2 S dp p hms hml kx P (places p) hx p.mems.length 0 999999999999999999999999999999 q (by omega) (by omega) hq (by simp[cellsI];omega) (by rw[hQ];rfl)
  have e0:cellsI (p.mems.take 0)=0:=rfl
  rw[e0] at next
  by_cases h0:q.length=0
  ·rw [own0A' h0] at t3
   rw[own0B' h0]
   simp only[own0A' h0,own0B' h0] at next
   simp only[eG,go_sem,thq S,nbr S,zN0,zN1,zN2,zN3,zN4,zI0,zI1,zI2,zI3,reduceCtorEq,o72_39 S,t1,t3]
   rw[big_eq,loop_in (on S _ _ [1,3,5,6] (by decide) rfl) rfl _ _ _ _ _ _ _ _ _ rfl]
   simp only[eG,go_sem,thq S,nbr S,zN0,zN1,zN2,zN3,zN4,zI0,zI1,zI2,zI3,reduceCtorEq,o72_39 S,t1,t3]
   refine next _ ?_
   intro T q' t3 hq' hl' hQ'
   by_cases h1:q'.length=0
   ·rw [own0A' h1] at t3
    rw[own0B' h1]
    simp only[eG,go_sem,thq S,nbr S,zN0,zN1,zN2,zN3,zN4,zI0,zI1,zI2,zI3,reduceCtorEq,o72_39 S,t3]
    have e:q'=[]:=List.length_eq_zero_iff.1 h1
    subst e
    exact fin [] hq' hl' hQ'
   ·rw [ownA_ne h1] at t3
    rw[ownB_ne h1]
    have hne:q'≠[]:=fun e=>h1 (by rw[e];rfl)
    have hd:deep [.cells ((rowC q').map .d) 0 false] 8 (.sref 0 0 0 q'.length 3 none)=some (.lst (rowC q') q'.length none,[0]):=deep_alone q' hne _ rfl 6 3 none rfl
    simp only[eG,go_sem,thq S,nbr S,zN0,zN1,zN2,zN3,zN4,zI0,zI1,zI2,zI3,reduceCtorEq,o72_39 S,t3,hd]
    exact fin q' hq' hl' hQ'
  ·rw [ownA_ne h0] at t3
   rw[ownB_ne h0]
   simp only[ownA_ne h0,ownB_ne h0] at next
   simp only[eG,go_sem,thq S,nbr S,zN0,zN1,zN2,zN3,zN4,zI0,zI1,zI2,zI3,reduceCtorEq,o72_39 S,t1,t3]
   rw[big_eq,loop_in (on S _ _ [1,3,5,6] (by decide) rfl) rfl _ _ _ _ _ _ _ _ _ rfl]
   simp only[eG,go_sem,thq S,nbr S,zN0,zN1,zN2,zN3,zN4,zI0,zI1,zI2,zI3,reduceCtorEq,o72_39 S,t1,t3]
   refine next _ ?_
   intro T q' t3 hq' hl' hQ'
   by_cases h1:q'.length=0
   ·rw [own0A' h1] at t3
    rw[own0B' h1]
    simp only[eG,go_sem,thq S,nbr S,zN0,zN1,zN2,zN3,zN4,zI0,zI1,zI2,zI3,reduceCtorEq,o72_39 S,t3]
    have e:q'=[]:=List.length_eq_zero_iff.1 h1
    subst e
    exact fin [] hq' hl' hQ'
   ·rw [ownA_ne h1] at t3
    rw[ownB_ne h1]
    have hne:q'≠[]:=fun e=>h1 (by rw[e];rfl)
    have hd:deep [.cells ((rowC q').map .d) 0 false] 8 (.sref 0 0 0 q'.length 3 none)=some (.lst (rowC q') q'.length none,[0]):=deep_alone q' hne _ rfl 6 3 none rfl
    simp only[eG,go_sem,thq S,nbr S,zN0,zN1,zN2,zN3,zN4,zI0,zI1,zI2,zI3,reduceCtorEq,o72_39 S,t3,hd]
    exact fin q' hq' hl' hQ'
 rw[hP] at key
 exact key
def sRes:Blk:=.cells [zi,zi,zi,zi,zn,zn,zi] 0 false
def sCel (rg:Regs)(n:Nat):Blk:=.cells [.d (vi rg.r0),.d (vi rg.r1),.d (vi rg.r2),.d (vi rg.r3),.sref 3 0 0 n 1 (some n),zn,zi] 0 false
theorem st_loop (dp:Nat)(p:Prog)(q:List Place)(n:Nat)(hq:PlOk n q)(hql:q.length<=20000)(l:List Int)(hll:l.length=q.length)(kx:Nat->K)(P:Option DV->Prop)
  (hx:∀ T rg mem,getS .bot T 4=.ref 1 0 0->getS .bot T 7=.ref 2 0 0->(mem:List Int).length=n->(∀ x ∈ mem,0<=x)->(0<=rg.r0/\0<=rg.r1/\0<=rg.r2/\0<=rg.r3)->P (ansOf (kx 0 (mk .bot 58 T) [.cells ((progC p).map .d) 0 false,sRes,sCel rg n,.cells ((rowC mem).map .d) 0 false]))):
  ∀(m k f:Nat) (rg:Regs) (mem:List Int),k+m=q.length->m<=f->mem.length=n->(∀ x ∈ mem,0<=x)->(0<=rg.r0/\0<=rg.r1/\0<=rg.r2/\0<=rg.r3)->
  P (ansOf (B14_r7_Start (inn E 73) (evC E fn (dp+3)) (loopK 14 B14_r7_Start (inn E 73) (evC E fn (dp+3)) kx (kEnd 0 [.cell 4 true 7,.tmp 5]) f) kx (kEnd 0 [.cell 4 true 7,.tmp 5]) (mk .bot 58 [(1,.d (rowD l)),(2,.ref 0 0 0),(4,.ref 1 0 0),(6,.d (rowD q)),(7,.ref 2 0 0),(8,aint k)]) [.cells ((progC p).map .d) 0 false,sRes,sCel rg n,.cells ((rowC mem).map .d) 0 false])):=by
 intro m
 induction m with
 | zero=>
  intro k f rg mem hk _ hm hv hr
  have hkq:¬(k:Int)<q.length:=by omega
  generalize loopK 14 B14_r7_Start _ _ kx _ f=KK
  first | (conv=>lhs;rw[B14_r7_Start]) | rw[B14_r7_Start]
  simp only[eG,go_sem,thq S,nbr S,zN0,zN1,zN2,zN3,zN4,zI0,zI1,zI2,zI3,reduceCtorEq,o73_39 S,hkq]
  exact hx _ rg mem rfl rfl hm hv hr
 | succ m ih=>
  intro k f rg mem hk hf hm hv hr
  obtain⟨x,hxq⟩:=get_of (show k<q.length by omega)
  obtain⟨y,hyl⟩:=get_of (show k<l.length by omega)
  obtain⟨f,rfl⟩:∃ g,f=g+1:=⟨f-1,by omega⟩
  have hkq:(k:Int)<q.length:=by omega
  have hx1:=hq x (List.mem_of_getElem? hxq)
  have hy0:=Md.mask_nn p.w y
  have next:=fun rg' mem' h1 h2 h3=>ih (k+1) f rg' mem' (by omega) (by omega) h1 h2 h3
  generalize hK:loopK 14 B14_r7_Start _ _ kx _ (f+1)=KK
  first | (conv=>lhs;rw[B14_r7_Start]) | rw[B14_r7_Start]
  unfold sRes sCel
  unfold sRes sCel at next
  cases hreg:x.reg with
  | true=>
   obtain⟨a0,a1⟩:=hx1.1 hreg
   have hst:∀(A:List Blk) (v:Int) (m s q:AV),storeAt A 2 0 (x.n.toNat*1) [.d (vi v)] 1 (some (.cells [.d (vi rg.r0),.d (vi rg.r1),.d (vi rg.r2),.d (vi rg.r3),m,s,q] 0 false))=some (A.set 2 (.cells [.d (vi (Md.setR rg x.n v).r0),.d (vi (Md.setR rg x.n v).r1),.d (vi (Md.setR rg x.n v).r2),.d (vi (Md.setR rg x.n v).r3),m,s,q] 0 false)):=fun A v m s q=>by
    have d4:x.n=0∨x.n=1∨x.n=2∨x.n=3:=by omega
    rcases d4 with d | d | d | d<;>rw[d]<;>rfl
   simp only[eG,go_sem,thq S,nbr S,zN0,zN1,zN2,zN3,zN4,zI0,zI1,zI2,zI3,reduceCtorEq,o73_39 S,hkq,w_ix hyl,w_ix hxq,c_r1_Mask S,hreg,a0,a1,hst,Int.cast_ofNat_Int,true_and,and_self,if_true,Nat.zero_add,wi k (by omega)]
   rw[<-hK,loop_in (on S _ _ [1,2,4,6,7,8] (by decide) rfl) rfl _ _ _ _ _ _ _ _ _ rfl]
   simp only[eG,go_sem,thq S,nbr S,zN0,zN1,zN2,zN3,zN4,zI0,zI1,zI2,zI3,reduceCtorEq,o73_39 S]
   exact next (Md.setR rg x.n (Md.mask p.w y)) mem hm hv (Md.setR_nn hr x.n hy0)
  | false=>
   obtain⟨a0,a1⟩:=hx1.2 hreg
   have a2:x.n.toNat<mem.length:=by omega
   have hst:∀(A:List Blk) (j:Nat) (v:Int),storeAt A j 0 (x.n.toNat*1) [.d (vi v)] 1 (some (.cells ((rowC mem).map .d) 0 false))=some (A.set j (.cells ((rowC (mem.set x.n.toNat v)).map .d) 0 false)):=fun A j v=>
    st_row (o:=0) (e':=v) [vi v] (List.getElem?_eq_getElem a2) rfl rfl rfl rfl (by show 0+1<=1;decide) 1 rfl _ rfl
   simp only[eG,go_sem,thq S,nbr S,zN0,zN1,zN2,zN3,zN4,zI0,zI1,zI2,zI3,reduceCtorEq,o73_39 S,hkq,w_ix hyl,w_ix hxq,c_r1_Mask S,hreg,a0,a1,hst,Int.cast_ofNat_Int,true_and,and_self,if_true,Nat.zero_add,wi k (by omega)]
   rw[<-hK,loop_in (on S _ _ [1,2,4,6,7,8] (by decide) rfl) rfl _ _ _ _ _ _ _ _ _ rfl]
   simp only[eG,go_sem,thq S,nbr S,zN0,zN1,zN2,zN3,zN4,zI0,zI1,zI2,zI3,reduceCtorEq,o73_39 S]
   exact next rg (mem.set x.n.toNat (Md.mask p.w y)) (by rw[List.length_set];exact hm) (fun z hz=>by
    rcases List.mem_or_eq_of_mem_set hz with hz | rfl
    ·exact hv z hz
    ·exact hy0) hr
theorem says_Start (dp:Nat)(p:Prog)(hms:∀ m ∈ p.mems,0<=m.n/\m.n<=16)(hml:p.mems.length<1000)(q:List Place)(hsq:Says E fn (dp+3) 72 [progD p] (rowD q))(hq:PlOk (cellsI p.mems) q)(hql:q.length<=20000)(l:List Int)(hll:l.length=q.length):
  ∃ s:State,Says E fn (dp+4) 73 [progD p,rowD l] (.tup [stateD s,vb true])/\SOk (cellsI p.mems) s:=by
 have hcl:=cellsI_le p.mems
 obtain⟨n,hn⟩:=Int.eq_ofNat_of_zero_le hcl.1
 have hn1:n<=100000:=by omega
 rw[hn] at hq ⊢
 obtain⟨P,hP⟩:∃ P:Option DV->Prop,P=fun o=>∃ s:State,o=some (.tup [stateD s,vb true])/\SOk n s:=⟨_,rfl⟩
 have fin:∀ s:State,SOk n s->P (some (.tup [stateD s,vb true])):=fun s h=>by rw[hP];exact⟨s,rfl,h⟩
 have cP:=fun(A:List Blk) (nb:Nat)=>Says.deep hsq (np S 72 (by decide)) A nb
 simp only[progD,progC] at cP
 have hml':p.mems.length<1073741824:=by omega
 have cC:=fun(A:List Blk) (nb:Nat) (us:List Nat)=>Says.flat (raw_r7_Cells S (dp+2) p hml' hms) (np S 53 (by decide)) rfl A nb us
 simp only[progD,progC,hn] at cC
 have key:P (ansOf (evC E fn (dp+4) 73 [.d (progD p),.d (rowD l)] [])):=by
  clear hP
  show P (ansOf (evC E fn (dp+3+1) 73 [.d (progD p),.d (rowD l)] []))
  rw[evC_succ,S.f_r7_Start,apF_some,F_r7_Start,mkF_run _ _ _ _ _ _ _ _ rfl]
  simp only[eG,go_sem,thq S,nbr S,zN0,zN1,zN2,zN3,zN4,zI0,zI1,zI2,zI3,reduceCtorEq,o73_39 S,cP,hll,cC,o_make,mk_A n _ hn1,ne_eq,not_true_eq_false]
  rw[big_eq,loop_in (on S _ _ [1,2,4,6,7,8] (by decide) rfl) rfl _ _ _ _ _ _ _ _ _ rfl]
  simp only[eG,go_sem,thq S,nbr S,zN0,zN1,zN2,zN3,zN4,zI0,zI1,zI2,zI3,reduceCtorEq,o73_39 S]
  refine st_loop S dp p q n hq hql l hll _ P ?_ q.length 0 _ ⟨0,0,0,0⟩ (List.replicate n 0) (by omega) (by omega) (by simp) (fun x hx=>by rw[List.eq_of_mem_replicate hx];exact Int.le_refl _) ⟨Int.le_refl _,Int.le_refl _,Int.le_refl _,Int.le_refl _⟩
  intro T rg mem t4 t7 hm hv hr
  unfold sRes sCel
  have hl1:n*1<=((rowC mem).map AV.d).length:=by rw[List.length_map,rowC_len,hm];exact Nat.le_refl _
  have ht1:∀(A:List Blk) (m:Nat),mapD (deep A (m+1)) (((rowC mem).map AV.d).take (n*1))=some (rowC mem,[]):=fun A m=>by
   rw[List.take_of_length_le (by rw[List.length_map,rowC_len,hm];exact Nat.le_refl _),mapD_dd]
  by_cases n0:n=0
  ·have e : mem = [] := List.length_eq_zero_iff.1 (by omega)
   subst e
   simp only[eG,go_sem,thq S,nbr S,zN0,zN1,zN2,zN3,zN4,zI0,zI1,zI2,zI3,reduceCtorEq,o73_39 S,t4,t7,deep_sr,n0]
   exact fin ⟨rg,[],[],0⟩ ⟨by simp[n0],hv,hr,rfl,rfl⟩
  ·simp only [eG, go_sem, thq S, nbr S, zN0, zN1, zN2, zN3, zN4, zI0, zI1, zI2, zI3, reduceCtorEq, o73_39 S, t4, t7, deep_sr, n0, hl1, ht1, Option.bind_some, Option.map_some]
   have hf:DV.lst (rowC mem) n none=rowD mem:=by unfold rowD;rw[hm]
   rw[hf]
   exact fin ⟨rg,mem,[],0⟩ ⟨by simp[hm],hv,hr,rfl,rfl⟩
 rw[hP] at key
 obtain⟨s,h1,h2⟩:=key
 exact⟨s,h1,h2⟩
end
theorem e_endD (ps:List (Opd×Opd))(k:K)(tm:List AV)(A:List Blk):endD ps k tm A=bif refsNe tm ps then k tm A else none:=id rfl
theorem e_neC (tm:List AV)(p:Opd×Opd)(l:List (Opd×Opd)):refsNe tm (p::l)=(refNe (look tm p.1) (look tm p.2)&&refsNe tm l):=id rfl
theorem e_ne0 (tm:List AV):refsNe tm []=true:=id rfl
theorem e_neR (i v o j w q:Nat):refNe (.ref i v o) (.ref j w q)= !Nat.beq i j:=id rfl
theorem wrX {l:List Int}{k:Nat}(h:k<l.length)(i v:Nat)(A:List Blk)(n:Int):storeAt A i v (k*1) [.d (vi n)] 1 (some (.cells ((rowC l).map .d) v false))=some (A.set i (.cells ((rowC (l.set k n)).map .d) v false)):=
 st_row (o:=0) (e':=n) [vi n] (List.getElem?_eq_getElem h) rfl rfl rfl rfl (by show 0+1<=1;decide) 1 rfl _ rfl
variable {E:Env} {fn:FuncId->Option (Env->CallT->CallT)}
section
variable (S:Sur E fn)
include S
theorem o27_40:E.lives 27 1=none/\E.lives 27 17=none/\E.lives 27 21=none:=⟨off S 27 1 (by decide) rfl,off S 27 17 (by decide) rfl,off S 27 21 (by decide) rfl⟩
theorem loop_States (dp:Nat)(p:Prog)(q:List Place)(hql:q.length<=20000)(l:List Int)(kx:Nat->K)(P:Option DV->Prop)
  (hx : ∀ T x y, getS .bot T 3 = .ref 0 0 0 -> getS .bot T 6 = .ref 1 0 0 -> getS .bot T 7 = .ref 2 0 0 -> getS .bot T 9 = .sref 3 0 0 q.length 1 (some q.length) -> getS .bot T 10 = .sref 4 0 0 q.length 1 (some q.length) -> (x : List Int).length = q.length -> (y : List Int).length = q.length ->
   P (ansOf (kx 0 (mk .bot 80 T) [.cells ((progC p).map .d) 0 false,.cells [zi,zi,zi,zi,zn,zn,zi] 0 false,.cells [zi,zi,zi,zi,zn,zn,zi] 0 false,.cells ((rowC x).map .d) 0 false,.cells ((rowC y).map .d) 0 false]))):
  ∀(m k f:Nat) (x y:List Int),k+m=q.length->m<=f->x.length=q.length->y.length=q.length->
  P (ansOf (B10_w7_States (inn E 27) (evC E fn dp) (loopK 10 B10_w7_States (inn E 27) (evC E fn dp) kx (kEnd 0 [.cell 6 true 7,.cell 7 true 7]) f) kx (kEnd 0 [.cell 6 true 7,.cell 7 true 7]) (mk .bot 80 [(1,.d (rowD l)),(2,aint 1),(3,.ref 0 0 0),(6,.ref 1 0 0),(7,.ref 2 0 0),(8,.d (rowD q)),(9,.sref 3 0 0 q.length 1 (some q.length)),(10,.sref 4 0 0 q.length 1 (some q.length)),(25,aint q.length),(26,aint k)])
   [.cells ((progC p).map .d) 0 false,.cells [zi,zi,zi,zi,zn,zn,zi] 0 false,.cells [zi,zi,zi,zi,zn,zn,zi] 0 false,.cells ((rowC x).map .d) 0 false,.cells ((rowC y).map .d) 0 false])):=by
 intro m
 induction m with
 | zero=>
  intro k f x y hk _ hxl hyl
  have hkq:¬(k:Int)<q.length:=by omega
  generalize loopK 10 B10_w7_States _ _ kx _ f=KK
  first | (conv=>lhs;rw[B10_w7_States]) | rw[B10_w7_States]
  simp only[eG,go_sem,thq S,nbr S,zN0,zN1,zN2,zN3,zN4,zI0,zI1,zI2,zI3,reduceCtorEq,o27_40 S,hkq]
  exact hx _ x y rfl rfl rfl rfl rfl hxl hyl
 | succ m ih=>
  intro k f x y hk hf hxl hyl
  obtain⟨z,hzq⟩:=get_of (show k<q.length by omega)
  obtain⟨f,rfl⟩:∃ g,f=g+1:=⟨f-1,by omega⟩
  have hkq:(k:Int)<q.length:=by omega
  have hkx:k<x.length:=by omega
  have hky:k<y.length:=by omega
  have next:=fun x' y' h1 h2=>ih (k+1) f x' y' (by omega) (by omega) h1 h2
  generalize hK:loopK 10 B10_w7_States _ _ kx _ (f+1)=KK
  first | (conv=>lhs;rw[B10_w7_States]) | rw[B10_w7_States]
  by_cases hl:(k:Int)<l.length
  ·obtain ⟨v, hvl⟩ := get_of (show k < l.length by omega)
   cases hsec:z.secret with
   | true=>
    simp only[eG,go_sem,thq S,nbr S,zN0,zN1,zN2,zN3,zN4,zI0,zI1,zI2,zI3,reduceCtorEq,o27_40 S,hkq,hl,w_ix hvl,w_ix hzq,hsec,wrX,hkx,hky,List.length_set,Int.natCast_nonneg,Int.toNat_natCast,Int.ofNat_lt,Nat.zero_add,true_and,and_self,and_true,if_true,wi k (by omega)]
    rw[<-hK,loop_in (on S _ _ [1,2,3,6,7,8,9,10,25,26] (by decide) rfl) rfl _ _ _ _ _ _ _ _ _ rfl]
    simp only[eG,go_sem,thq S,nbr S,zN0,zN1,zN2,zN3,zN4,zI0,zI1,zI2,zI3,reduceCtorEq,o27_40 S]
    exact next _ _ (by rw[List.length_set];exact hxl) (by rw[List.length_set,List.length_set];exact hyl)
   | false=>
    simp only[eG,go_sem,thq S,nbr S,zN0,zN1,zN2,zN3,zN4,zI0,zI1,zI2,zI3,reduceCtorEq,o27_40 S,hkq,hl,w_ix hvl,w_ix hzq,hsec,wrX,hkx,hky,List.length_set,Int.natCast_nonneg,Int.toNat_natCast,Int.ofNat_lt,Nat.zero_add,true_and,and_self,and_true,if_true,wi k (by omega),show evBin .and (aint 1) (aint 7)=some (aint 1) from rfl]
    rw[<-hK,loop_in (on S _ _ [1,2,3,6,7,8,9,10,25,26] (by decide) rfl) rfl _ _ _ _ _ _ _ _ _ rfl]
    simp only[eG,go_sem,thq S,nbr S,zN0,zN1,zN2,zN3,zN4,zI0,zI1,zI2,zI3,reduceCtorEq,o27_40 S]
    exact next _ _ (by rw[List.length_set];exact hxl) (by rw[List.length_set];exact hyl)
  ·simp only [eG, go_sem, thq S, nbr S, zN0, zN1, zN2, zN3, zN4, zI0, zI1, zI2, zI3, reduceCtorEq, o27_40 S, hkq, hl, wi k (by omega)]
   rw[<-hK,loop_in (on S _ _ [1,2,3,6,7,8,9,10,25,26] (by decide) rfl) rfl _ _ _ _ _ _ _ _ _ rfl]
   simp only[eG,go_sem,thq S,nbr S,zN0,zN1,zN2,zN3,zN4,zI0,zI1,zI2,zI3,reduceCtorEq,o27_40 S]
   exact next x y hxl hyl
theorem says_States (dp:Nat)(p:Prog)(hms:∀ m ∈ p.mems,0<=m.n/\m.n<=16)(hml:p.mems.length<1000)(l:List Int):
  ∃ s s':State,Says E fn (dp+5) 27 [progD p,rowD l,vi 1] (.tup [stateD s,stateD s'])/\SOk (cellsI p.mems) s/\SOk (cellsI p.mems) s':=by
 obtain⟨hq,hqo,hql⟩:=says_Places S (dp+3) p hms hml
 obtain⟨hq',_,_⟩:=says_Places S (dp+2) p hms hml
 generalize hQ:places p=q at *
 obtain⟨P,hP⟩:∃ P:Option DV->Prop,P=fun o=>∃ s s':State,o=some (.tup [stateD s,stateD s'])/\SOk (cellsI p.mems) s/\SOk (cellsI p.mems) s':=⟨_,rfl⟩
 have fin:∀ s s':State,SOk (cellsI p.mems) s->SOk (cellsI p.mems) s'->P (some (.tup [stateD s,stateD s'])):=fun s s' h h'=>by rw[hP];exact⟨s,s',rfl,h,h'⟩
 have cP:=fun(A:List Blk) (nb:Nat)=>Says.deep hq (np S 72 (by decide)) A nb
 simp only[progD,progC] at cP
 have key:P (ansOf (evC E fn (dp+5) 27 [.d (progD p),.d (rowD l),aint 1] [])):=by
  clear hP
  show P (ansOf (evC E fn (dp+4+1) 27 [.d (progD p),.d (rowD l),aint 1] []))
  rw[evC_succ,S.f_w7_States,apF_some,F_w7_States,mkF_run _ _ _ _ _ _ _ _ rfl]
  have hmk:=fun nb=>mk_A q.length nb (show q.length<=100000 by omega)
  simp only[eG,go_sem,thq S,nbr S,zN0,zN1,zN2,zN3,zN4,zI0,zI1,zI2,zI3,reduceCtorEq,o27_40 S,cP,o_make,hmk]
  rw[big_eq,loop_in (on S _ _ [1,2,3,6,7,8,9,10,25,26] (by decide) rfl) rfl _ _ _ _ _ _ _ _ _ rfl]
  simp only[eG,go_sem,thq S,nbr S,zN0,zN1,zN2,zN3,zN4,zI0,zI1,zI2,zI3,reduceCtorEq,o27_40 S]
  refine loop_States S (dp+4) p q hql l _ P ?_ q.length 0 _ (List.replicate q.length 0) (List.replicate q.length 0) (by omega) (by omega) (by simp) (by simp)
  intro T x y t3 t6 t7 t9 t10 hxl hyl
  obtain⟨s1,h1,o1⟩:=says_Start S dp p hms hml q hq' hqo hql x hxl
  obtain⟨s2,h2,o2⟩:=says_Start S dp p hms hml q hq' hqo hql y hyl
  have hlx:q.length*1<=((rowC x).map AV.d).length:=by rw[List.length_map,rowC_len,hxl];exact Nat.le_refl _
  have hly:q.length*1<=((rowC y).map AV.d).length:=by rw[List.length_map,rowC_len,hyl];exact Nat.le_refl _
  have htx:∀(A:List Blk) (m:Nat),mapD (deep A (m+1)) (((rowC x).map AV.d).take (q.length*1))=some (rowC x,[]):=fun A m=>by
   rw[List.take_of_length_le (by rw[List.length_map,rowC_len,hxl];exact Nat.le_refl _),mapD_dd]
  have hty:∀(A:List Blk) (m:Nat),mapD (deep A (m+1)) (((rowC y).map AV.d).take (q.length*1))=some (rowC y,[]):=fun A m=>by
   rw[List.take_of_length_le (by rw[List.length_map,rowC_len,hyl];exact Nat.le_refl _),mapD_dd]
  have hfx:DV.lst (rowC x) q.length none=rowD x:=by unfold rowD;rw[hxl]
  have hfy:DV.lst (rowC y) q.length none=rowD y:=by unfold rowD;rw[hyl]
  have hb:=np S 73 (by decide)
  have done:P (some (.tup [stateD s1,stateD s2])):=fin s1 s2 o1 o2
  simp only[stateD,stateC] at done h1 h2
  by_cases n0:q.length=0
  ·have ex : x = [] := List.length_eq_zero_iff.1 (by omega)
   have ey:y=[]:=List.length_eq_zero_iff.1 (by omega)
   subst ex ey
   have c1:=fun(A:List Blk) (nb:Nat)=>Says.deep h1 hb A nb
   have c2:=fun(A:List Blk) (nb:Nat)=>Says.deep h2 hb A nb
   simp only[progD,progC,w_rnil] at c1 c2
   have d1:P (some (.tup [stateD s1,stateD s1])):=fin s1 s1 o1 o1
   simp only[stateD,stateC] at d1
   simp only[eG,go_sem,thq S,nbr S,zN0,zN1,zN2,zN3,zN4,zI0,zI1,zI2,zI3,reduceCtorEq,o27_40 S,hfx,hfy,htx,hty,hlx,hly,deep_sr,Option.bind_some,Option.map_some,e_endD,e_neC,e_ne0,e_neR,show Nat.beq 1 6=false from rfl,Bool.not_false,t3,t6,t7,t9,t10,n0,c1,c2]
   exact d1
  ·by_cases N0 : cellsI p.mems = 0
   ·have m1 : s1.mem = [] := List.length_eq_zero_iff.1 (by have := o1.mem; omega)
    have m2:s2.mem=[]:=List.length_eq_zero_iff.1 (by have:=o2.mem;omega)
    rw[m1,o1.stk] at h1 done
    rw[m2,o2.stk] at h2 done
    have c1:=fun(A:List Blk) (nb:Nat) (us:List Nat)=>Says.flat h1 hb rfl A nb us
    have c2:=fun(A:List Blk) (nb:Nat) (us:List Nat)=>Says.flat h2 hb rfl A nb us
    simp only[progD,progC] at c1 c2
    simp only[eG,go_sem,thq S,nbr S,zN0,zN1,zN2,zN3,zN4,zI0,zI1,zI2,zI3,reduceCtorEq,o27_40 S,hfx,hfy,htx,hty,hlx,hly,deep_sr,Option.bind_some,Option.map_some,e_endD,e_neC,e_ne0,e_neR,show Nat.beq 1 6=false from rfl,Bool.not_false,t3,t6,t7,t9,t10,n0,c1,c2]
    exact done
   ·have f1:DV.flat 8 (.tup [.agg [vi s1.regs.r0,vi s1.regs.r1,vi s1.regs.r2,vi s1.regs.r3,rowD s1.mem,rowD s1.stack,vi s1.pc],vb true])=false:=by
     cases hm:s1.mem with
     | nil=>have:=o1.mem;rw[hm] at this;exact absurd this.symm N0
     | cons a l=>rfl
    have f2:DV.flat 8 (.tup [.agg [vi s2.regs.r0,vi s2.regs.r1,vi s2.regs.r2,vi s2.regs.r3,rowD s2.mem,rowD s2.stack,vi s2.pc],vb true])=false:=by
     cases hm:s2.mem with
     | nil=>have:=o2.mem;rw[hm] at this;exact absurd this.symm N0
     | cons a l=>rfl
    have c1:=fun(A:List Blk) (nb i:Nat) (us:List Nat)=>Says.used h1 hb f1 A nb i us
    have c2:=fun(A:List Blk) (nb i:Nat) (us:List Nat)=>Says.used h2 hb f2 A nb i us
    simp only[progD,progC] at c1 c2
    simp only[eG,go_sem,thq S,nbr S,zN0,zN1,zN2,zN3,zN4,zI0,zI1,zI2,zI3,reduceCtorEq,o27_40 S,hfx,hfy,htx,hty,hlx,hly,deep_sr,Option.bind_some,Option.map_some,e_endD,e_neC,e_ne0,e_neR,show Nat.beq 1 6=false from rfl,Bool.not_false,t3,t6,t7,t9,t10,n0,c1,c2]
    exact done
 rw[hP] at key
 obtain⟨s,s',h1,h2,h3⟩:=key
 exact⟨s,s',h1,h2,h3⟩
end
theorem mk_ms (l:List Int):∀ m ∈ (Md.make l).mems,0<=m.n/\m.n<=16:=by
 intro m hm
 have hm:m ∈ Md.memsM l (Md.widM l):=hm
 have h1:∀ m ∈ Md.mem1 l (Md.widM l),0<=m.n/\m.n<=16:=by
  intro m hm
  unfold Md.mem1 at hm
  split at hm
  ·simp only [List.mem_singleton] at hm
   subst hm
   split<;>simp
  ·simp at hm
 unfold Md.memsM at hm
 split at hm
 ·rcases List.mem_append.1 hm with hm | hm
  ·exact h1 m hm
  ·simp only [List.mem_singleton] at hm
   subst hm;simp
 ·exact h1 m hm
theorem mk_ml (l:List Int):(Md.make l).mems.length<1000:=by
 show(Md.memsM l (Md.widM l)).length<1000
 have h1:(Md.mem1 l (Md.widM l)).length<=1:=by unfold Md.mem1;split<;>simp
 unfold Md.memsM
 split
 ·simp;omega
 ·omega
theorem mk_il (l:List Int):(Md.make l).ins.length<1000:=by
 show((List.range (Md.nM l)).map _).length<1000
 obtain⟨r,h1,h2⟩:=Md.iand3 (Md.shi (Md.kM l 0) 12)
 rw[List.length_map,List.length_range]
 unfold Md.nM
 rw[h2,Int.toNat_natCast];omega
theorem mk_w (l:List Int):Md.okW (Md.make l).w=true:=by
 obtain⟨r,h1,h2⟩:=Md.iand1 (Md.kM l 0)
 show Md.okW (Md.iand (Md.kM l 0) 1+1)=true
 rw[h2];exact Md.okW_iff.2 ⟨by omega,by omega⟩
theorem sh_i (x:Int)(n:Nat)(h:n<=63):evBin .shr (.d (.v (.int .i64 x))) (.d (.v (.int .u64 (n:Int))))=some (aint (Md.shi x n)):=by
 rw[b_shr _ _ _ _ (Int.natCast_nonneg n),Int.toNat_natCast,Nat.min_eq_left (by show n<=64;omega)];rfl
theorem sh1 (x:Int):evBin .shr (.d (.v (.int .i64 x))) (.d (.v (.int .u64 1)))=some (aint (Md.shi x 1)):=sh_i x 1 (by decide)
theorem sh8 (x:Int):evBin .shr (.d (.v (.int .i64 x))) (.d (.v (.int .u64 8)))=some (aint (Md.shi x 8)):=sh_i x 8 (by decide)
theorem sh10 (x:Int):evBin .shr (.d (.v (.int .i64 x))) (.d (.v (.int .u64 10)))=some (aint (Md.shi x 10)):=sh_i x 10 (by decide)
theorem sh11 (x:Int):evBin .shr (.d (.v (.int .i64 x))) (.d (.v (.int .u64 11)))=some (aint (Md.shi x 11)):=sh_i x 11 (by decide)
theorem sh12 (x:Int):evBin .shr (.d (.v (.int .i64 x))) (.d (.v (.int .u64 12)))=some (aint (Md.shi x 12)):=sh_i x 12 (by decide)
theorem sh14 (x:Int):evBin .shr (.d (.v (.int .i64 x))) (.d (.v (.int .u64 14)))=some (aint (Md.shi x 14)):=sh_i x 14 (by decide)
theorem sh16 (x:Int):evBin .shr (.d (.v (.int .i64 x))) (.d (.v (.int .u64 16)))=some (aint (Md.shi x 16)):=sh_i x 16 (by decide)
theorem sh18 (x:Int):evBin .shr (.d (.v (.int .i64 x))) (.d (.v (.int .u64 18)))=some (aint (Md.shi x 18)):=sh_i x 18 (by decide)
theorem lm (x:Int)(n:Nat)(h:0<n):evBin .rem (aint (Md.iand x 255)) (aint (n:Int))=some (aint (Md.lowmod x n:Nat)):=by
 rw[b_rem _ _ _ (by omega),Md.lowmod_eq]
theorem lm18 (x:Int):evBin .rem (aint (Md.iand x 255)) (aint 18)=some (aint (Md.lowmod x 18:Nat)):=lm x 18 (by decide)
theorem lm10 (x:Int):evBin .rem (aint (Md.iand x 255)) (aint 10)=some (aint (Md.lowmod x 10:Nat)):=lm x 10 (by decide)
theorem lm3 (x:Int):evBin .rem (aint (Md.iand x 255)) (aint 3)=some (aint (Md.lowmod x 3:Nat)):=lm x 3 (by decide)
theorem ix_lit {l:List Int}{i:Nat}(h:i<l.length)(n:Nat)(hn:n=l.length)(cs:List DV)(hc:cs=rowC l):evIxS (.d (.lst cs n (some n))) (aint (i:Int)) 1=some (.d (.vptr (vi (l.getD i 0)::rowC (l.drop (i+1))))):=by
 subst hn hc
 have:=ix_row h (s:=1) rfl (some l.length) .i64
 rw[List.getD_eq_getElem?_getD,List.getElem?_eq_getElem h]
 exact this
theorem ix18 (x:Int):evIxS (.d (.lst [vi 1,vi 1,vi 2,vi 2,vi 2,vi 3,vi 3,vi 4,vi 5,vi 5,vi 5,vi 6,vi 7,vi 8,vi 9,vi 10,vi 11,vi 1] 18 (some 18))) (aint (Md.lowmod x 18:Nat)) 1=some (.d (.vptr (vi (Md.k18.getD (Md.lowmod x 18) 0)::rowC (Md.k18.drop (Md.lowmod x 18+1))))):=
 ix_lit (l:=Md.k18) (Md.lowmod_lt x (by decide)) 18 rfl _ rfl
theorem ix4o (x:Int):evIxS (.d (.lst [vi 9,vi 10,vi 3,vi 2] 4 (some 4))) (aint (Md.iand x 3)) 1=some (.d (.vptr (vi (Md.o4.getD (Md.iand x 3).toNat 0)::rowC (Md.o4.drop ((Md.iand x 3).toNat+1))))):=by
 obtain⟨r,hr,h⟩:=Md.iand3 x
 rw[h,Int.toNat_natCast]
 exact ix_lit (l:=Md.o4) hr 4 rfl _ rfl
theorem w10 (x:Int):IntKind.i64.wrap ((Md.lowmod x 10:Nat)+1)=(Md.lowmod x 10:Nat)+1:=by
 have:=Md.lowmod_lt x (show 0<10 by decide)
 exact wrap_i64 (by omega) (by omega)
theorem lmN (x:Int)(n:Nat):evBin .rem (aint (Md.iand x 255)) (aint ((n:Int)+1))=some (aint (Md.lowmod x (n+1):Nat)):=by
 have:=lm x (n+1) (by omega)
 rw[Int.natCast_add] at this
 exact this
theorem d_endD (ps:List (Opd×Opd))(k:K)(tm:List AV)(A:List Blk):endD ps k tm A=bif refsNe tm ps then k tm A else none:=id rfl
theorem d_neM (tm:List AV):refsNe tm []=true:=id rfl
theorem d_ne1 (tm:List AV)(a b:Opd)(l:List (Opd×Opd)):refsNe tm ((a,b)::l)=(refNe (look tm a) (look tm b)&&refsNe tm l):=id rfl
theorem d_ne2 (i v o j w q:Nat):refNe (.ref i v o) (.ref j w q)= !decide (i=j):=by
 show(!Nat.beq i j)=_
 by_cases h:i=j
 ·subst h
  have:Nat.beq i i=true:=Nat.beq_refl i
  rw[this];simp
 ·have:Nat.beq i j=false:=by
   cases hb:Nat.beq i j with
   | false=>rfl
   | true=>exact absurd (Nat.eq_of_beq_eq_true hb) h
  rw[this,decide_eq_false h]
variable {E:Env} {fn:FuncId->Option (Env->CallT->CallT)}
section
variable (S:Sur E fn)
include S
theorem of_97_Mk1:E.lives 97 7=none:=off S 97 7 (by decide) rfl
theorem of_47_Mk1:E.lives 47 7=none:=off S 47 7 (by decide) rfl
theorem of_49_Mk1:E.lives 49 13=none/\E.lives 49 17=none/\E.lives 49 19=none/\E.lives 49 21=none/\E.lives 49 25=none/\E.lives 49 29=none/\E.lives 49 31=none/\E.lives 49 35=none:=⟨off S 49 13 (by decide) rfl,off S 49 17 (by decide) rfl,off S 49 19 (by decide) rfl,off S 49 21 (by decide) rfl,off S 49 25 (by decide) rfl,off S 49 29 (by decide) rfl,off S 49 31 (by decide) rfl,off S 49 35 (by decide) rfl⟩
theorem raw_w6_val (dp:Nat)(n:Int):Says E fn (dp+1) 97 [vi n] (.agg (Cl.cells (Md.valN n))):=by
 unfold Says
 show ansOf (evC E fn (dp+1) 97 [.d (vi n)] [])=_
 rw[evC_succ,S.f_w6_val,apF_some,F_w6_val,mkF_run _ _ _ _ _ _ _ _ rfl]
 by_cases h:Md.iand n 4=0
 ·simp only[eG,go_sem,thq S,nbr S,zN0,zN1,zN2,zN3,zN4,zI0,zI1,zI2,zI3,reduceCtorEq,of_97_Mk1 S,b_iand,h,Md.valN]
 ·simp only[eG,go_sem,thq S,nbr S,zN0,zN1,zN2,zN3,zN4,zI0,zI1,zI2,zI3,reduceCtorEq,of_97_Mk1 S,b_iand,h,Md.valN]
theorem c_w6_val (dp:Nat)(n:Int)(A:List Blk)(nb:Nat)(us:List Nat):evOwnK false E (evC E fn (dp+1)) 97 A nb (some ([vi n],us))=some (.made (.d (.agg (Cl.cells (Md.valN n)))) []):=
 Says.flat (raw_w6_val S dp n ) (np S 97 (by decide)) (rfl) A nb us
theorem raw_w6_Make_1 (dp:Nat)(i:Int)(l:List Int)(h0:0<=i):Says E fn (dp+1) 47 [vi i,.vptr [rowD l]] (vi (Md.kM l i)):=by
 unfold Says
 show ansOf (evC E fn (dp+1) 47 [.d (vi i),.d (.vptr [rowD l])] [])=_
 rw[evC_succ,S.f_w6_Make_1,apF_some,F_w6_Make_1,mkF_run _ _ _ _ _ _ _ _ rfl]
 by_cases h:i<l.length
 ·obtain ⟨e, he⟩ := get_of (show i.toNat < l.length by omega)
  simp only[eG,go_sem,thq S,nbr S,zN0,zN1,zN2,zN3,zN4,zI0,zI1,zI2,zI3,reduceCtorEq,of_47_Mk1 S,h,w_ixI h0 he,he,Option.getD_some,Md.kM]
 ·simp only[eG,go_sem,thq S,nbr S,zN0,zN1,zN2,zN3,zN4,zI0,zI1,zI2,zI3,reduceCtorEq,of_47_Mk1 S,h,Md.kM,List.getElem?_eq_none (show l.length<=i.toNat by omega),Option.getD_none]
theorem c_w6_Make_1 (dp:Nat)(i:Int)(l:List Int)(h0:0<=i)(A:List Blk)(nb:Nat)(us:List Nat):evOwnK false E (evC E fn (dp+1)) 47 A nb (some ([vi i,.vptr [rowD l]],us))=some (.made (.d (vi (Md.kM l i))) []):=
 Says.flat (raw_w6_Make_1 S dp i l h0) (np S 47 (by decide)) (rfl) A nb us
theorem raw_w6_ins (dp:Nat)(x:Int)(n:Nat)(hn:n<1000):Says E fn (dp+2) 49 [vi x,vi (n:Nat)] (.agg (Cl.cells (Md.insN x n))):=by
 unfold Says
 show ansOf (evC E fn (dp+1+1) 49 [.d (vi x),.d (vi (n:Nat))] [])=_
 rw[evC_succ,S.f_w6_ins,apF_some,F_w6_ins,mkF_run _ _ _ _ _ _ _ _ rfl]
 have hw:IntKind.i64.wrap ((n:Int)+1)=(n:Int)+1:=wrap_i64 (by omega) (by omega)
 have hi:Md.insN x n=Md.insN x n:=rfl
 unfold Md.insN
 have r18:∀ {α:Type} (l:List α),rep l 18=l++(l++(l++(l++(l++(l++(l++(l++(l++(l++(l++(l++(l++(l++(l++(l++(l++l)))))))))))))))):=fun l=>by simp[rep]
 have r4:∀ {α:Type} (l:List α),rep l 4=l++(l++(l++l)):=fun l=>by simp[rep]
 simp only[eG,go_sem,thq S,nbr S,zN0,zN1,zN2,zN3,zN4,zI0,zI1,zI2,zI3,reduceCtorEq,of_49_Mk1 S,sh8,sh11,sh14,sh16,sh18,b_iand,lm18,lm10,lmN,ix18,ix4o,hw,w10,c_w6_val S,r18,r4,d_endD,d_neM,d_ne1,d_ne2,Md.v0]
 generalize Md.k18.getD (Md.lowmod x 18) 0=k
 by_cases k1:k=1
 ·simp only[k1,decide_true,cond_true,if_true]
 by_cases k2:k=2
 ·simp only[k2,decide_true,decide_false,cond_true,cond_false,if_true,if_false,zI0,true_or,or_true]
 by_cases k3:k=3
 ·simp only[k3,decide_true,decide_false,cond_true,cond_false,if_true,if_false,zI0,true_or,or_true]
 by_cases k4:k=4
 ·simp only[k4,decide_true,decide_false,cond_true,cond_false,if_true,if_false,zI0,true_or,or_true,or_false]
 by_cases k5:k=5
 ·simp only[k5,decide_true,decide_false,cond_true,cond_false,if_true,if_false,zI0,true_or,or_true,or_false]
 by_cases k6:k=6
 ·simp only[k6,decide_true,decide_false,cond_true,cond_false,if_true,if_false,zI0,true_or,or_true,or_false]
 by_cases k8:k=8
 ·simp only[k8,decide_true,decide_false,cond_true,cond_false,if_true,if_false,zI0,true_or,or_true,or_false]
 by_cases k7:k=7
 ·simp only[k7,decide_true,decide_false,cond_true,cond_false,if_true,if_false,zI0,true_or,or_true,or_false]
 simp only[k1,k2,k3,k4,k5,k6,k7,k8,decide_false,cond_false,if_false,or_false]
theorem c_w6_ins (dp:Nat)(x:Int)(n:Nat)(hn:n<1000)(A:List Blk)(nb:Nat)(us:List Nat):evOwnK false E (evC E fn (dp+2)) 49 A nb (some ([vi x,vi (n:Nat)],us))=some (.made (.d (.agg (Cl.cells (Md.insN x n)))) []):=
 Says.flat (raw_w6_ins S dp x n hn) (np S 49 (by decide)) (rfl) A nb us
end
end Go.Aug.Mc
