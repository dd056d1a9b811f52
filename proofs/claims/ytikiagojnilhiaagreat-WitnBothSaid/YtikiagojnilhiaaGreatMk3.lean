import Derived.Test.YtikiagojnilhiaaGreatMc39
import Derived.Test.YtikiagojnilhiaaGreatMk
import Derived.Test.YtikiagojnilhiaaGreatMc2
namespace Go.Aug.Mc
open Go Go.Aug
open Nat renaming reduceLT -> zN0, reduceEqDiff -> zN1, reduceAdd -> zN2, reduceMul -> zN3, reduceLeDiff -> zN4
open Int renaming reduceEq -> zI0, reduceLT -> zI1, reduceLE -> zI2, reduceNeg -> zI3
set_option linter.unusedSimpArgs false
set_option linter.unusedVariables false
set_option maxHeartbeats 40000000
set_option maxRecDepth 200000
theorem e_endD (ps:List (Opd×Opd))(k:K)(tm:List AV)(A:List Blk):endD ps k tm A=bif refsNe tm ps then k tm A else none:=id rfl
theorem e_neC (tm:List AV)(p:Opd×Opd)(l:List (Opd×Opd)):refsNe tm (p::l)=(refNe (look tm p.1) (look tm p.2)&&refsNe tm l):=id rfl
theorem e_ne0 (tm:List AV):refsNe tm []=true:=id rfl
theorem e_neR (i v o j w q:Nat):refNe (.ref i v o) (.ref j w q)= !Nat.beq i j:=id rfl
theorem wrX {l:List Int}{k:Nat}(h:k<l.length)(i v:Nat)(A:List Blk)(n:Int):storeAt A i v (k*1) [.d (vi n)] 1 (some (.cells ((rowC l).map .d) v false))=some (A.set i (.cells ((rowC (l.set k n)).map .d) v false)):=
 st_row (o:=0) (e':=n) [vi n] (List.getElem?_eq_getElem h) rfl rfl rfl rfl (by show 0+1<=1;decide) 1 rfl _ rfl
variable {E:Env} {fn:FuncId->Option (Env->CallT->CallT)}
section
variable (S:Sur E fn)
include S
theorem o8_40:E.lives 8 1=none/\E.lives 8 17=none/\E.lives 8 21=none:=⟨off S 8 1 (by decide) rfl,off S 8 17 (by decide) rfl,off S 8 21 (by decide) rfl⟩
theorem loop_States (dp:Nat)(p:Prog)(q:List Place)(hql:q.length<=20000)(l:List Int)(how:Int)(kx:Nat->K)(P:Option DV->Prop)
  (hx : ∀ T x y, getS .bot T 3 = .ref 0 0 0 -> getS .bot T 6 = .ref 1 0 0 -> getS .bot T 7 = .ref 2 0 0 -> getS .bot T 9 = .sref 3 0 0 q.length 1 (some q.length) -> getS .bot T 10 = .sref 4 0 0 q.length 1 (some q.length) -> (x : List Int).length = q.length -> (y : List Int).length = q.length ->
   P (ansOf (kx 0 (mk .bot 80 T) [.cells ((progC p).map .d) 0 false,.cells [zi,zi,zi,zi,zn,zn,zi] 0 false,.cells [zi,zi,zi,zi,zn,zn,zi] 0 false,.cells ((rowC x).map .d) 0 false,.cells ((rowC y).map .d) 0 false]))):
  ∀(m k f:Nat) (x y:List Int),k+m=q.length->m<=f->x.length=q.length->y.length=q.length->
  P (ansOf (B10_w7_States (inn E 8) (evC E fn dp) (loopK 10 B10_w7_States (inn E 8) (evC E fn dp) kx (kEnd 0 [.cell 6 true 7,.cell 7 true 7]) f) kx (kEnd 0 [.cell 6 true 7,.cell 7 true 7]) (mk .bot 80 [(1,.d (rowD l)),(2,aint how),(3,.ref 0 0 0),(6,.ref 1 0 0),(7,.ref 2 0 0),(8,.d (rowD q)),(9,.sref 3 0 0 q.length 1 (some q.length)),(10,.sref 4 0 0 q.length 1 (some q.length)),(25,aint q.length),(26,aint k)])
   [.cells ((progC p).map .d) 0 false,.cells [zi,zi,zi,zi,zn,zn,zi] 0 false,.cells [zi,zi,zi,zi,zn,zn,zi] 0 false,.cells ((rowC x).map .d) 0 false,.cells ((rowC y).map .d) 0 false])):=by
 intro m
 induction m with
 | zero=>
  intro k f x y hk _ hxl hyl
  have hkq:¬(k:Int)<q.length:=by omega
  generalize loopK 10 B10_w7_States _ _ kx _ f=KK
  first | (conv=>lhs;rw[B10_w7_States]) | rw[B10_w7_States]
  simp only[eG,go_sem,thq S,nbr S,zN0,zN1,zN2,zN3,zN4,zI0,zI1,zI2,zI3,reduceCtorEq,o8_40 S,hkq]
  exact hx _ x y rfl rfl rfl rfl rfl hxl hyl
 | succ m ih=>
  intro k f x y hk hf hxl hyl
  obtain⟨z,hzq⟩:=get_of (show k<q.length by omega)
  obtain⟨f,rfl⟩:∃ g,f=g+1:=⟨f-1,by omega⟩
  have hkq:(k:Int)<q.length:=by omega
  have hkx:k<x.length:=by omega
  have hky:k<y.length:=by omega
  have next:=fun x' y' h1 h2=>ih (k+1) f x' y' (by omega) (by omega) h1 h2
  generalize hK:loopK 10 B10_w7_States _ _ kx _ (f+1)=KK
  first | (conv=>lhs;rw[B10_w7_States]) | rw[B10_w7_States]
  by_cases hl:(k:Int)<l.length
  ·obtain ⟨v, hvl⟩ := get_of (show k < l.length by omega)
   cases hsec:z.secret with
   | true=>
    simp only[eG,go_sem,thq S,nbr S,zN0,zN1,zN2,zN3,zN4,zI0,zI1,zI2,zI3,reduceCtorEq,o8_40 S,hkq,hl,w_ix hvl,w_ix hzq,hsec,wrX,hkx,hky,List.length_set,Int.natCast_nonneg,Int.toNat_natCast,Int.ofNat_lt,Nat.zero_add,true_and,and_self,and_true,if_true,wi k (by omega)]
    rw[<-hK,loop_in (on S _ _ [1,2,3,6,7,8,9,10,25,26] (by decide) rfl) rfl _ _ _ _ _ _ _ _ _ rfl]
    simp only[eG,go_sem,thq S,nbr S,zN0,zN1,zN2,zN3,zN4,zI0,zI1,zI2,zI3,reduceCtorEq,o8_40 S]
    exact next _ _ (by rw[List.length_set];exact hxl) (by rw[List.length_set,List.length_set];exact hyl)
   | false=>
    by_cases h7:Md.iand how 7=0
    ·simp only [eG, go_sem, thq S, nbr S, zN0, zN1, zN2, zN3, zN4, zI0, zI1, zI2, zI3, reduceCtorEq, o8_40 S, hkq, hl, w_ix hvl, w_ix hzq, hsec, b_iand, h7, wrX, hkx, hky, List.length_set, Int.natCast_nonneg, Int.toNat_natCast, Int.ofNat_lt, Nat.zero_add, true_and, and_self, and_true, if_true, wi k (by omega)]
     rw[<-hK,loop_in (on S _ _ [1,2,3,6,7,8,9,10,25,26] (by decide) rfl) rfl _ _ _ _ _ _ _ _ _ rfl]
     simp only[eG,go_sem,thq S,nbr S,zN0,zN1,zN2,zN3,zN4,zI0,zI1,zI2,zI3,reduceCtorEq,o8_40 S]
     exact next _ _ (by rw[List.length_set];exact hxl) (by rw[List.length_set,List.length_set];exact hyl)
    ·simp only [eG, go_sem, thq S, nbr S, zN0, zN1, zN2, zN3, zN4, zI0, zI1, zI2, zI3, reduceCtorEq, o8_40 S, hkq, hl, w_ix hvl, w_ix hzq, hsec, b_iand, h7, wrX, hkx, hky, List.length_set, Int.natCast_nonneg, Int.toNat_natCast, Int.ofNat_lt, Nat.zero_add, true_and, and_self, and_true, if_true, wi k (by omega)]
     rw[<-hK,loop_in (on S _ _ [1,2,3,6,7,8,9,10,25,26] (by decide) rfl) rfl _ _ _ _ _ _ _ _ _ rfl]
     simp only[eG,go_sem,thq S,nbr S,zN0,zN1,zN2,zN3,zN4,zI0,zI1,zI2,zI3,reduceCtorEq,o8_40 S]
     exact next _ _ (by rw[List.length_set];exact hxl) (by rw[List.length_set];exact hyl)
  ·simp only [eG, go_sem, thq S, nbr S, zN0, zN1, zN2, zN3, zN4, zI0, zI1, zI2, zI3, reduceCtorEq, o8_40 S, hkq, hl, wi k (by omega)]
   rw[<-hK,loop_in (on S _ _ [1,2,3,6,7,8,9,10,25,26] (by decide) rfl) rfl _ _ _ _ _ _ _ _ _ rfl]
   simp only[eG,go_sem,thq S,nbr S,zN0,zN1,zN2,zN3,zN4,zI0,zI1,zI2,zI3,reduceCtorEq,o8_40 S]
   exact next x y hxl hyl
theorem says_StatesG (dp:Nat)(p:Prog)(hms:∀ m ∈ p.mems,0<=m.n/\m.n<=16)(hml:p.mems.length<1000)(l:List Int)(how:Int):
  ∃ s s':State,Says E fn (dp+5) 8 [progD p,rowD l,vi how] (.tup [stateD s,stateD s'])/\SOk (cellsI p.mems) s/\SOk (cellsI p.mems) s':=by
 obtain⟨hq,hqo,hql⟩:=says_Places S (dp+3) p hms hml
 obtain⟨hq',_,_⟩:=says_Places S (dp+2) p hms hml
 generalize hQ:places p=q at *
 obtain⟨P,hP⟩:∃ P:Option DV->Prop,P=fun o=>∃ s s':State,o=some (.tup [stateD s,stateD s'])/\SOk (cellsI p.mems) s/\SOk (cellsI p.mems) s':=⟨_,rfl⟩
 have fin:∀ s s':State,SOk (cellsI p.mems) s->SOk (cellsI p.mems) s'->P (some (.tup [stateD s,stateD s'])):=fun s s' h h'=>by rw[hP];exact⟨s,s',rfl,h,h'⟩
 have cP:=fun(A:List Blk) (nb:Nat)=>Says.deep hq (np S 26 (by decide)) A nb
 simp only[progD,progC] at cP
 have key:P (ansOf (evC E fn (dp+5) 8 [.d (progD p),.d (rowD l),aint how] [])):=by
  clear hP
  show P (ansOf (evC E fn (dp+4+1) 8 [.d (progD p),.d (rowD l),aint how] []))
  rw[evC_succ,S.f_w7_States,apF_some,F_w7_States,mkF_run _ _ _ _ _ _ _ _ rfl]
  have hmk:=fun nb=>mk_A q.length nb (show q.length<=100000 by omega)
  simp only[eG,go_sem,thq S,nbr S,zN0,zN1,zN2,zN3,zN4,zI0,zI1,zI2,zI3,reduceCtorEq,o8_40 S,cP,o_make,hmk]
  rw[big_eq,loop_in (on S _ _ [1,2,3,6,7,8,9,10,25,26] (by decide) rfl) rfl _ _ _ _ _ _ _ _ _ rfl]
  simp only[eG,go_sem,thq S,nbr S,zN0,zN1,zN2,zN3,zN4,zI0,zI1,zI2,zI3,reduceCtorEq,o8_40 S]
  refine loop_States S (dp+4) p q hql l how _ P ?_ q.length 0 _ (List.replicate q.length 0) (List.replicate q.length 0) (by omega) (by omega) (by simp) (by simp)
  intro T x y t3 t6 t7 t9 t10 hxl hyl
  obtain⟨s1,h1,o1⟩:=says_Start S dp p hms hml q hq' hqo hql x hxl
  obtain⟨s2,h2,o2⟩:=says_Start S dp p hms hml q hq' hqo hql y hyl
  have hlx:q.length*1<=((rowC x).map AV.d).length:=by rw[List.length_map,rowC_len,hxl];exact Nat.le_refl _
  have hly:q.length*1<=((rowC y).map AV.d).length:=by rw[List.length_map,rowC_len,hyl];exact Nat.le_refl _
  have htx:∀(A:List Blk) (m:Nat),mapD (deep A (m+1)) (((rowC x).map AV.d).take (q.length*1))=some (rowC x,[]):=fun A m=>by
   rw[List.take_of_length_le (by rw[List.length_map,rowC_len,hxl];exact Nat.le_refl _),mapD_dd]
  have hty:∀(A:List Blk) (m:Nat),mapD (deep A (m+1)) (((rowC y).map AV.d).take (q.length*1))=some (rowC y,[]):=fun A m=>by
   rw[List.take_of_length_le (by rw[List.length_map,rowC_len,hyl];exact Nat.le_refl _),mapD_dd]
  have hfx:DV.lst (rowC x) q.length none=rowD x:=by unfold rowD;rw[hxl]
  have hfy:DV.lst (rowC y) q.length none=rowD y:=by unfold rowD;rw[hyl]
  have hb:=np S 27 (by decide)
  have done:P (some (.tup [stateD s1,stateD s2])):=fin s1 s2 o1 o2
  simp only[stateD,stateC] at done h1 h2
  by_cases n0:q.length=0
  ·have ex : x = [] := List.length_eq_zero_iff.1 (by omega)
   have ey:y=[]:=List.length_eq_zero_iff.1 (by omega)
   subst ex ey
   have c1:=fun(A:List Blk) (nb:Nat)=>Says.deep h1 hb A nb
   have c2:=fun(A:List Blk) (nb:Nat)=>Says.deep h2 hb A nb
   simp only[progD,progC,w_rnil] at c1 c2
   have d1:P (some (.tup [stateD s1,stateD s1])):=fin s1 s1 o1 o1
   simp only[stateD,stateC] at d1
   simp only[eG,go_sem,thq S,nbr S,zN0,zN1,zN2,zN3,zN4,zI0,zI1,zI2,zI3,reduceCtorEq,o8_40 S,hfx,hfy,htx,hty,hlx,hly,deep_sr,Option.bind_some,Option.map_some,e_endD,e_neC,e_ne0,e_neR,show Nat.beq 1 6=false from rfl,Bool.not_false,t3,t6,t7,t9,t10,n0,c1,c2]
   exact d1
  ·by_cases N0 : cellsI p.mems = 0
   ·have m1 : s1.mem = [] := List.length_eq_zero_iff.1 (by have := o1.mem; omega)
    have m2:s2.mem=[]:=List.length_eq_zero_iff.1 (by have:=o2.mem;omega)
    rw[m1,o1.stk] at h1 done
    rw[m2,o2.stk] at h2 done
    have c1:=fun(A:List Blk) (nb:Nat) (us:List Nat)=>Says.flat h1 hb rfl A nb us
    have c2:=fun(A:List Blk) (nb:Nat) (us:List Nat)=>Says.flat h2 hb rfl A nb us
    simp only[progD,progC] at c1 c2
    simp only[eG,go_sem,thq S,nbr S,zN0,zN1,zN2,zN3,zN4,zI0,zI1,zI2,zI3,reduceCtorEq,o8_40 S,hfx,hfy,htx,hty,hlx,hly,deep_sr,Option.bind_some,Option.map_some,e_endD,e_neC,e_ne0,e_neR,show Nat.beq 1 6=false from rfl,Bool.not_false,t3,t6,t7,t9,t10,n0,c1,c2]
    exact done
   ·have f1:DV.flat 8 (.tup [.agg [vi s1.regs.r0,vi s1.regs.r1,vi s1.regs.r2,vi s1.regs.r3,rowD s1.mem,rowD s1.stack,vi s1.pc],vb true])=false:=by
     cases hm:s1.mem with
     | nil=>have:=o1.mem;rw[hm] at this;exact absurd this.symm N0
     | cons a l=>rfl
    have f2:DV.flat 8 (.tup [.agg [vi s2.regs.r0,vi s2.regs.r1,vi s2.regs.r2,vi s2.regs.r3,rowD s2.mem,rowD s2.stack,vi s2.pc],vb true])=false:=by
     cases hm:s2.mem with
     | nil=>have:=o2.mem;rw[hm] at this;exact absurd this.symm N0
     | cons a l=>rfl
    have c1:=fun(A:List Blk) (nb i:Nat) (us:List Nat)=>Says.used h1 hb f1 A nb i us
    have c2:=fun(A:List Blk) (nb i:Nat) (us:List Nat)=>Says.used h2 hb f2 A nb i us
    simp only[progD,progC] at c1 c2
    simp only[eG,go_sem,thq S,nbr S,zN0,zN1,zN2,zN3,zN4,zI0,zI1,zI2,zI3,reduceCtorEq,o8_40 S,hfx,hfy,htx,hty,hlx,hly,deep_sr,Option.bind_some,Option.map_some,e_endD,e_neC,e_ne0,e_neR,show Nat.beq 1 6=false from rfl,Bool.not_false,t3,t6,t7,t9,t10,n0,c1,c2]
    exact done
 rw[hP] at key
 obtain⟨s,s',h1,h2,h3⟩:=key
 exact⟨s,s',h1,h2,h3⟩
end
theorem mk_ms (l:List Int):∀ m ∈ (Md.make l).mems,0<=m.n/\m.n<=16:=by
 intro m hm
 have hm:m ∈ Md.memsM l (Md.widM l):=hm
 have h1:∀ m ∈ Md.mem1 l (Md.widM l),0<=m.n/\m.n<=16:=by
  intro m hm
  unfold Md.mem1 at hm
  split at hm
  ·simp only [List.mem_singleton] at hm
   subst hm
   split<;>simp
  ·simp at hm
 unfold Md.memsM at hm
 split at hm
 ·rcases List.mem_append.1 hm with hm | hm
  ·exact h1 m hm
  ·simp only [List.mem_singleton] at hm
   subst hm;simp
 ·exact h1 m hm
theorem mk_ml (l:List Int):(Md.make l).mems.length<1000:=by
 show(Md.memsM l (Md.widM l)).length<1000
 have h1:(Md.mem1 l (Md.widM l)).length<=1:=by unfold Md.mem1;split<;>simp
 unfold Md.memsM
 split
 ·simp;omega
 ·omega
theorem mk_il (l:List Int):(Md.make l).ins.length<1000:=by
 show((List.range (Md.nM l)).map _).length<1000
 obtain⟨r,h1,h2⟩:=Md.iand3 (Md.shi (Md.kM l 0) 12)
 rw[List.length_map,List.length_range]
 unfold Md.nM
 rw[h2,Int.toNat_natCast];omega
theorem mk_w (l:List Int):Md.okW (Md.make l).w=true:=by
 obtain⟨r,h1,h2⟩:=Md.iand1 (Md.kM l 0)
 show Md.okW (Md.iand (Md.kM l 0) 1+1)=true
 rw[h2];exact Md.okW_iff.2 ⟨by omega,by omega⟩
theorem sh_i (x:Int)(n:Nat)(h:n<=63):evBin .shr (.d (.v (.int .i64 x))) (.d (.v (.int .u64 (n:Int))))=some (aint (Md.shi x n)):=by
 rw[b_shr _ _ _ _ (Int.natCast_nonneg n),Int.toNat_natCast,Nat.min_eq_left (by show n<=64;omega)];rfl
theorem sh1 (x:Int):evBin .shr (.d (.v (.int .i64 x))) (.d (.v (.int .u64 1)))=some (aint (Md.shi x 1)):=sh_i x 1 (by decide)
theorem sh8 (x:Int):evBin .shr (.d (.v (.int .i64 x))) (.d (.v (.int .u64 8)))=some (aint (Md.shi x 8)):=sh_i x 8 (by decide)
theorem sh10 (x:Int):evBin .shr (.d (.v (.int .i64 x))) (.d (.v (.int .u64 10)))=some (aint (Md.shi x 10)):=sh_i x 10 (by decide)
theorem sh11 (x:Int):evBin .shr (.d (.v (.int .i64 x))) (.d (.v (.int .u64 11)))=some (aint (Md.shi x 11)):=sh_i x 11 (by decide)
theorem sh12 (x:Int):evBin .shr (.d (.v (.int .i64 x))) (.d (.v (.int .u64 12)))=some (aint (Md.shi x 12)):=sh_i x 12 (by decide)
theorem sh14 (x:Int):evBin .shr (.d (.v (.int .i64 x))) (.d (.v (.int .u64 14)))=some (aint (Md.shi x 14)):=sh_i x 14 (by decide)
theorem sh16 (x:Int):evBin .shr (.d (.v (.int .i64 x))) (.d (.v (.int .u64 16)))=some (aint (Md.shi x 16)):=sh_i x 16 (by decide)
theorem sh18 (x:Int):evBin .shr (.d (.v (.int .i64 x))) (.d (.v (.int .u64 18)))=some (aint (Md.shi x 18)):=sh_i x 18 (by decide)
theorem lm (x:Int)(n:Nat)(h:0<n):evBin .rem (aint (Md.iand x 255)) (aint (n:Int))=some (aint (Md.lowmod x n:Nat)):=by
 rw[b_rem _ _ _ (by omega),Md.lowmod_eq]
theorem lm18 (x:Int):evBin .rem (aint (Md.iand x 255)) (aint 18)=some (aint (Md.lowmod x 18:Nat)):=lm x 18 (by decide)
theorem lm10 (x:Int):evBin .rem (aint (Md.iand x 255)) (aint 10)=some (aint (Md.lowmod x 10:Nat)):=lm x 10 (by decide)
theorem lm3 (x:Int):evBin .rem (aint (Md.iand x 255)) (aint 3)=some (aint (Md.lowmod x 3:Nat)):=lm x 3 (by decide)
theorem ix_lit {l:List Int}{i:Nat}(h:i<l.length)(n:Nat)(hn:n=l.length)(cs:List DV)(hc:cs=rowC l):evIxS (.d (.lst cs n (some n))) (aint (i:Int)) 1=some (.d (.vptr (vi (l.getD i 0)::rowC (l.drop (i+1))))):=by
 subst hn hc
 have:=ix_row h (s:=1) rfl (some l.length) .i64
 rw[List.getD_eq_getElem?_getD,List.getElem?_eq_getElem h]
 exact this
theorem ix18 (x:Int):evIxS (.d (.lst [vi 1,vi 1,vi 2,vi 2,vi 2,vi 3,vi 3,vi 4,vi 5,vi 5,vi 5,vi 6,vi 7,vi 8,vi 9,vi 10,vi 11,vi 1] 18 (some 18))) (aint (Md.lowmod x 18:Nat)) 1=some (.d (.vptr (vi (Md.k18.getD (Md.lowmod x 18) 0)::rowC (Md.k18.drop (Md.lowmod x 18+1))))):=
 ix_lit (l:=Md.k18) (Md.lowmod_lt x (by decide)) 18 rfl _ rfl
theorem ix4o (x:Int):evIxS (.d (.lst [vi 9,vi 10,vi 3,vi 2] 4 (some 4))) (aint (Md.iand x 3)) 1=some (.d (.vptr (vi (Md.o4.getD (Md.iand x 3).toNat 0)::rowC (Md.o4.drop ((Md.iand x 3).toNat+1))))):=by
 obtain⟨r,hr,h⟩:=Md.iand3 x
 rw[h,Int.toNat_natCast]
 exact ix_lit (l:=Md.o4) hr 4 rfl _ rfl
theorem w10 (x:Int):IntKind.i64.wrap ((Md.lowmod x 10:Nat)+1)=(Md.lowmod x 10:Nat)+1:=by
 have:=Md.lowmod_lt x (show 0<10 by decide)
 exact wrap_i64 (by omega) (by omega)
theorem lmN (x:Int)(n:Nat):evBin .rem (aint (Md.iand x 255)) (aint ((n:Int)+1))=some (aint (Md.lowmod x (n+1):Nat)):=by
 have:=lm x (n+1) (by omega)
 rw[Int.natCast_add] at this
 exact this
theorem d_endD (ps:List (Opd×Opd))(k:K)(tm:List AV)(A:List Blk):endD ps k tm A=bif refsNe tm ps then k tm A else none:=id rfl
theorem d_neM (tm:List AV):refsNe tm []=true:=id rfl
theorem d_ne1 (tm:List AV)(a b:Opd)(l:List (Opd×Opd)):refsNe tm ((a,b)::l)=(refNe (look tm a) (look tm b)&&refsNe tm l):=id rfl
theorem d_ne2 (i v o j w q:Nat):refNe (.ref i v o) (.ref j w q)= !decide (i=j):=by
 show(!Nat.beq i j)=_
 by_cases h:i=j
 ·subst h
  have:Nat.beq i i=true:=Nat.beq_refl i
  rw[this];simp
 ·have:Nat.beq i j=false:=by
   cases hb:Nat.beq i j with
   | false=>rfl
   | true=>exact absurd (Nat.eq_of_beq_eq_true hb) h
  rw[this,decide_eq_false h]
variable {E:Env} {fn:FuncId->Option (Env->CallT->CallT)}
section
variable (S:Sur E fn)
include S
theorem of_53_Mk1:E.lives 53 7=none:=off S 53 7 (by decide) rfl
theorem of_23_Mk1:E.lives 23 7=none:=off S 23 7 (by decide) rfl
theorem of_25_Mk1:E.lives 25 13=none/\E.lives 25 17=none/\E.lives 25 19=none/\E.lives 25 21=none/\E.lives 25 25=none/\E.lives 25 29=none/\E.lives 25 31=none/\E.lives 25 35=none:=⟨off S 25 13 (by decide) rfl,off S 25 17 (by decide) rfl,off S 25 19 (by decide) rfl,off S 25 21 (by decide) rfl,off S 25 25 (by decide) rfl,off S 25 29 (by decide) rfl,off S 25 31 (by decide) rfl,off S 25 35 (by decide) rfl⟩
theorem raw_w6_val (dp:Nat)(n:Int):Says E fn (dp+1) 53 [vi n] (.agg (Cl.cells (Md.valN n))):=by
 unfold Says
 show ansOf (evC E fn (dp+1) 53 [.d (vi n)] [])=_
 rw[evC_succ,S.f_w6_val,apF_some,F_w6_val,mkF_run _ _ _ _ _ _ _ _ rfl]
 by_cases h:Md.iand n 4=0
 ·simp only[eG,go_sem,thq S,nbr S,zN0,zN1,zN2,zN3,zN4,zI0,zI1,zI2,zI3,reduceCtorEq,of_53_Mk1 S,b_iand,h,Md.valN]
 ·simp only[eG,go_sem,thq S,nbr S,zN0,zN1,zN2,zN3,zN4,zI0,zI1,zI2,zI3,reduceCtorEq,of_53_Mk1 S,b_iand,h,Md.valN]
theorem c_w6_val (dp:Nat)(n:Int)(A:List Blk)(nb:Nat)(us:List Nat):evOwnK false E (evC E fn (dp+1)) 53 A nb (some ([vi n],us))=some (.made (.d (.agg (Cl.cells (Md.valN n)))) []):=
 Says.flat (raw_w6_val S dp n ) (np S 53 (by decide)) (rfl) A nb us
theorem raw_w6_Make_1 (dp:Nat)(i:Int)(l:List Int)(h0:0<=i):Says E fn (dp+1) 23 [vi i,.vptr [rowD l]] (vi (Md.kM l i)):=by
 unfold Says
 show ansOf (evC E fn (dp+1) 23 [.d (vi i),.d (.vptr [rowD l])] [])=_
 rw[evC_succ,S.f_w6_Make_1,apF_some,F_w6_Make_1,mkF_run _ _ _ _ _ _ _ _ rfl]
 by_cases h:i<l.length
 ·obtain ⟨e, he⟩ := get_of (show i.toNat < l.length by omega)
  simp only[eG,go_sem,thq S,nbr S,zN0,zN1,zN2,zN3,zN4,zI0,zI1,zI2,zI3,reduceCtorEq,of_23_Mk1 S,h,w_ixI h0 he,he,Option.getD_some,Md.kM]
 ·simp only[eG,go_sem,thq S,nbr S,zN0,zN1,zN2,zN3,zN4,zI0,zI1,zI2,zI3,reduceCtorEq,of_23_Mk1 S,h,Md.kM,List.getElem?_eq_none (show l.length<=i.toNat by omega),Option.getD_none]
theorem c_w6_Make_1 (dp:Nat)(i:Int)(l:List Int)(h0:0<=i)(A:List Blk)(nb:Nat)(us:List Nat):evOwnK false E (evC E fn (dp+1)) 23 A nb (some ([vi i,.vptr [rowD l]],us))=some (.made (.d (vi (Md.kM l i))) []):=
 Says.flat (raw_w6_Make_1 S dp i l h0) (np S 23 (by decide)) (rfl) A nb us
theorem raw_w6_ins (dp:Nat)(x:Int)(n:Nat)(hn:n<1000):Says E fn (dp+2) 25 [vi x,vi (n:Nat)] (.agg (Cl.cells (Md.insN x n))):=by
 unfold Says
 show ansOf (evC E fn (dp+1+1) 25 [.d (vi x),.d (vi (n:Nat))] [])=_
 rw[evC_succ,S.f_w6_ins,apF_some,F_w6_ins,mkF_run _ _ _ _ _ _ _ _ rfl]
 have hw:IntKind.i64.wrap ((n:Int)+1)=(n:Int)+1:=wrap_i64 (by omega) (by omega)
 have hi:Md.insN x n=Md.insN x n:=rfl
 unfold Md.insN
 have r18:∀ {α:Type} (l:List α),rep l 18=l++(l++(l++(l++(l++(l++(l++(l++(l++(l++(l++(l++(l++(l++(l++(l++(l++l)))))))))))))))):=fun l=>by simp[rep]
 have r4:∀ {α:Type} (l:List α),rep l 4=l++(l++(l++l)):=fun l=>by simp[rep]
 simp only[eG,go_sem,thq S,nbr S,zN0,zN1,zN2,zN3,zN4,zI0,zI1,zI2,zI3,reduceCtorEq,of_25_Mk1 S,sh8,sh11,sh14,sh16,sh18,b_iand,lm18,lm10,lmN,ix18,ix4o,hw,w10,c_w6_val S,r18,r4,d_endD,d_neM,d_ne1,d_ne2,Md.v0]
 generalize Md.k18.getD (Md.lowmod x 18) 0=k
 by_cases k1:k=1
 ·simp only[k1,decide_true,cond_true,if_true]
 by_cases k2:k=2
 ·simp only[k2,decide_true,decide_false,cond_true,cond_false,if_true,if_false,zI0,true_or,or_true]
 by_cases k3:k=3
 ·simp only[k3,decide_true,decide_false,cond_true,cond_false,if_true,if_false,zI0,true_or,or_true]
 by_cases k4:k=4
 ·simp only[k4,decide_true,decide_false,cond_true,cond_false,if_true,if_false,zI0,true_or,or_true,or_false]
 by_cases k5:k=5
 ·simp only[k5,decide_true,decide_false,cond_true,cond_false,if_true,if_false,zI0,true_or,or_true,or_false]
 by_cases k6:k=6
 ·simp only[k6,decide_true,decide_false,cond_true,cond_false,if_true,if_false,zI0,true_or,or_true,or_false]
 by_cases k8:k=8
 ·simp only[k8,decide_true,decide_false,cond_true,cond_false,if_true,if_false,zI0,true_or,or_true,or_false]
 by_cases k7:k=7
 ·simp only[k7,decide_true,decide_false,cond_true,cond_false,if_true,if_false,zI0,true_or,or_true,or_false]
 simp only[k1,k2,k3,k4,k5,k6,k7,k8,decide_false,cond_false,if_false,or_false]
theorem c_w6_ins (dp:Nat)(x:Int)(n:Nat)(hn:n<1000)(A:List Blk)(nb:Nat)(us:List Nat):evOwnK false E (evC E fn (dp+2)) 25 A nb (some ([vi x,vi (n:Nat)],us))=some (.made (.d (.agg (Cl.cells (Md.insN x n)))) []):=
 Says.flat (raw_w6_ins S dp x n hn) (np S 25 (by decide)) (rfl) A nb us
end
def dig (n:Nat):ByteArray:=⟨#[(48+n).toUInt8]⟩
theorem o_text (r:Bool)(x:Opd)(E:Env)(call:CallT)(tm:List AV)(A:List Blk)(nb:Nat):oText r x E call tm A nb=one? (evText A r (look tm x)):=id rfl
theorem t_cat (a b:ByteArray)(h:a.size+b.size<=1099511627776):evBin .add (.d (vt a)) (.d (vt b))=some (.d (vt (a++b))):=by
 show(evStr .add a b).map _=_
 simp[evStr,h]
theorem dg (z:Int):bytesText [z]++(⟨#[]⟩:ByteArray)=⟨#[UInt8.ofNat z.toNat]⟩:=by
 have:(⟨#[]⟩:ByteArray)=ByteArray.empty:=rfl
 rw[this,ByteArray.append_empty]
 rfl
theorem t_dig (z:Int):evBin .add (.d (vt (bytesText [z]))) (.d (vt ⟨#[]⟩))=some (.d (vt ⟨#[UInt8.ofNat z.toNat]⟩)):=by
 rw[t_cat _ _ (by rw[<-ByteArray.size_append,dg];show(1:Nat)<=_;decide),dg]
theorem t_ne (z:UInt8):evBin .eql (.d (vt ⟨#[z]⟩)) (.d (vt ⟨#[]⟩))=some (abool false):=by
 simp[evBin,evStr]
theorem q_B10_r4_Digits (E:Env)(call:CallT)(kn:K)(kx:Nat->K)(kr:K)(tm:List AV)(A:List Blk):B10_r4_Digits E call kn kx kr tm A=(cQ (cQ (cOz [st 6 (oV (.t 0)),st 7 (oBin .gtr (.t 6) (ci 0)),st 8 (oV (.t 7)),sg 9 8 false (oV (.t 3)),sg 10 8 false (oBin .eql (.t 9) (.c (.v (.string ⟨#[]⟩)))),st 11 (oPick (.t 8) (.c (.v (.bool true))) (.t 10))]) (cCond 1 (.t 11) (cSkip) (cExit 0))) (cBlock 1 (cQ (cOz [st 12 (oV (.t 0)),st 13 (oBin .rem (.t 12) (ci 10)),st 14 (oBin .add (ci 48) (.t 13)),st 15 (oCint .u8 (.t 14)),st 16 (oMkS (rep [.d (.v (.int .u8 0))] 1) 1 1 [(0,1,(.t 15))]),st 17 (oText false (.t 16)),st 18 (oV (.t 3)),st 19 (oBin .add (.t 17) (.t 18)),st 3 (oV (.t 19))]) (cOz [st 20 (oV (.t 0)),st 21 (oBin .quo (.t 20) (ci 10)),st 0 (oV (.t 21))])))) E call kn kx kr tm A:=id rfl
variable {E:Env} {fn:FuncId->Option (Env->CallT->CallT)}
section
variable (S:Sur E fn)
include S
theorem of_24_Mk2:E.lives 24 1=none/\E.lives 24 7=none:=⟨off S 24 1 (by decide) rfl,off S 24 7 (by decide) rfl⟩
theorem raw_r4_Digits (dp:Nat)(n:Int)(hn:0<=n/\n<6):Says E fn (dp+1) 24 [vi n] (vt (dig n.toNat)):=by
 unfold Says
 show ansOf (evC E fn (dp+1) 24 [.d (vi n)] [])=_
 rw[evC_succ,S.f_r4_Digits,apF_some,F_r4_Digits,mkF_run _ _ _ _ _ _ _ _ rfl]
 have hloop:∀ kx kr m d T A,loopK 10 B10_r4_Digits (inn E 24) (evC E fn dp) kx kr (m+1) (mk d 23 T) A=nrmTo (B10_r4_Digits (inn E 24) (evC E fn dp) (loopK 10 B10_r4_Digits (inn E 24) (evC E fn dp) kx kr m) kx kr) 23 [0,3] d T A (reach A 0 100000 ([0,3].flatMap fun t=>refsOf 8 (getS d T t)) []):=fun kx kr m d T A=>loop_in (on S _ _ [0,3] (by decide) rfl) rfl _ _ _ _ _ _ _ _ _ rfl
 have w1:∀ z:Int,0<=z->z<100->IntKind.i64.wrap z=z:=fun z h1 h2=>wrap_i64 (by omega) (by omega)
 have w2:∀ z:Int,0<=z->z<100->IntKind.u8.wrap z=z:=fun z h1 h2=>by simp only[IntKind.wrap,IntKind.signed,IntKind.bits];simp;omega
 have e0:evBin .eql (.d (vt ⟨#[]⟩)) (.d (vt ⟨#[]⟩))=some (abool true):=by simp[evBin,evStr]
 rcases(show n=0∨n=1∨n=2∨n=3∨n=4∨n=5 by omega) with rfl | rfl | rfl | rfl | rfl | rfl
 all_goals simp only[eG,go_sem,thq S,nbr S,Nat.reduceLT,Nat.reduceEqDiff,Nat.reduceAdd,Nat.reduceMul,Nat.reduceLeDiff,Int.reduceEq,Int.reduceLT,Int.reduceLE,Int.reduceNeg,reduceCtorEq,of_24_Mk2 S,hloop,q_B10_r4_Digits,ne_eq,not_false_eq_true,e0,gt_iff_lt,Int.reduceTMod,Int.reduceTDiv,Int.reduceMod,Int.reduceAdd,w1,w2,o_text,evText,readSlice,cellsAt,List.getElem?_cons_zero,List.take_succ_cons,List.take_zero,List.drop_zero,true_and,Nat.le_refl,and_self,intsOf,t_dig,t_ne,rep1']
 all_goals rfl
theorem c_r4_Digits (dp:Nat)(n:Int)(hn:0<=n/\n<6)(A:List Blk)(nb:Nat)(us:List Nat):evOwnK false E (evC E fn (dp+1)) 24 A nb (some ([vi n],us))=some (.made (.d (vt (dig n.toNat))) []):=
 Says.flat (raw_r4_Digits S dp n hn) (np S 24 (by decide)) (rfl) A nb us
end
theorem sh0 (x:Int):evBin .shr (.d (.v (.int .i64 x))) (.d (.v (.int .u64 0)))=some (aint (Md.shi x 0)):=sh_i x 0 (by decide)
theorem sf0 (x:Int):x.fdiv (2^min 0 64)=Md.shi x 0:=by rw[Nat.min_eq_left (by decide)];rfl
theorem sf2 (x:Int):x.fdiv (2^min 2 64)=Md.shi x 2:=by rw[Nat.min_eq_left (by decide)];rfl
theorem sf4 (x:Int):x.fdiv (2^min 4 64)=Md.shi x 4:=by rw[Nat.min_eq_left (by decide)];rfl
theorem sf6 (x:Int):x.fdiv (2^min 6 64)=Md.shi x 6:=by rw[Nat.min_eq_left (by decide)];rfl
theorem ix4r (x:Int):evIxS (.d (.lst [vi 0,vi 0,vi 1,vi 2] 4 (some 4))) (aint (Md.iand x 3)) 1=some (.d (.vptr (vi (Md.r4.getD (Md.iand x 3).toNat 0)::rowC (Md.r4.drop ((Md.iand x 3).toNat+1))))):=by
 obtain⟨r,hr,h⟩:=Md.iand3 x
 rw[h,Int.toNat_natCast]
 exact ix_lit (l:=Md.r4) hr 4 rfl _ rfl
theorem o_callVf (E:Env)(l:Nat->Option (List Nat))(m:Nat)(call:CallT)(tm:List AV)(A:List Blk)(nb:Nat)(g:FuncId)(args:List Opd)(cap:List AV)(h:memN g E.br=false):
  callV { br:=E.br,th:=E.th,prim:=E.prim,back:=E.back,lives:=E.lives,live:=l,nb0:=m } call tm A nb args (.fn (.func g) cap)=evOwnK (memN g E.th || isSomeL (l (thKey g))) E call g A nb (fkP (mapD (deep A 8) (args.map (look tm)++cap))):=
 evCall_K E l m call A nb g _ h
def dRef (A:List Blk)(n i:Nat):Option (List AV)->Option (DV×List Nat)
 | some cs=>(mapD (deep A n) cs).map fun r=>(.vptr r.1,i::r.2)
 | none=>none
theorem deep_ref (A:List Blk)(n i v o:Nat):deep A (n+1) (.ref i v o)=dRef A n i (cellsAt A i v o):=by
 show(match cellsAt A i v o with | some cs=>_ | none=>none)=_
 cases cellsAt A i v o<;>rfl
theorem dRef_some (A:List Blk)(n i:Nat)(cs:List AV):dRef A n i (some cs)=(mapD (deep A n) cs).map fun r=>(.vptr r.1,i::r.2):=id rfl
variable {E:Env} {fn:FuncId->Option (Env->CallT->CallT)}
section
variable (S:Sur E fn)
include S
theorem of_7_Mk3:E.lives 7 1=none/\E.lives 7 23=none/\E.lives 7 27=none/\E.lives 7 31=none/\E.lives 7 35=none/\E.lives 7 39=none:=⟨off S 7 1 (by decide) rfl,off S 7 23 (by decide) rfl,off S 7 27 (by decide) rfl,off S 7 31 (by decide) rfl,off S 7 35 (by decide) rfl,off S 7 39 (by decide) rfl⟩
theorem st12_0 (dp:Nat)(l:List Int)(kx:Nat->K)(kr:K)(f:Nat)(W wn pub sec r0 r1 r2 r3 r:Int)(hr:Md.r4.getD (Md.iand (Md.shi (Md.kM l 1) 0) 3).toNat 0=r):
  B12_w6_Make (inn E 7) (evC E fn (dp+1)) (loopK 12 B12_w6_Make (inn E 7) (evC E fn (dp+1)) kx kr (f+1)) kx kr (mk .bot 171 [(2,.ref 0 0 0),(3,.fn (.func 23) [.ref 1 0 0]),(4,.ref 2 0 0),(5,aint pub),(6,aint sec),(7,aint 0)]) [.cells [zi,zi,zi,zi,zi,zi,zi,zn,zn,zn] 0 false,.cells [.d (rowD l)] 0 false,.cells [aint W,aint wn,aint 6,aint r0,aint r1,aint r2,aint r3,zn,zn,zn] 0 false]=
  B12_w6_Make (inn E 7) (evC E fn (dp+1)) (loopK 12 B12_w6_Make (inn E 7) (evC E fn (dp+1)) kx kr f) kx kr (mk .bot 171 [(2,.ref 0 0 0),(3,.fn (.func 23) [.ref 1 0 0]),(4,.ref 2 0 0),(5,aint (Md.regStep W pub sec r).2.1),(6,aint (Md.regStep W pub sec r).2.2),(7,aint 1)]) [.cells [zi,zi,zi,zi,zi,zi,zi,zn,zn,zn] 0 false,.cells [.d (rowD l)] 0 false,.cells [aint W,aint wn,aint 6,aint (Md.regStep W pub sec r).1,aint r1,aint r2,aint r3,zn,zn,zn] 0 false]:=by
 have w1:∀ z:Int,0<=z->z<100->IntKind.i64.wrap z=z:=fun z h1 h2=>wrap_i64 (by omega) (by omega)
 have w2:∀ z:Int,0<=z->z<100->IntKind.u64.wrap z=z:=fun z h1 h2=>wrap_u64 (by omega) (by omega)
 have r4':∀ {α:Type} (l:List α),rep l 4=l++(l++(l++l)):=fun l=>by simp[rep]
 generalize hK:loopK 12 B12_w6_Make _ _ kx kr (f+1)=KK
 first | (conv=>lhs;rw[B12_w6_Make]) | rw[B12_w6_Make]
 by_cases c1:r=1
 ·by_cases c2 : IntKind.i64.wrap (pub + W) <= 2
  ·simp only [eG, go_sem, thq S, nbr S, zN0, zN1, zN2, zN3, zN4, zI0, zI1, zI2, zI3, reduceCtorEq, of_7_Mk3 S, deep_ref, dRef_some, o_callVf, w1, w2, r4', c_w6_Make_1 S, sh0, sf0, sf2, sf4, sf6, b_iand, ix4r, Int.reduceMul, Int.reduceAdd, Int.toNat_zero, Int.reduceToNat, zI1, zI2, Int.cast_ofNat_Int, false_and, Md.regStep, Md.w64', and_true, true_and, and_self, hr, c1, c2]
   rw[<-hK,loop_in (on S _ _ [2,3,4,5,6,7] (by decide) rfl) rfl _ _ _ _ _ _ _ _ _ rfl]
   simp only[eG,go_sem,thq S,nbr S,zN0,zN1,zN2,zN3,zN4,zI0,zI1,zI2,zI3,reduceCtorEq,of_7_Mk3 S]
  ·simp only [eG, go_sem, thq S, nbr S, zN0, zN1, zN2, zN3, zN4, zI0, zI1, zI2, zI3, reduceCtorEq, of_7_Mk3 S, deep_ref, dRef_some, o_callVf, w1, w2, r4', c_w6_Make_1 S, sh0, sf0, sf2, sf4, sf6, b_iand, ix4r, Int.reduceMul, Int.reduceAdd, Int.toNat_zero, Int.reduceToNat, zI1, zI2, Int.cast_ofNat_Int, false_and, Md.regStep, Md.w64', and_true, true_and, and_self, hr, c1, c2]
   rw[<-hK,loop_in (on S _ _ [2,3,4,5,6,7] (by decide) rfl) rfl _ _ _ _ _ _ _ _ _ rfl]
   simp only[eG,go_sem,thq S,nbr S,zN0,zN1,zN2,zN3,zN4,zI0,zI1,zI2,zI3,reduceCtorEq,of_7_Mk3 S]
 ·by_cases c3 : r = 2
  ·by_cases c4 : IntKind.i64.wrap (sec + W) <= 2
   ·simp only [eG, go_sem, thq S, nbr S, zN0, zN1, zN2, zN3, zN4, zI0, zI1, zI2, zI3, reduceCtorEq, of_7_Mk3 S, deep_ref, dRef_some, o_callVf, w1, w2, r4', c_w6_Make_1 S, sh0, sf0, sf2, sf4, sf6, b_iand, ix4r, Int.reduceMul, Int.reduceAdd, Int.toNat_zero, Int.reduceToNat, zI1, zI2, Int.cast_ofNat_Int, false_and, Md.regStep, Md.w64', and_true, true_and, and_self, hr, c1, c3, c4]
    rw[<-hK,loop_in (on S _ _ [2,3,4,5,6,7] (by decide) rfl) rfl _ _ _ _ _ _ _ _ _ rfl]
    simp only[eG,go_sem,thq S,nbr S,zN0,zN1,zN2,zN3,zN4,zI0,zI1,zI2,zI3,reduceCtorEq,of_7_Mk3 S]
   ·simp only [eG, go_sem, thq S, nbr S, zN0, zN1, zN2, zN3, zN4, zI0, zI1, zI2, zI3, reduceCtorEq, of_7_Mk3 S, deep_ref, dRef_some, o_callVf, w1, w2, r4', c_w6_Make_1 S, sh0, sf0, sf2, sf4, sf6, b_iand, ix4r, Int.reduceMul, Int.reduceAdd, Int.toNat_zero, Int.reduceToNat, zI1, zI2, Int.cast_ofNat_Int, false_and, Md.regStep, Md.w64', and_true, true_and, and_self, hr, c1, c3, c4]
    rw[<-hK,loop_in (on S _ _ [2,3,4,5,6,7] (by decide) rfl) rfl _ _ _ _ _ _ _ _ _ rfl]
    simp only[eG,go_sem,thq S,nbr S,zN0,zN1,zN2,zN3,zN4,zI0,zI1,zI2,zI3,reduceCtorEq,of_7_Mk3 S]
  ·simp only [eG, go_sem, thq S, nbr S, zN0, zN1, zN2, zN3, zN4, zI0, zI1, zI2, zI3, reduceCtorEq, of_7_Mk3 S, deep_ref, dRef_some, o_callVf, w1, w2, r4', c_w6_Make_1 S, sh0, sf0, sf2, sf4, sf6, b_iand, ix4r, Int.reduceMul, Int.reduceAdd, Int.toNat_zero, Int.reduceToNat, zI1, zI2, Int.cast_ofNat_Int, false_and, Md.regStep, Md.w64', and_true, true_and, and_self, hr, c1, c3]
   rw[<-hK,loop_in (on S _ _ [2,3,4,5,6,7] (by decide) rfl) rfl _ _ _ _ _ _ _ _ _ rfl]
   simp only[eG,go_sem,thq S,nbr S,zN0,zN1,zN2,zN3,zN4,zI0,zI1,zI2,zI3,reduceCtorEq,of_7_Mk3 S]
theorem st12_1 (dp:Nat)(l:List Int)(kx:Nat->K)(kr:K)(f:Nat)(W wn pub sec r0 r1 r2 r3 r:Int)(hr:Md.r4.getD (Md.iand (Md.shi (Md.kM l 1) 2) 3).toNat 0=r):
  B12_w6_Make (inn E 7) (evC E fn (dp+1)) (loopK 12 B12_w6_Make (inn E 7) (evC E fn (dp+1)) kx kr (f+1)) kx kr (mk .bot 171 [(2,.ref 0 0 0),(3,.fn (.func 23) [.ref 1 0 0]),(4,.ref 2 0 0),(5,aint pub),(6,aint sec),(7,aint 1)]) [.cells [zi,zi,zi,zi,zi,zi,zi,zn,zn,zn] 0 false,.cells [.d (rowD l)] 0 false,.cells [aint W,aint wn,aint 6,aint r0,aint r1,aint r2,aint r3,zn,zn,zn] 0 false]=
  B12_w6_Make (inn E 7) (evC E fn (dp+1)) (loopK 12 B12_w6_Make (inn E 7) (evC E fn (dp+1)) kx kr f) kx kr (mk .bot 171 [(2,.ref 0 0 0),(3,.fn (.func 23) [.ref 1 0 0]),(4,.ref 2 0 0),(5,aint (Md.regStep W pub sec r).2.1),(6,aint (Md.regStep W pub sec r).2.2),(7,aint 2)]) [.cells [zi,zi,zi,zi,zi,zi,zi,zn,zn,zn] 0 false,.cells [.d (rowD l)] 0 false,.cells [aint W,aint wn,aint 6,aint r0,aint (Md.regStep W pub sec r).1,aint r2,aint r3,zn,zn,zn] 0 false]:=by
 have w1:∀ z:Int,0<=z->z<100->IntKind.i64.wrap z=z:=fun z h1 h2=>wrap_i64 (by omega) (by omega)
 have w2:∀ z:Int,0<=z->z<100->IntKind.u64.wrap z=z:=fun z h1 h2=>wrap_u64 (by omega) (by omega)
 have r4':∀ {α:Type} (l:List α),rep l 4=l++(l++(l++l)):=fun l=>by simp[rep]
 generalize hK:loopK 12 B12_w6_Make _ _ kx kr (f+1)=KK
 first | (conv=>lhs;rw[B12_w6_Make]) | rw[B12_w6_Make]
 by_cases c1:r=1
 ·by_cases c2 : IntKind.i64.wrap (pub + W) <= 2
  ·simp only [eG, go_sem, thq S, nbr S, zN0, zN1, zN2, zN3, zN4, zI0, zI1, zI2, zI3, reduceCtorEq, of_7_Mk3 S, deep_ref, dRef_some, o_callVf, w1, w2, r4', c_w6_Make_1 S, sh0, sf0, sf2, sf4, sf6, b_iand, ix4r, Int.reduceMul, Int.reduceAdd, Int.toNat_zero, Int.reduceToNat, zI1, zI2, Int.cast_ofNat_Int, false_and, Md.regStep, Md.w64', and_true, true_and, and_self, hr, c1, c2]
   rw[<-hK,loop_in (on S _ _ [2,3,4,5,6,7] (by decide) rfl) rfl _ _ _ _ _ _ _ _ _ rfl]
   simp only[eG,go_sem,thq S,nbr S,zN0,zN1,zN2,zN3,zN4,zI0,zI1,zI2,zI3,reduceCtorEq,of_7_Mk3 S]
  ·simp only [eG, go_sem, thq S, nbr S, zN0, zN1, zN2, zN3, zN4, zI0, zI1, zI2, zI3, reduceCtorEq, of_7_Mk3 S, deep_ref, dRef_some, o_callVf, w1, w2, r4', c_w6_Make_1 S, sh0, sf0, sf2, sf4, sf6, b_iand, ix4r, Int.reduceMul, Int.reduceAdd, Int.toNat_zero, Int.reduceToNat, zI1, zI2, Int.cast_ofNat_Int, false_and, Md.regStep, Md.w64', and_true, true_and, and_self, hr, c1, c2]
   rw[<-hK,loop_in (on S _ _ [2,3,4,5,6,7] (by decide) rfl) rfl _ _ _ _ _ _ _ _ _ rfl]
   simp only[eG,go_sem,thq S,nbr S,zN0,zN1,zN2,zN3,zN4,zI0,zI1,zI2,zI3,reduceCtorEq,of_7_Mk3 S]
 ·by_cases c3 : r = 2
  ·by_cases c4 : IntKind.i64.wrap (sec + W) <= 2
   ·simp only [eG, go_sem, thq S, nbr S, zN0, zN1, zN2, zN3, zN4, zI0, zI1, zI2, zI3, reduceCtorEq, of_7_Mk3 S, deep_ref, dRef_some, o_callVf, w1, w2, r4', c_w6_Make_1 S, sh0, sf0, sf2, sf4, sf6, b_iand, ix4r, Int.reduceMul, Int.reduceAdd, Int.toNat_zero, Int.reduceToNat, zI1, zI2, Int.cast_ofNat_Int, false_and, Md.regStep, Md.w64', and_true, true_and, and_self, hr, c1, c3, c4]
    rw[<-hK,loop_in (on S _ _ [2,3,4,5,6,7] (by decide) rfl) rfl _ _ _ _ _ _ _ _ _ rfl]
    simp only[eG,go_sem,thq S,nbr S,zN0,zN1,zN2,zN3,zN4,zI0,zI1,zI2,zI3,reduceCtorEq,of_7_Mk3 S]
   ·simp only [eG, go_sem, thq S, nbr S, zN0, zN1, zN2, zN3, zN4, zI0, zI1, zI2, zI3, reduceCtorEq, of_7_Mk3 S, deep_ref, dRef_some, o_callVf, w1, w2, r4', c_w6_Make_1 S, sh0, sf0, sf2, sf4, sf6, b_iand, ix4r, Int.reduceMul, Int.reduceAdd, Int.toNat_zero, Int.reduceToNat, zI1, zI2, Int.cast_ofNat_Int, false_and, Md.regStep, Md.w64', and_true, true_and, and_self, hr, c1, c3, c4]
    rw[<-hK,loop_in (on S _ _ [2,3,4,5,6,7] (by decide) rfl) rfl _ _ _ _ _ _ _ _ _ rfl]
    simp only[eG,go_sem,thq S,nbr S,zN0,zN1,zN2,zN3,zN4,zI0,zI1,zI2,zI3,reduceCtorEq,of_7_Mk3 S]
  ·simp only [eG, go_sem, thq S, nbr S, zN0, zN1, zN2, zN3, zN4, zI0, zI1, zI2, zI3, reduceCtorEq, of_7_Mk3 S, deep_ref, dRef_some, o_callVf, w1, w2, r4', c_w6_Make_1 S, sh0, sf0, sf2, sf4, sf6, b_iand, ix4r, Int.reduceMul, Int.reduceAdd, Int.toNat_zero, Int.reduceToNat, zI1, zI2, Int.cast_ofNat_Int, false_and, Md.regStep, Md.w64', and_true, true_and, and_self, hr, c1, c3]
   rw[<-hK,loop_in (on S _ _ [2,3,4,5,6,7] (by decide) rfl) rfl _ _ _ _ _ _ _ _ _ rfl]
   simp only[eG,go_sem,thq S,nbr S,zN0,zN1,zN2,zN3,zN4,zI0,zI1,zI2,zI3,reduceCtorEq,of_7_Mk3 S]
theorem st12_2 (dp:Nat)(l:List Int)(kx:Nat->K)(kr:K)(f:Nat)(W wn pub sec r0 r1 r2 r3 r:Int)(hr:Md.r4.getD (Md.iand (Md.shi (Md.kM l 1) 4) 3).toNat 0=r):
  B12_w6_Make (inn E 7) (evC E fn (dp+1)) (loopK 12 B12_w6_Make (inn E 7) (evC E fn (dp+1)) kx kr (f+1)) kx kr (mk .bot 171 [(2,.ref 0 0 0),(3,.fn (.func 23) [.ref 1 0 0]),(4,.ref 2 0 0),(5,aint pub),(6,aint sec),(7,aint 2)]) [.cells [zi,zi,zi,zi,zi,zi,zi,zn,zn,zn] 0 false,.cells [.d (rowD l)] 0 false,.cells [aint W,aint wn,aint 6,aint r0,aint r1,aint r2,aint r3,zn,zn,zn] 0 false]=
  B12_w6_Make (inn E 7) (evC E fn (dp+1)) (loopK 12 B12_w6_Make (inn E 7) (evC E fn (dp+1)) kx kr f) kx kr (mk .bot 171 [(2,.ref 0 0 0),(3,.fn (.func 23) [.ref 1 0 0]),(4,.ref 2 0 0),(5,aint (Md.regStep W pub sec r).2.1),(6,aint (Md.regStep W pub sec r).2.2),(7,aint 3)]) [.cells [zi,zi,zi,zi,zi,zi,zi,zn,zn,zn] 0 false,.cells [.d (rowD l)] 0 false,.cells [aint W,aint wn,aint 6,aint r0,aint r1,aint (Md.regStep W pub sec r).1,aint r3,zn,zn,zn] 0 false]:=by
 have w1:∀ z:Int,0<=z->z<100->IntKind.i64.wrap z=z:=fun z h1 h2=>wrap_i64 (by omega) (by omega)
 have w2:∀ z:Int,0<=z->z<100->IntKind.u64.wrap z=z:=fun z h1 h2=>wrap_u64 (by omega) (by omega)
 have r4':∀ {α:Type} (l:List α),rep l 4=l++(l++(l++l)):=fun l=>by simp[rep]
 generalize hK:loopK 12 B12_w6_Make _ _ kx kr (f+1)=KK
 first | (conv=>lhs;rw[B12_w6_Make]) | rw[B12_w6_Make]
 by_cases c1:r=1
 ·by_cases c2 : IntKind.i64.wrap (pub + W) <= 2
  ·simp only [eG, go_sem, thq S, nbr S, zN0, zN1, zN2, zN3, zN4, zI0, zI1, zI2, zI3, reduceCtorEq, of_7_Mk3 S, deep_ref, dRef_some, o_callVf, w1, w2, r4', c_w6_Make_1 S, sh0, sf0, sf2, sf4, sf6, b_iand, ix4r, Int.reduceMul, Int.reduceAdd, Int.toNat_zero, Int.reduceToNat, zI1, zI2, Int.cast_ofNat_Int, false_and, Md.regStep, Md.w64', and_true, true_and, and_self, hr, c1, c2]
   rw[<-hK,loop_in (on S _ _ [2,3,4,5,6,7] (by decide) rfl) rfl _ _ _ _ _ _ _ _ _ rfl]
   simp only[eG,go_sem,thq S,nbr S,zN0,zN1,zN2,zN3,zN4,zI0,zI1,zI2,zI3,reduceCtorEq,of_7_Mk3 S]
  ·simp only [eG, go_sem, thq S, nbr S, zN0, zN1, zN2, zN3, zN4, zI0, zI1, zI2, zI3, reduceCtorEq, of_7_Mk3 S, deep_ref, dRef_some, o_callVf, w1, w2, r4', c_w6_Make_1 S, sh0, sf0, sf2, sf4, sf6, b_iand, ix4r, Int.reduceMul, Int.reduceAdd, Int.toNat_zero, Int.reduceToNat, zI1, zI2, Int.cast_ofNat_Int, false_and, Md.regStep, Md.w64', and_true, true_and, and_self, hr, c1, c2]
   rw[<-hK,loop_in (on S _ _ [2,3,4,5,6,7] (by decide) rfl) rfl _ _ _ _ _ _ _ _ _ rfl]
   simp only[eG,go_sem,thq S,nbr S,zN0,zN1,zN2,zN3,zN4,zI0,zI1,zI2,zI3,reduceCtorEq,of_7_Mk3 S]
 ·by_cases c3 : r = 2
  ·by_cases c4 : IntKind.i64.wrap (sec + W) <= 2
   ·simp only [eG, go_sem, thq S, nbr S, zN0, zN1, zN2, zN3, zN4, zI0, zI1, zI2, zI3, reduceCtorEq, of_7_Mk3 S, deep_ref, dRef_some, o_callVf, w1, w2, r4', c_w6_Make_1 S, sh0, sf0, sf2, sf4, sf6, b_iand, ix4r, Int.reduceMul, Int.reduceAdd, Int.toNat_zero, Int.reduceToNat, zI1, zI2, Int.cast_ofNat_Int, false_and, Md.regStep, Md.w64', and_true, true_and, and_self, hr, c1, c3, c4]
    rw[<-hK,loop_in (on S _ _ [2,3,4,5,6,7] (by decide) rfl) rfl _ _ _ _ _ _ _ _ _ rfl]
    simp only[eG,go_sem,thq S,nbr S,zN0,zN1,zN2,zN3,zN4,zI0,zI1,zI2,zI3,reduceCtorEq,of_7_Mk3 S]
   ·simp only [eG, go_sem, thq S, nbr S, zN0, zN1, zN2, zN3, zN4, zI0, zI1, zI2, zI3, reduceCtorEq, of_7_Mk3 S, deep_ref, dRef_some, o_callVf, w1, w2, r4', c_w6_Make_1 S, sh0, sf0, sf2, sf4, sf6, b_iand, ix4r, Int.reduceMul, Int.reduceAdd, Int.toNat_zero, Int.reduceToNat, zI1, zI2, Int.cast_ofNat_Int, false_and, Md.regStep, Md.w64', and_true, true_and, and_self, hr, c1, c3, c4]
    rw[<-hK,loop_in (on S _ _ [2,3,4,5,6,7] (by decide) rfl) rfl _ _ _ _ _ _ _ _ _ rfl]
    simp only[eG,go_sem,thq S,nbr S,zN0,zN1,zN2,zN3,zN4,zI0,zI1,zI2,zI3,reduceCtorEq,of_7_Mk3 S]
  ·simp only [eG, go_sem, thq S, nbr S, zN0, zN1, zN2, zN3, zN4, zI0, zI1, zI2, zI3, reduceCtorEq, of_7_Mk3 S, deep_ref, dRef_some, o_callVf, w1, w2, r4', c_w6_Make_1 S, sh0, sf0, sf2, sf4, sf6, b_iand, ix4r, Int.reduceMul, Int.reduceAdd, Int.toNat_zero, Int.reduceToNat, zI1, zI2, Int.cast_ofNat_Int, false_and, Md.regStep, Md.w64', and_true, true_and, and_self, hr, c1, c3]
   rw[<-hK,loop_in (on S _ _ [2,3,4,5,6,7] (by decide) rfl) rfl _ _ _ _ _ _ _ _ _ rfl]
   simp only[eG,go_sem,thq S,nbr S,zN0,zN1,zN2,zN3,zN4,zI0,zI1,zI2,zI3,reduceCtorEq,of_7_Mk3 S]
theorem st12_3 (dp:Nat)(l:List Int)(kx:Nat->K)(kr:K)(f:Nat)(W wn pub sec r0 r1 r2 r3 r:Int)(hr:Md.r4.getD (Md.iand (Md.shi (Md.kM l 1) 6) 3).toNat 0=r):
  B12_w6_Make (inn E 7) (evC E fn (dp+1)) (loopK 12 B12_w6_Make (inn E 7) (evC E fn (dp+1)) kx kr (f+1)) kx kr (mk .bot 171 [(2,.ref 0 0 0),(3,.fn (.func 23) [.ref 1 0 0]),(4,.ref 2 0 0),(5,aint pub),(6,aint sec),(7,aint 3)]) [.cells [zi,zi,zi,zi,zi,zi,zi,zn,zn,zn] 0 false,.cells [.d (rowD l)] 0 false,.cells [aint W,aint wn,aint 6,aint r0,aint r1,aint r2,aint r3,zn,zn,zn] 0 false]=
  B12_w6_Make (inn E 7) (evC E fn (dp+1)) (loopK 12 B12_w6_Make (inn E 7) (evC E fn (dp+1)) kx kr f) kx kr (mk .bot 171 [(2,.ref 0 0 0),(3,.fn (.func 23) [.ref 1 0 0]),(4,.ref 2 0 0),(5,aint (Md.regStep W pub sec r).2.1),(6,aint (Md.regStep W pub sec r).2.2),(7,aint 4)]) [.cells [zi,zi,zi,zi,zi,zi,zi,zn,zn,zn] 0 false,.cells [.d (rowD l)] 0 false,.cells [aint W,aint wn,aint 6,aint r0,aint r1,aint r2,aint (Md.regStep W pub sec r).1,zn,zn,zn] 0 false]:=by
 have w1:∀ z:Int,0<=z->z<100->IntKind.i64.wrap z=z:=fun z h1 h2=>wrap_i64 (by omega) (by omega)
 have w2:∀ z:Int,0<=z->z<100->IntKind.u64.wrap z=z:=fun z h1 h2=>wrap_u64 (by omega) (by omega)
 have r4':∀ {α:Type} (l:List α),rep l 4=l++(l++(l++l)):=fun l=>by simp[rep]
 generalize hK:loopK 12 B12_w6_Make _ _ kx kr (f+1)=KK
 first | (conv=>lhs;rw[B12_w6_Make]) | rw[B12_w6_Make]
 by_cases c1:r=1
 ·by_cases c2 : IntKind.i64.wrap (pub + W) <= 2
  ·simp only [eG, go_sem, thq S, nbr S, zN0, zN1, zN2, zN3, zN4, zI0, zI1, zI2, zI3, reduceCtorEq, of_7_Mk3 S, deep_ref, dRef_some, o_callVf, w1, w2, r4', c_w6_Make_1 S, sh0, sf0, sf2, sf4, sf6, b_iand, ix4r, Int.reduceMul, Int.reduceAdd, Int.toNat_zero, Int.reduceToNat, zI1, zI2, Int.cast_ofNat_Int, false_and, Md.regStep, Md.w64', and_true, true_and, and_self, hr, c1, c2]
   rw[<-hK,loop_in (on S _ _ [2,3,4,5,6,7] (by decide) rfl) rfl _ _ _ _ _ _ _ _ _ rfl]
   simp only[eG,go_sem,thq S,nbr S,zN0,zN1,zN2,zN3,zN4,zI0,zI1,zI2,zI3,reduceCtorEq,of_7_Mk3 S]
  ·simp only [eG, go_sem, thq S, nbr S, zN0, zN1, zN2, zN3, zN4, zI0, zI1, zI2, zI3, reduceCtorEq, of_7_Mk3 S, deep_ref, dRef_some, o_callVf, w1, w2, r4', c_w6_Make_1 S, sh0, sf0, sf2, sf4, sf6, b_iand, ix4r, Int.reduceMul, Int.reduceAdd, Int.toNat_zero, Int.reduceToNat, zI1, zI2, Int.cast_ofNat_Int, false_and, Md.regStep, Md.w64', and_true, true_and, and_self, hr, c1, c2]
   rw[<-hK,loop_in (on S _ _ [2,3,4,5,6,7] (by decide) rfl) rfl _ _ _ _ _ _ _ _ _ rfl]
   simp only[eG,go_sem,thq S,nbr S,zN0,zN1,zN2,zN3,zN4,zI0,zI1,zI2,zI3,reduceCtorEq,of_7_Mk3 S]
 ·by_cases c3 : r = 2
  ·by_cases c4 : IntKind.i64.wrap (sec + W) <= 2
   ·simp only [eG, go_sem, thq S, nbr S, zN0, zN1, zN2, zN3, zN4, zI0, zI1, zI2, zI3, reduceCtorEq, of_7_Mk3 S, deep_ref, dRef_some, o_callVf, w1, w2, r4', c_w6_Make_1 S, sh0, sf0, sf2, sf4, sf6, b_iand, ix4r, Int.reduceMul, Int.reduceAdd, Int.toNat_zero, Int.reduceToNat, zI1, zI2, Int.cast_ofNat_Int, false_and, Md.regStep, Md.w64', and_true, true_and, and_self, hr, c1, c3, c4]
    rw[<-hK,loop_in (on S _ _ [2,3,4,5,6,7] (by decide) rfl) rfl _ _ _ _ _ _ _ _ _ rfl]
    simp only[eG,go_sem,thq S,nbr S,zN0,zN1,zN2,zN3,zN4,zI0,zI1,zI2,zI3,reduceCtorEq,of_7_Mk3 S]
   ·simp only [eG, go_sem, thq S, nbr S, zN0, zN1, zN2, zN3, zN4, zI0, zI1, zI2, zI3, reduceCtorEq, of_7_Mk3 S, deep_ref, dRef_some, o_callVf, w1, w2, r4', c_w6_Make_1 S, sh0, sf0, sf2, sf4, sf6, b_iand, ix4r, Int.reduceMul, Int.reduceAdd, Int.toNat_zero, Int.reduceToNat, zI1, zI2, Int.cast_ofNat_Int, false_and, Md.regStep, Md.w64', and_true, true_and, and_self, hr, c1, c3, c4]
    rw[<-hK,loop_in (on S _ _ [2,3,4,5,6,7] (by decide) rfl) rfl _ _ _ _ _ _ _ _ _ rfl]
    simp only[eG,go_sem,thq S,nbr S,zN0,zN1,zN2,zN3,zN4,zI0,zI1,zI2,zI3,reduceCtorEq,of_7_Mk3 S]
  ·simp only [eG, go_sem, thq S, nbr S, zN0, zN1, zN2, zN3, zN4, zI0, zI1, zI2, zI3, reduceCtorEq, of_7_Mk3 S, deep_ref, dRef_some, o_callVf, w1, w2, r4', c_w6_Make_1 S, sh0, sf0, sf2, sf4, sf6, b_iand, ix4r, Int.reduceMul, Int.reduceAdd, Int.toNat_zero, Int.reduceToNat, zI1, zI2, Int.cast_ofNat_Int, false_and, Md.regStep, Md.w64', and_true, true_and, and_self, hr, c1, c3]
   rw[<-hK,loop_in (on S _ _ [2,3,4,5,6,7] (by decide) rfl) rfl _ _ _ _ _ _ _ _ _ rfl]
   simp only[eG,go_sem,thq S,nbr S,zN0,zN1,zN2,zN3,zN4,zI0,zI1,zI2,zI3,reduceCtorEq,of_7_Mk3 S]
theorem loop12 (dp:Nat)(l:List Int)(kx:Nat->K)(kr:K)(f:Nat)(hf:4<=f)(W wn:Int):
  B12_w6_Make (inn E 7) (evC E fn (dp+1)) (loopK 12 B12_w6_Make (inn E 7) (evC E fn (dp+1)) kx kr f) kx kr (mk .bot 171 [(2,.ref 0 0 0),(3,.fn (.func 23) [.ref 1 0 0]),(4,.ref 2 0 0),(5,aint 0),(6,aint 0),(7,aint 0)]) [.cells [zi,zi,zi,zi,zi,zi,zi,zn,zn,zn] 0 false,.cells [.d (rowD l)] 0 false,.cells [aint W,aint wn,aint 6,aint 0,aint 0,aint 0,aint 0,zn,zn,zn] 0 false]=
  kx 0 (mk .bot 171 ((24,abool false)::(23,aint 4)::[(2,.ref 0 0 0),(3,.fn (.func 23) [.ref 1 0 0]),(4,.ref 2 0 0),(5,aint (Md.reg3 l W).2.1),(6,aint (Md.reg3 l W).2.2),(7,aint 4)])) [.cells [zi,zi,zi,zi,zi,zi,zi,zn,zn,zn] 0 false,.cells [.d (rowD l)] 0 false,.cells [aint W,aint wn,aint 6,aint (Md.reg0 l W).1,aint (Md.reg1 l W).1,aint (Md.reg2 l W).1,aint (Md.reg3 l W).1,zn,zn,zn] 0 false]:=by
 obtain⟨f,rfl⟩:∃ g,f=g+4:=⟨f-4,by omega⟩
 rw[st12_0 S dp l kx kr (f+3) W wn 0 0 0 0 0 0 _ rfl,st12_1 S dp l kx kr (f+2) W wn _ _ _ 0 0 0 _ rfl,st12_2 S dp l kx kr (f+1) W wn _ _ _ _ 0 0 _ rfl,st12_3 S dp l kx kr f W wn _ _ _ _ _ 0 _ rfl]
 generalize loopK 12 B12_w6_Make _ _ kx kr f=KK
 first | (conv=>lhs;rw[B12_w6_Make]) | rw[B12_w6_Make]
 simp only[eG,go_sem,thq S,nbr S,zN0,zN1,zN2,zN3,zN4,zI0,zI1,zI2,zI3,reduceCtorEq,of_7_Mk3 S]
 rfl
end
end Go.Aug.Mc
