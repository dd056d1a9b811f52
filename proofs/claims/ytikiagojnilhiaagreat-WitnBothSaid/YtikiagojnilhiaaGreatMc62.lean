import Derived.Test.YtikiagojnilhiaaGreatEvPc
import Derived.Test.YtikiagojnilhiaaGreatBo2
import Derived.Test.YtikiagojnilhiaaGreatMc41
namespace Go.Aug
open Go
set_option linter.unusedSimpArgs false
section
variable {α:Type} [Cl α] [Cl1 α]
theorem app_rows {A:List Blk}{s bytes j v:Nat}{out l2:List α}(hA:A[j]? =some (.cells ((rowC out).map .d) v false))(hs:s=Cl.n α)(hp:0<Cl.n α)(h0:l2.length≠0)(h1:(out.length+l2.length)*bytes<=limA)(h2:out.length+l2.length<=limA):
  evApp A s bytes (.sref j v 0 out.length s none) ((rowC l2).map .d) l2.length=some (.turn j (.cells ((rowC (out++l2)).map .d) (v+1) false) (.sref j (v+1) 0 (out.length+l2.length) s none)):=by
 subst hs
 have e:(rowC (out++l2)).map AV.d=(rowC out).map .d++(rowC l2).map .d:=by rw[rowC_app,List.map_append]
 obtain⟨m,hm⟩:∃ m,l2.length=m+1:=⟨l2.length-1,by omega⟩
 rw[evApp_sref,if_neg h0,if_neg (by rw[one_row];simp;exact⟨by omega,by omega⟩),hA,e]
 have hl:((rowC out).map AV.d).length=out.length*Cl.n α:=by rw[List.length_map,rowC_len]
 have hlt:¬0+(out.length+l2.length)*Cl.n α<=((rowC out).map AV.d).length:=by
  rw[hl,hm,Nat.add_mul,Nat.add_mul];omega
 simp only[ne_eq,not_true_eq_false,false_or]
 rw[if_neg (by omega),if_neg (by simp),if_neg hlt]
 exact if_pos ⟨trivial,hl.symm⟩
end
end Go.Aug
namespace Go.Aug
open Go
set_option linter.unusedSimpArgs false
section
variable {α:Type} [Cl α] [Cl1 α]
omit [Cl1 α] in
theorem dpG_len {l:List α}{s:Nat}(hs:s=Cl.n α)(n:Nat)(hn:n<=l.length):n*s<=((rowC l).map AV.d).length:=by
 subst hs
 rw[List.length_map,rowC_len];exact Nat.mul_le_mul_right _ hn
omit [Cl1 α] in
theorem dpG_take {l:List α}{s:Nat}(hs:s=Cl.n α)(A:List Blk)(m n:Nat):mapD (deep A (m+1)) (((rowC l).map AV.d).take (n*s))=some (rowC (l.take n),[]):=by
 subst hs
 rw[<-List.map_take,rowC_take,mapD_dd]
theorem app_copy {A:List Blk}{s bytes j v:Nat}{out l2:List α}(hA:A[j]? =some (.cells ((rowC out).map .d) v false))(hs:s=Cl.n α)(h0:l2.length≠0)(h1:(out.length+l2.length)*bytes<=limA)(h2:out.length+l2.length<=limA):
  evApp A s bytes (.sref j v 0 out.length s (some out.length)) ((rowC l2).map .d) l2.length=some (.fresh ((rowC (out++l2)).map .d) (out.length+l2.length)):=by
 subst hs
 have hl:((rowC out).map AV.d).length=out.length*Cl.n α:=by rw[List.length_map,rowC_len]
 rw[evApp_sref,if_neg h0,if_neg (by rw[one_row];simp;exact⟨by omega,by omega⟩),hA]
 simp only[ne_eq,not_true_eq_false,false_or]
 rw[if_neg (by omega),if_pos (by omega)]
 rw[List.drop_zero,List.take_of_length_le (by omega),rowC_app,List.map_append]
end
theorem app_cp1 {A:List Blk}{bytes j v:Nat}{l2:List Dir}(hA:A[j]? =some (.cells [AV.d (DV.v (Value.int IntKind.i64 4)),zi] v false))(h0:l2.length≠0)(h1:(1+l2.length)*bytes<=limA)(h2:1+l2.length<=limA):
  evApp A 2 bytes (.sref j v 0 1 2 (some 1)) ((rowC l2).map .d) l2.length=some (.fresh ((rowC ((⟨4,0⟩:Dir)::l2)).map .d) (1+l2.length)):=
 app_copy (out:=[(⟨4,0⟩:Dir)]) hA rfl h0 h1 h2
end Go.Aug
namespace Go.Aug.Mc
open Go Go.Aug
open Nat renaming reduceLT -> zN0, reduceEqDiff -> zN1, reduceAdd -> zN2, reduceMul -> zN3, reduceLeDiff -> zN4
open Int renaming reduceEq -> zI0, reduceLT -> zI1, reduceLE -> zI2, reduceNeg -> zI3
set_option linter.unusedSimpArgs false
set_option linter.unusedVariables false
set_option maxHeartbeats 40000000
set_option maxRecDepth 200000
variable {E:Env} {fn:FuncId->Option (Env->CallT->CallT)}
section
variable (S:Sur E fn)
include S
theorem o6_62:E.lives 6 7=none/\E.lives 6 23=none/\E.lives 6 27=none/\E.lives 6 33=none:=⟨off S 6 7 (by decide) rfl,off S 6 23 (by decide) rfl,off S 6 27 (by decide) rfl,off S 6 33 (by decide) rfl⟩
theorem c_dif (dp:Nat){p:Prog}(hp:Md.Fine p)(hml:p.mems.length<1000)(hN:cellsI p.mems<=1000){a b:State}(oa:SOk (cellsI p.mems) a)(ob:SOk (cellsI p.mems) b){l:List Dir}(hl:l.length<1073741824)(A:List Blk)(nb:Nat)(us:List Nat):
  evOwnK false E (evC E fn (dp+13)) 22 A nb (some ([progD p,stateD a,stateD b,rowD l],us))=some (.made (.d (.tup [vi (difM (cellsI p.mems) p l (Md.begin_ a) (Md.begin_ b) 0).1,vb (difM (cellsI p.mems) p l (Md.begin_ a) (Md.begin_ b) 0).2])) []):=
 Says.flat (raw_witn_Differs S dp p a b l hp hml hN (oa.inv hp) (ob.inv hp) hl) (np S 22 (by decide)) rfl A nb us
theorem raw_lawBoth (ha:E.prim 21=some trueG)(dp:Nat)(m l w:List Int)(how:Int)(ds:List Dir):evC E fn (dp+14) 6 [.d (rowD m),.d (rowD l),aint how,.d (rowD w),.d (rowD ds)] []=some (abool true,[]):=by
 have hp:=mk_fine m
 have hN:=mk_cells m
 have hml:=mk_ml m
 obtain⟨s,s',hS,o1,o2⟩:=says_StatesG S (dp+8) (Md.make m) (mk_ms m) hml l how
 obtain⟨c,way,hW,hI⟩:=says_WalkG S (dp+5) (Md.make m) hp _ hN s (o1.inv hp) w
 have hwl:=hI.len
 have cS:=fun(A:List Blk) (nb:Nat)=>Says.deep hS (np S 8 (by decide)) A nb
 have cW:=fun(A:List Blk) (nb:Nat)=>Says.deep hW (np S 9 (by decide)) A nb
 simp only[progD,progC,stateD,stateC,confD,confC] at cS cW
 have lim:limA=1099511627776:=rfl
 show evC E fn (dp+13+1) 6 [.d (rowD m),.d (rowD l),aint how,.d (rowD w),.d (rowD ds)] []=_
 rw[evC_succ,S.f_w22_WitnBoth,apF_some,F_w22_WitnBoth,mkF_run _ _ _ _ _ _ _ _ rfl]
 by_cases hbig:(60:Int)<ds.length
 ·simp only[eG,go_sem,thq S,nbr S,zN0,zN1,zN2,zN3,zN4,zI0,zI1,zI2,zI3,reduceCtorEq,o6_62 S,gt_iff_lt,hbig,c_told ha]
 have hd60:ds.length<=60:=by omega
 have dab:=fun(r:List Dir) (hr:r.length<1073741824) (A:List Blk) (nb:Nat) (us:List Nat)=>c_dif S dp hp hml hN o1 o2 hr A nb us
 have dba:=fun(r:List Dir) (hr:r.length<1073741824) (A:List Blk) (nb:Nat) (us:List Nat)=>c_dif S dp hp hml hN o2 o1 hr A nb us
 have daa:=fun(r:List Dir) (hr:r.length<1073741824) (A:List Blk) (nb:Nat) (us:List Nat)=>c_dif S dp hp hml hN o1 o1 hr A nb us
 simp only[difM_symm _ _ _ (Md.begin_ s') (Md.begin_ s)] at dba
 simp only[difM_self] at daa
 generalize hF:(fun r=>difM (cellsI (Md.make m).mems) (Md.make m) r (Md.begin_ s) (Md.begin_ s') 0)=F
 have hFr:∀ r,difM (cellsI (Md.make m).mems) (Md.make m) r (Md.begin_ s) (Md.begin_ s') 0=F r:=fun r=>by rw[<-hF]
 have hnone:∀ r,F (⟨4,0⟩::r)=(0,false):=fun r=>by rw[<-hFr];exact difM_none _ _ _ _ _ _
 have hnil:F []=(0,false):=by rw[<-hFr];rfl
 have hhit:∀ r,(F r).2=true->∃ j:Nat,j<r.length/\F r=((j:Int),true)/\F (r.take (j+1))=((j:Int),true)/\(F (r.take j)).2=false:=fun r h=>by
  rw[<-hFr] at h
  obtain⟨j,h1,h2,h3,h4⟩:=difM_hit _ _ _ _ _ _ h
  rw[Nat.zero_add] at h2 h3
  exact⟨j,h1,by rw[<-hFr];exact h2,by rw[<-hFr];exact h3,by rw[<-hFr];exact h4⟩
 simp only[hFr] at dab dba
 clear hF hFr
 simp only[progD,progC,stateD,stateC] at dab dba daa
 have n1:way.length*16<=limA:=by omega
 have n2:way.length<=limA:=by omega
 have n3:ds.length*16<=limA:=by omega
 have n4:ds.length<=limA:=by omega
 have n5:(way.length+ds.length)*16<=limA:=by omega
 have n6:way.length+ds.length<=limA:=by omega
 have foldD:∀(r:List Dir),DV.lst (rowC r) r.length none=rowD r:=fun _=>rfl
 have h60:¬(60:Int)<((0:Nat):Int):=by decide
 have l16:(1:Nat)*16<=limA:=by decide
 have l1:(1:Nat)<=limA:=by decide
 by_cases w0:way.length=0<;>by_cases d0:ds.length=0
 ·have q1 := dab [] (by simp)
  have q2:=dba [] (by simp)
  have q3:=daa [] (by simp)
  have q4:=dab [⟨4,0⟩] (by simp)
  rw[hnil] at q1 q2
  rw[hnone] at q4
  simp only[w_rnil] at q1 q2 q3
  have e4:rowD [(⟨4,0⟩:Dir)]=.lst [vi 4,vi 0] 1 none:=rfl
  rw[e4] at q4
  simp only[eG,go_sem,thq S,nbr S,zN0,zN1,zN2,zN3,zN4,zI0,zI1,zI2,zI3,reduceCtorEq,o6_62 S,gt_iff_lt,hbig,c_w6_Make S,cS,cW,rep0',rep1',app_zero (cs:=[]),one_row,Bool.not_true,Bool.not_false,ne_eq,not_true_eq_false,not_false_eq_true,d_madeM,d_turnA,deep_sr,dpG_len (α:=Dir) (s:=2) rfl,dpG_take (α:=Dir) (s:=2) rfl,List.take_length,Nat.le_refl,Option.bind_some,Option.map_some,foldD,Nat.zero_add,Nat.zero_mul,Nat.sub_zero,Option.map_none,and_false,ne_eq,not_true_eq_false,not_false_eq_true,mapD_dd,w0,d0,h60,q1,q2,q3,q4,c_told ha]
 ·skip
  have hRl:ds.length<1073741824:=by omega
  have hR1:ds.length≠0:=by omega
  have hR4:(1+ds.length)*16<=limA:=by omega
  have hR5:1+ds.length<=limA:=by omega
  have q1:=dab ds hRl
  have q2:=dba ds hRl
  have q3:=daa ds hRl
  have q4:=dab (⟨4,0⟩::ds) (by rw[List.length_cons];omega)
  rw[hnone] at q4
  have hcons:∀ n,n=ds.length->DV.lst (rowC ((⟨4,0⟩:Dir)::ds)) (1+n) none=rowD (⟨4,0⟩::ds):=fun n hn=>by unfold rowD;rw[hn,List.length_cons,Nat.add_comm]
  have hlc:∀ n,n=ds.length->(1+n)*2<=((rowC ((⟨4,0⟩:Dir)::ds)).map AV.d).length:=fun n hn=>dpG_len (α:=Dir) (s:=2) rfl _ (by rw[hn,List.length_cons];omega)
  have htc:∀ n,n=ds.length->((⟨4,0⟩:Dir)::ds).take (1+n)=⟨4,0⟩::ds:=fun n hn=>List.take_of_length_le (by rw[hn,List.length_cons];omega)
  have hne1:¬(1+ds.length=0):=by omega
  have hall:∀ n,n=ds.length->((rowC ds).map AV.d).take (n*2)=(rowC ds).map AV.d:=fun n hn=>List.take_of_length_le (by rw[hn,List.length_map,rowC_len];exact Nat.le_refl _)
  cases hf:(F ds).2 with
  | false=>
   generalize hF0:F ds=f0 at q1 q2
   obtain⟨f1,f2⟩:=f0
   have hf:f2=false:=by rw[hF0] at hf;exact hf
   subst hf
   simp only[eG,go_sem,thq S,nbr S,zN0,zN1,zN2,zN3,zN4,zI0,zI1,zI2,zI3,reduceCtorEq,o6_62 S,gt_iff_lt,hbig,c_w6_Make S,cS,cW,rep0',rep1',app_zero (cs:=[]),one_row,Bool.not_true,Bool.not_false,ne_eq,not_true_eq_false,not_false_eq_true,d_madeM,d_turnA,deep_sr,dpG_len (α:=Dir) (s:=2) rfl,dpG_take (α:=Dir) (s:=2) rfl,List.take_length,Nat.le_refl,Option.bind_some,Option.map_some,foldD,Nat.zero_add,Nat.zero_mul,Nat.sub_zero,Option.map_none,and_false,ne_eq,not_true_eq_false,not_false_eq_true,mapD_dd,w0,d0,n3,n4,h60,q1,q2,q3,q4,c_told ha,app_cp1,hR1,hR4,hR5,hcons _ rfl,hlc _ rfl,htc _ rfl,hall _ rfl,hne1,bne_self_eq_false]
  | true=>
   obtain⟨j,j1,j2,j3,j4⟩:=hhit ds hf
   rw[j2] at q1 q2
   have p1:=dab (ds.take (j+1)) (by rw[List.length_take];omega)
   have p2:=dab (ds.take j) (by rw[List.length_take];omega)
   rw[j3] at p1
   generalize F (ds.take j)=f3 at p2 j4
   obtain⟨f3,f4⟩:=f3
   have j4:f4=false:=j4
   subst j4
   have hw:=wi j (by omega)
   have bd1:=bndsV_hi ds.length .i64 ((j+1:Nat):Int) (by omega) (by omega)
   have bd2:=bndsV_hi ds.length .i64 (j:Int) (by omega) (by omega)
   have jl1:j+1<=ds.length:=by omega
   have jl2:j<=ds.length:=by omega
   have ft1:DV.lst (rowC (ds.take (j+1))) (j+1) none=rowD (ds.take (j+1)):=by unfold rowD;rw[List.length_take,Nat.min_eq_left jl1]
   have ft2:DV.lst (rowC (ds.take j)) j none=rowD (ds.take j):=by unfold rowD;rw[List.length_take,Nat.min_eq_left jl2]
   by_cases hj:j=0
   ·have q5 := dab [] (by simp)
    rw[hnil] at q5
    simp only[w_rnil] at q5
    subst hj
    simp only[Int.cast_ofNat_Int,Nat.zero_add] at hw bd1 bd2 ft1 p1 q1 q2 jl1
    simp only[Int.reduceToNat] at bd1 bd2
    have hw1:IntKind.i64.wrap 1=1:=by decide
    have h2a:2<=((rowC ds).map AV.d).length:=dpG_len (α:=Dir) (s:=2) rfl 1 jl1
    have h2b:∀(A:List Blk) (m:Nat),mapD (deep A (m+1)) (((rowC ds).map AV.d).take 2)=some (rowC (ds.take 1),[]):=fun A m=>dpG_take (α:=Dir) (s:=2) rfl A m 1
    simp only[eG,go_sem,thq S,nbr S,zN0,zN1,zN2,zN3,zN4,zI0,zI1,zI2,zI3,reduceCtorEq,o6_62 S,gt_iff_lt,hbig,c_w6_Make S,cS,cW,rep0',rep1',app_zero (cs:=[]),one_row,Bool.not_true,Bool.not_false,ne_eq,not_true_eq_false,not_false_eq_true,d_madeM,d_turnA,deep_sr,dpG_len (α:=Dir) (s:=2) rfl,dpG_take (α:=Dir) (s:=2) rfl,List.take_length,Nat.le_refl,Option.bind_some,Option.map_some,foldD,Nat.zero_add,Nat.zero_mul,Nat.sub_zero,Option.map_none,and_false,ne_eq,not_true_eq_false,not_false_eq_true,mapD_dd,w0,d0,n3,n4,h60,q1,q2,q3,q4,q5,p1,c_told ha,app_cp1,hR1,hR4,hR5,hcons _ rfl,hlc _ rfl,htc _ rfl,hall _ rfl,hne1,bne_self_eq_false,hw,hw1,bd1,bd2,ft1,jl1,Int.reduceAdd,Nat.one_ne_zero,h2a,h2b]
   ·simp only[eG,go_sem,thq S,nbr S,zN0,zN1,zN2,zN3,zN4,zI0,zI1,zI2,zI3,reduceCtorEq,o6_62 S,gt_iff_lt,hbig,c_w6_Make S,cS,cW,rep0',rep1',app_zero (cs:=[]),one_row,Bool.not_true,Bool.not_false,ne_eq,not_true_eq_false,not_false_eq_true,d_madeM,d_turnA,deep_sr,dpG_len (α:=Dir) (s:=2) rfl,dpG_take (α:=Dir) (s:=2) rfl,List.take_length,Nat.le_refl,Option.bind_some,Option.map_some,foldD,Nat.zero_add,Nat.zero_mul,Nat.sub_zero,Option.map_none,and_false,ne_eq,not_true_eq_false,not_false_eq_true,mapD_dd,w0,d0,n3,n4,h60,q1,q2,q3,q4,p1,p2,c_told ha,app_cp1,hR1,hR4,hR5,hcons _ rfl,hlc _ rfl,htc _ rfl,hall _ rfl,hne1,bne_self_eq_false,hw,bd1,bd2,ft1,ft2,jl1,jl2,hj,Int.toNat_natCast,Nat.add_one_ne_zero]
 ·skip
  have hRl:way.length<1073741824:=by omega
  have hR1:way.length≠0:=by omega
  have hR4:(1+way.length)*16<=limA:=by omega
  have hR5:1+way.length<=limA:=by omega
  have q1:=dab way hRl
  have q2:=dba way hRl
  have q3:=daa way hRl
  have q4:=dab (⟨4,0⟩::way) (by rw[List.length_cons];omega)
  rw[hnone] at q4
  have hcons:∀ n,n=way.length->DV.lst (rowC ((⟨4,0⟩:Dir)::way)) (1+n) none=rowD (⟨4,0⟩::way):=fun n hn=>by unfold rowD;rw[hn,List.length_cons,Nat.add_comm]
  have hlc:∀ n,n=way.length->(1+n)*2<=((rowC ((⟨4,0⟩:Dir)::way)).map AV.d).length:=fun n hn=>dpG_len (α:=Dir) (s:=2) rfl _ (by rw[hn,List.length_cons];omega)
  have htc:∀ n,n=way.length->((⟨4,0⟩:Dir)::way).take (1+n)=⟨4,0⟩::way:=fun n hn=>List.take_of_length_le (by rw[hn,List.length_cons];omega)
  have hne1:¬(1+way.length=0):=by omega
  have hall:∀ n,n=way.length->((rowC way).map AV.d).take (n*2)=(rowC way).map AV.d:=fun n hn=>List.take_of_length_le (by rw[hn,List.length_map,rowC_len];exact Nat.le_refl _)
  cases hf:(F way).2 with
  | false=>
   generalize hF0:F way=f0 at q1 q2
   obtain⟨f1,f2⟩:=f0
   have hf:f2=false:=by rw[hF0] at hf;exact hf
   subst hf
   simp only[eG,go_sem,thq S,nbr S,zN0,zN1,zN2,zN3,zN4,zI0,zI1,zI2,zI3,reduceCtorEq,o6_62 S,gt_iff_lt,hbig,c_w6_Make S,cS,cW,rep0',rep1',app_zero (cs:=[]),one_row,Bool.not_true,Bool.not_false,ne_eq,not_true_eq_false,not_false_eq_true,d_madeM,d_turnA,deep_sr,dpG_len (α:=Dir) (s:=2) rfl,dpG_take (α:=Dir) (s:=2) rfl,List.take_length,Nat.le_refl,Option.bind_some,Option.map_some,foldD,Nat.zero_add,Nat.zero_mul,Nat.sub_zero,Option.map_none,and_false,ne_eq,not_true_eq_false,not_false_eq_true,mapD_dd,w0,d0,n1,n2,h60,q1,q2,q3,q4,c_told ha,app_cp1,hR1,hR4,hR5,hcons _ rfl,hlc _ rfl,htc _ rfl,hall _ rfl,hne1,bne_self_eq_false]
  | true=>
   obtain⟨j,j1,j2,j3,j4⟩:=hhit way hf
   rw[j2] at q1 q2
   have p1:=dab (way.take (j+1)) (by rw[List.length_take];omega)
   have p2:=dab (way.take j) (by rw[List.length_take];omega)
   rw[j3] at p1
   generalize F (way.take j)=f3 at p2 j4
   obtain⟨f3,f4⟩:=f3
   have j4:f4=false:=j4
   subst j4
   have hw:=wi j (by omega)
   have bd1:=bndsV_hi way.length .i64 ((j+1:Nat):Int) (by omega) (by omega)
   have bd2:=bndsV_hi way.length .i64 (j:Int) (by omega) (by omega)
   have jl1:j+1<=way.length:=by omega
   have jl2:j<=way.length:=by omega
   have ft1:DV.lst (rowC (way.take (j+1))) (j+1) none=rowD (way.take (j+1)):=by unfold rowD;rw[List.length_take,Nat.min_eq_left jl1]
   have ft2:DV.lst (rowC (way.take j)) j none=rowD (way.take j):=by unfold rowD;rw[List.length_take,Nat.min_eq_left jl2]
   by_cases hj:j=0
   ·have q5 := dab [] (by simp)
    rw[hnil] at q5
    simp only[w_rnil] at q5
    subst hj
    simp only[Int.cast_ofNat_Int,Nat.zero_add] at hw bd1 bd2 ft1 p1 q1 q2 jl1
    simp only[Int.reduceToNat] at bd1 bd2
    have hw1:IntKind.i64.wrap 1=1:=by decide
    have h2a:2<=((rowC way).map AV.d).length:=dpG_len (α:=Dir) (s:=2) rfl 1 jl1
    have h2b:∀(A:List Blk) (m:Nat),mapD (deep A (m+1)) (((rowC way).map AV.d).take 2)=some (rowC (way.take 1),[]):=fun A m=>dpG_take (α:=Dir) (s:=2) rfl A m 1
    simp only[eG,go_sem,thq S,nbr S,zN0,zN1,zN2,zN3,zN4,zI0,zI1,zI2,zI3,reduceCtorEq,o6_62 S,gt_iff_lt,hbig,c_w6_Make S,cS,cW,rep0',rep1',app_zero (cs:=[]),one_row,Bool.not_true,Bool.not_false,ne_eq,not_true_eq_false,not_false_eq_true,d_madeM,d_turnA,deep_sr,dpG_len (α:=Dir) (s:=2) rfl,dpG_take (α:=Dir) (s:=2) rfl,List.take_length,Nat.le_refl,Option.bind_some,Option.map_some,foldD,Nat.zero_add,Nat.zero_mul,Nat.sub_zero,Option.map_none,and_false,ne_eq,not_true_eq_false,not_false_eq_true,mapD_dd,w0,d0,n1,n2,h60,q1,q2,q3,q4,q5,p1,c_told ha,app_cp1,hR1,hR4,hR5,hcons _ rfl,hlc _ rfl,htc _ rfl,hall _ rfl,hne1,bne_self_eq_false,hw,hw1,bd1,bd2,ft1,jl1,Int.reduceAdd,Nat.one_ne_zero,h2a,h2b]
   ·simp only[eG,go_sem,thq S,nbr S,zN0,zN1,zN2,zN3,zN4,zI0,zI1,zI2,zI3,reduceCtorEq,o6_62 S,gt_iff_lt,hbig,c_w6_Make S,cS,cW,rep0',rep1',app_zero (cs:=[]),one_row,Bool.not_true,Bool.not_false,ne_eq,not_true_eq_false,not_false_eq_true,d_madeM,d_turnA,deep_sr,dpG_len (α:=Dir) (s:=2) rfl,dpG_take (α:=Dir) (s:=2) rfl,List.take_length,Nat.le_refl,Option.bind_some,Option.map_some,foldD,Nat.zero_add,Nat.zero_mul,Nat.sub_zero,Option.map_none,and_false,ne_eq,not_true_eq_false,not_false_eq_true,mapD_dd,w0,d0,n1,n2,h60,q1,q2,q3,q4,p1,p2,c_told ha,app_cp1,hR1,hR4,hR5,hcons _ rfl,hlc _ rfl,htc _ rfl,hall _ rfl,hne1,bne_self_eq_false,hw,bd1,bd2,ft1,ft2,jl1,jl2,hj,Int.toNat_natCast,Nat.add_one_ne_zero]
 ·have hsum : way.length + ds.length = (way ++ ds).length := List.length_append.symm
  have n5b:(way++ds).length*16<=limA:=by rw[List.length_append];exact n5
  have n6b:(way++ds).length<=limA:=by rw[List.length_append];exact n6
  have hRl:(way++ds).length<1073741824:=by(rw[List.length_append];omega)
  have hR1:(way++ds).length≠0:=by(rw[List.length_append];omega)
  have hR4:(1+(way++ds).length)*16<=limA:=by(rw[List.length_append];omega)
  have hR5:1+(way++ds).length<=limA:=by(rw[List.length_append];omega)
  have q1:=dab (way++ds) hRl
  have q2:=dba (way++ds) hRl
  have q3:=daa (way++ds) hRl
  have q4:=dab (⟨4,0⟩::(way++ds)) (by rw[List.length_cons];omega)
  rw[hnone] at q4
  have hcons:∀ n,n=(way++ds).length->DV.lst (rowC ((⟨4,0⟩:Dir)::(way++ds))) (1+n) none=rowD (⟨4,0⟩::(way++ds)):=fun n hn=>by unfold rowD;rw[hn,List.length_cons,Nat.add_comm]
  have hlc:∀ n,n=(way++ds).length->(1+n)*2<=((rowC ((⟨4,0⟩:Dir)::(way++ds))).map AV.d).length:=fun n hn=>dpG_len (α:=Dir) (s:=2) rfl _ (by rw[hn,List.length_cons];omega)
  have htc:∀ n,n=(way++ds).length->((⟨4,0⟩:Dir)::(way++ds)).take (1+n)=⟨4,0⟩::(way++ds):=fun n hn=>List.take_of_length_le (by rw[hn,List.length_cons];omega)
  have hne1:¬(1+(way++ds).length=0):=by omega
  have hall:∀ n,n=(way++ds).length->((rowC (way++ds)).map AV.d).take (n*2)=(rowC (way++ds)).map AV.d:=fun n hn=>List.take_of_length_le (by rw[hn,List.length_map,rowC_len];exact Nat.le_refl _)
  cases hf:(F (way++ds)).2 with
  | false=>
   generalize hF0:F (way++ds)=f0 at q1 q2
   obtain⟨f1,f2⟩:=f0
   have hf:f2=false:=by rw[hF0] at hf;exact hf
   subst hf
   simp only[eG,go_sem,thq S,nbr S,zN0,zN1,zN2,zN3,zN4,zI0,zI1,zI2,zI3,reduceCtorEq,o6_62 S,gt_iff_lt,hbig,c_w6_Make S,cS,cW,rep0',rep1',app_zero (cs:=[]),one_row,Bool.not_true,Bool.not_false,ne_eq,not_true_eq_false,not_false_eq_true,d_madeM,d_turnA,deep_sr,dpG_len (α:=Dir) (s:=2) rfl,dpG_take (α:=Dir) (s:=2) rfl,List.take_length,Nat.le_refl,Option.bind_some,Option.map_some,foldD,Nat.zero_add,Nat.zero_mul,Nat.sub_zero,Option.map_none,and_false,ne_eq,not_true_eq_false,not_false_eq_true,mapD_dd,w0,d0,n1,n2,n5b,n6b,hsum,app_rows,h60,q1,q2,q3,q4,c_told ha,app_cp1,hR1,hR4,hR5,hcons _ rfl,hlc _ rfl,htc _ rfl,hall _ rfl,hne1,bne_self_eq_false]
  | true=>
   obtain⟨j,j1,j2,j3,j4⟩:=hhit (way++ds) hf
   rw[j2] at q1 q2
   have p1:=dab ((way++ds).take (j+1)) (by rw[List.length_take];omega)
   have p2:=dab ((way++ds).take j) (by rw[List.length_take];omega)
   rw[j3] at p1
   generalize F ((way++ds).take j)=f3 at p2 j4
   obtain⟨f3,f4⟩:=f3
   have j4:f4=false:=j4
   subst j4
   have hw:=wi j (by omega)
   have bd1:=bndsV_hi (way++ds).length .i64 ((j+1:Nat):Int) (by omega) (by omega)
   have bd2:=bndsV_hi (way++ds).length .i64 (j:Int) (by omega) (by omega)
   have jl1:j+1<=(way++ds).length:=by omega
   have jl2:j<=(way++ds).length:=by omega
   have ft1:DV.lst (rowC ((way++ds).take (j+1))) (j+1) none=rowD ((way++ds).take (j+1)):=by unfold rowD;rw[List.length_take,Nat.min_eq_left jl1]
   have ft2:DV.lst (rowC ((way++ds).take j)) j none=rowD ((way++ds).take j):=by unfold rowD;rw[List.length_take,Nat.min_eq_left jl2]
   by_cases hj:j=0
   ·have q5 := dab [] (by simp)
    rw[hnil] at q5
    simp only[w_rnil] at q5
    subst hj
    simp only[Int.cast_ofNat_Int,Nat.zero_add] at hw bd1 bd2 ft1 p1 q1 q2 jl1
    simp only[Int.reduceToNat] at bd1 bd2
    have hw1:IntKind.i64.wrap 1=1:=by decide
    have h2a:2<=((rowC (way++ds)).map AV.d).length:=dpG_len (α:=Dir) (s:=2) rfl 1 jl1
    have h2b:∀(A:List Blk) (m:Nat),mapD (deep A (m+1)) (((rowC (way++ds)).map AV.d).take 2)=some (rowC ((way++ds).take 1),[]):=fun A m=>dpG_take (α:=Dir) (s:=2) rfl A m 1
    simp only[eG,go_sem,thq S,nbr S,zN0,zN1,zN2,zN3,zN4,zI0,zI1,zI2,zI3,reduceCtorEq,o6_62 S,gt_iff_lt,hbig,c_w6_Make S,cS,cW,rep0',rep1',app_zero (cs:=[]),one_row,Bool.not_true,Bool.not_false,ne_eq,not_true_eq_false,not_false_eq_true,d_madeM,d_turnA,deep_sr,dpG_len (α:=Dir) (s:=2) rfl,dpG_take (α:=Dir) (s:=2) rfl,List.take_length,Nat.le_refl,Option.bind_some,Option.map_some,foldD,Nat.zero_add,Nat.zero_mul,Nat.sub_zero,Option.map_none,and_false,ne_eq,not_true_eq_false,not_false_eq_true,mapD_dd,w0,d0,n1,n2,n5b,n6b,hsum,app_rows,h60,q1,q2,q3,q4,q5,p1,c_told ha,app_cp1,hR1,hR4,hR5,hcons _ rfl,hlc _ rfl,htc _ rfl,hall _ rfl,hne1,bne_self_eq_false,hw,hw1,bd1,bd2,ft1,jl1,Int.reduceAdd,Nat.one_ne_zero,h2a,h2b]
   ·simp only[eG,go_sem,thq S,nbr S,zN0,zN1,zN2,zN3,zN4,zI0,zI1,zI2,zI3,reduceCtorEq,o6_62 S,gt_iff_lt,hbig,c_w6_Make S,cS,cW,rep0',rep1',app_zero (cs:=[]),one_row,Bool.not_true,Bool.not_false,ne_eq,not_true_eq_false,not_false_eq_true,d_madeM,d_turnA,deep_sr,dpG_len (α:=Dir) (s:=2) rfl,dpG_take (α:=Dir) (s:=2) rfl,List.take_length,Nat.le_refl,Option.bind_some,Option.map_some,foldD,Nat.zero_add,Nat.zero_mul,Nat.sub_zero,Option.map_none,and_false,ne_eq,not_true_eq_false,not_false_eq_true,mapD_dd,w0,d0,n1,n2,n5b,n6b,hsum,app_rows,h60,q1,q2,q3,q4,p1,p2,c_told ha,app_cp1,hR1,hR4,hR5,hcons _ rfl,hlc _ rfl,htc _ rfl,hall _ rfl,hne1,bne_self_eq_false,hw,bd1,bd2,ft1,ft2,jl1,jl2,hj,Int.toNat_natCast,Nat.add_one_ne_zero]
end
end Go.Aug.Mc
