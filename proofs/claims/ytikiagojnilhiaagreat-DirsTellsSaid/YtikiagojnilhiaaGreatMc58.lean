import Derived.Test.YtikiagojnilhiaaGreatMc2
import Derived.Test.YtikiagojnilhiaaGreatMc60
import Derived.Test.YtikiagojnilhiaaGreatMc28
namespace Go.Aug.Mc
open Go Go.Aug
open Nat renaming reduceLT -> zN0, reduceEqDiff -> zN1, reduceAdd -> zN2, reduceMul -> zN3, reduceLeDiff -> zN4
open Int renaming reduceEq -> zI0, reduceLT -> zI1, reduceLE -> zI2, reduceNeg -> zI3
set_option linter.unusedSimpArgs false
set_option linter.unusedVariables false
set_option maxHeartbeats 40000000
def cmpI (a b:Int):Int:=if a<b then -1 else if b<a then 1 else 0
def orI:List Int->Int
 | []=>0
 | a::l=>if a=0 then orI l else a
def lessM (a b:Dir):Bool:=decide (orI [cmpI a.kind b.kind,cmpI a.n b.n]<0)
variable {E:Env} {fn:FuncId->Option (Env->CallT->CallT)}
section
variable (S:Sur E fn)
include S
theorem o95_7:E.lives 95 11=none/\E.lives 95 13=none/\E.lives 95 19=none/\E.lives 95 23=none/\E.lives 95 27=none:=⟨off S 95 11 (by decide) rfl,off S 95 13 (by decide) rfl,off S 95 19 (by decide) rfl,off S 95 23 (by decide) rfl,off S 95 27 (by decide) rfl⟩
theorem o94_7:E.lives 94 1=none/\E.lives 94 15=none:=⟨off S 94 1 (by decide) rfl,off S 94 15 (by decide) rfl⟩
theorem raw_cmp_isNaNint (dp:Nat)(a:Int):Says E fn (dp+1) 113 [vi a] (vb false):=by
 unfold Says
 show ansOf (evC E fn (dp+1) 113 [.d (vi a)] [])=_
 rw[evC_succ,S.f_cmp_isNaNint,apF_some,F_cmp_isNaNint,mkF_run _ _ _ _ _ _ _ _ rfl]
 simp only[eG,go_sem,thq S,nbr S,zN0,zN1,zN2,zN3,zN4,zI0,zI1,zI2,zI3,reduceCtorEq,Bool.not_true]
theorem c_cmp_isNaNint (dp:Nat)(a:Int)(A:List Blk)(nb:Nat)(us:List Nat):evOwnK false E (evC E fn (dp+1)) 113 A nb (some ([vi a],us))=some (.made (.d (vb false)) []):=
 Says.flat (raw_cmp_isNaNint S dp a ) (np S 113 (by decide)) (rfl) A nb us
theorem raw_cmp_Compareint (dp:Nat)(a b:Int):Says E fn (dp+2) 95 [vi a,vi b] (vi (cmpI a b)):=by
 unfold Says
 show ansOf (evC E fn (dp+1+1) 95 [.d (vi a),.d (vi b)] [])=_
 rw[evC_succ,S.f_cmp_Compareint,apF_some,F_cmp_Compareint,mkF_run _ _ _ _ _ _ _ _ rfl]
 by_cases h1:a<b
 ·simp only[eG,go_sem,thq S,nbr S,zN0,zN1,zN2,zN3,zN4,zI0,zI1,zI2,zI3,reduceCtorEq,o95_7 S,c_cmp_isNaNint S,h1,cmpI]
 ·by_cases h2 : b < a
  ·simp only[eG,go_sem,thq S,nbr S,zN0,zN1,zN2,zN3,zN4,zI0,zI1,zI2,zI3,reduceCtorEq,o95_7 S,c_cmp_isNaNint S,h1,h2,gt_iff_lt,cmpI]
  ·simp only[eG,go_sem,thq S,nbr S,zN0,zN1,zN2,zN3,zN4,zI0,zI1,zI2,zI3,reduceCtorEq,o95_7 S,c_cmp_isNaNint S,h1,h2,gt_iff_lt,cmpI]
theorem c_cmp_Compareint (dp:Nat)(a b:Int)(A:List Blk)(nb:Nat)(us:List Nat):evOwnK false E (evC E fn (dp+2)) 95 A nb (some ([vi a,vi b],us))=some (.made (.d (vi (cmpI a b))) []):=
 Says.flat (raw_cmp_Compareint S dp a b ) (np S 95 (by decide)) (rfl) A nb us
theorem loop_or (dp:Nat)(l:List Int)(hl:l.length<1073741824)(kx:Nat->K)
  (hx:∀ T,getS .bot T 3=aint 0->ansOf (kx 0 (mk .bot 18 T) [])=some (vi 0)):
  ∀(m k fuel:Nat),k+m=l.length->m<=fuel->ansOf (B8_cmp_Orint (inn E 94) (evC E fn dp) (loopK 8 B8_cmp_Orint (inn E 94) (evC E fn dp) kx (kEnd 0 [.tmp 2]) fuel) kx (kEnd 0 [.tmp 2])
   (mk .bot 18 [(3,aint 0),(6,.d (rowD l)),(7,aint l.length),(8,aint k)]) [])=some (vi (orI (l.drop k))):=by
 intro m
 induction m with
 | zero=>
  intro k fuel hk _
  generalize loopK 8 B8_cmp_Orint _ _ kx _ fuel=KK
  rw[B8_cmp_Orint,List.drop_of_length_le (by omega)]
  simp only[eG,go_sem,thq S,nbr S,zN0,zN1,zN2,zN3,zN4,zI0,zI1,zI2,zI3,reduceCtorEq,o94_7 S,show ¬(k:Int)<l.length by omega,orI]
  exact hx _ rfl
 | succ m ih=>
  intro k fuel hk hf
  obtain⟨e,he⟩:=get_of (show k<l.length by omega)
  obtain⟨fuel,rfl⟩:∃ m,fuel=m+1:=⟨fuel-1,by omega⟩
  generalize hK:loopK 8 B8_cmp_Orint _ _ kx _ (fuel+1)=KK
  rw[B8_cmp_Orint,drop_get he]
  by_cases h0:e=0
  ·simp only [eG, go_sem, thq S, nbr S, zN0, zN1, zN2, zN3, zN4, zI0, zI1, zI2, zI3, reduceCtorEq, o94_7 S, show (k : Int) < l.length by omega, w_ix he, h0, Bool.not_true, Bool.not_false, orI, wi k (by omega)]
   rw[<-hK,loop_in (on S _ _ [3,6,7,8] (by decide) rfl) rfl _ _ _ _ _ _ _ _ _ rfl]
   simp only[eG,go_sem,thq S,nbr S,zN0,zN1,zN2,zN3,zN4,zI0,zI1,zI2,zI3,reduceCtorEq,o94_7 S]
   exact ih (k+1) fuel (by omega) (by omega)
  ·simp only[eG,go_sem,thq S,nbr S,zN0,zN1,zN2,zN3,zN4,zI0,zI1,zI2,zI3,reduceCtorEq,o94_7 S,show(k:Int)<l.length by omega,w_ix he,h0,Bool.not_true,Bool.not_false,orI,wi k (by omega)]
theorem raw_cmp_Orint (dp:Nat)(l:List Int)(hl:l.length<1073741824):Says E fn (dp+1) 94 [rowD l] (vi (orI l)):=by
 unfold Says
 show ansOf (evC E fn (dp+1) 94 [.d (rowD l)] [])=_
 rw[evC_succ,S.f_cmp_Orint,apF_some,F_cmp_Orint,mkF_run _ _ _ _ _ _ _ _ rfl]
 simp only[eG,go_sem,thq S,nbr S,zN0,zN1,zN2,zN3,zN4,zI0,zI1,zI2,zI3,reduceCtorEq,o94_7 S]
 rw[big_eq,loop_in (on S _ _ [3,6,7,8] (by decide) rfl) rfl _ _ _ _ _ _ _ _ _ rfl]
 simp only[eG,go_sem,thq S,nbr S,zN0,zN1,zN2,zN3,zN4,zI0,zI1,zI2,zI3,reduceCtorEq,o94_7 S]
 refine loop_or S dp l hl _ ?_ l.length 0 _ (by omega) (by omega)
 intro T h3
 simp only[eG,go_sem,thq S,nbr S,zN0,zN1,zN2,zN3,zN4,zI0,zI1,zI2,zI3,reduceCtorEq,o94_7 S,h3]
theorem c_or2 (dp:Nat)(a b:Int)(A:List Blk)(nb:Nat)(us:List Nat):evOwnK false E (evC E fn (dp+1)) 94 A nb (some ([.lst [vi a,vi b] 2 none],us))=some (.made (.d (vi (orI [a,b]))) []):=
 Says.flat (ds:=[.lst [vi a,vi b] 2 none]) (raw_cmp_Orint S dp [a,b] (by simp)) (np S 94 (by decide)) rfl A nb us
theorem raw_dirs_Compare (dp:Nat)(a b:Dir):Says E fn (dp+3) 49 [.agg (Cl.cells a),.agg (Cl.cells b)] (vi (orI [cmpI a.kind b.kind,cmpI a.n b.n])):=by
 unfold Says
 show ansOf (evC E fn (dp+2+1) 49 [.d (.agg (Cl.cells a)),.d (.agg (Cl.cells b))] [])=_
 rw[evC_succ,S.f_dirs_Compare,apF_some,F_dirs_Compare,mkF_run _ _ _ _ _ _ _ _ rfl]
 have r2:∀ x:AV,rep [x] 2=[x,x]:=fun _=>rfl
 simp only[eG,go_sem,thq S,nbr S,zN0,zN1,zN2,zN3,zN4,zI0,zI1,zI2,zI3,reduceCtorEq,c_cmp_Compareint S,r2,c_or2 S,deep_sr,Nat.succ_ne_zero]
theorem c_dirs_Compare (dp:Nat)(a_k a_n b_k b_n:Int)(A:List Blk)(nb:Nat)(us:List Nat):evOwnK false E (evC E fn (dp+3)) 49 A nb (some ([.agg [vi a_k,vi a_n],.agg [vi b_k,vi b_n]],us))=some (.made (.d (vi (orI [cmpI (⟨a_k,a_n⟩:Dir).kind (⟨b_k,b_n⟩:Dir).kind,cmpI (⟨a_k,a_n⟩:Dir).n (⟨b_k,b_n⟩:Dir).n]))) []):=
 Says.flat (raw_dirs_Compare S dp (⟨a_k,a_n⟩:Dir) (⟨b_k,b_n⟩:Dir) ) (np S 49 (by decide)) (rfl) A nb us
theorem raw_dirs_Less (dp:Nat)(a b:Dir):Says E fn (dp+4) 20 [.agg (Cl.cells a),.agg (Cl.cells b)] (vb (lessM a b)):=by
 unfold Says
 show ansOf (evC E fn (dp+3+1) 20 [.d (.agg (Cl.cells a)),.d (.agg (Cl.cells b))] [])=_
 rw[evC_succ,S.f_dirs_Less,apF_some,F_dirs_Less,mkF_run _ _ _ _ _ _ _ _ rfl]
 simp only[eG,go_sem,thq S,nbr S,zN0,zN1,zN2,zN3,zN4,zI0,zI1,zI2,zI3,reduceCtorEq,c_dirs_Compare S,lessM]
end
theorem less_iff (a b:Dir):lessM a b=true↔a.kind<b.kind∨a.kind=b.kind/\a.n<b.n:=by
 simp only[lessM,orI,cmpI,decide_eq_true_eq]
 by_cases h1:a.kind<b.kind
 ·simp[h1]
 ·by_cases h2 : b.kind < a.kind
  ·simp[h1,h2]<;>omega
  ·by_cases h3 : a.n < b.n
   ·simp[h1,h2,h3]<;>omega
   ·by_cases h4 : b.n < a.n
    ·simp[h1,h2,h3,h4]<;>omega
    ·simp[h1,h2,h3,h4]
theorem less_f {a b:Dir}(h:¬(a.kind<b.kind∨a.kind=b.kind/\a.n<b.n)):lessM a b=false:=by
 cases hl:lessM a b with
 | false=>rfl
 | true=>exact absurd ((less_iff a b).1 hl) h
section
variable (S:Sur E fn)
include S
end
end Go.Aug.Mc
namespace Go.Aug.Md
open Go Go.Aug
set_option linter.unusedSimpArgs false
set_option linter.unusedVariables false
def ltD (a b:Dir):Prop:=a.kind<b.kind∨a.kind=b.kind/\a.n<b.n
section
variable {N:Int} {p:Prog} {c:Conf}
theorem guess_le (p:Prog)(c:Conf):guesses p c<=max 2 (p.ins.length+1):=by
 unfold guesses
 split
 ·omega
 split
 ·omega
 split
 ·omega
 ·omega
structure Cnt (l:List Dir) (k:Nat) (d:Dir):Prop where
 le:k<=l.length
 lo:∀ e ∈ l.take k,ltD e d
 hi:∀ e ∈ l.drop k,¬ltD e d
theorem Cnt.begin (l:List Dir)(d:Dir)(h:∀ e ∈ l,¬ltD e d):Cnt l 0 d:=⟨Nat.zero_le _,fun e h=>by simp at h,fun e he=>h e (by simpa using he)⟩
theorem Cnt.row {l:List Dir}{k:Nat}{kd m:Int}(h:Cnt l k ⟨kd,m⟩)(hm:∀ e ∈ l,0<=e.n/\e.n<m):Cnt l k ⟨kd+1,-1⟩:=by
 refine⟨h.le,fun e he=> ?_,fun e he=> ?_⟩
 ·have := h.lo e he
  unfold ltD at this ⊢
  show _<kd+1∨_=kd+1/\_< -1
  have:e.kind<kd∨e.kind=kd/\e.n<m:=this
  omega
 ·have h1 : ¬ (e.kind < kd ∨ e.kind = kd /\ e.n < m) := h.hi e he
  have:=hm e (List.mem_of_mem_drop he)
  show ¬(_<kd+1∨_=kd+1/\_< -1)
  omega
theorem Cnt.end_ {l:List Dir}{k:Nat}{kd m:Int}(h:Cnt l k ⟨kd,m⟩)(hm:∀ e ∈ l,e.kind<kd):k=l.length:=by
 have h0:l.drop k=[]:=by
  cases hq:l.drop k with
  | nil=>rfl
  | cons e t=>
   have he:e ∈ l.drop k:=by rw[hq];exact List.mem_cons_self
   exact absurd (.inl (hm e (List.mem_of_mem_drop he))) (h.hi e he)
 have:=congrArg List.length h0
 rw[List.length_drop,List.length_nil] at this
 have:=h.le
 omega
end
end Go.Aug.Md
namespace Go.Aug.Mc
open Go Go.Aug
set_option linter.unusedSimpArgs false
set_option linter.unusedVariables false
set_option maxHeartbeats 40000000
set_option maxRecDepth 200000
theorem make_il (l:List Int):(Md.make l).ins.length<=5:=by
 show((List.range (Md.nM l)).map _).length<=5
 obtain⟨r,h1,h2⟩:=Md.iand3 (Md.shi (Md.kM l 0) 12)
 rw[List.length_map,List.length_range]
 unfold Md.nM
 rw[h2,Int.toNat_natCast];omega
variable {E:Env} {fn:FuncId->Option (Env->CallT->CallT)}
section
variable (S:Sur E fn)
include S
end
end Go.Aug.Mc
