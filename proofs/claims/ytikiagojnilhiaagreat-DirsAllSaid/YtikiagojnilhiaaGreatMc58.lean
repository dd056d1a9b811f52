import Derived.Test.YtikiagojnilhiaaGreatMl6
import Derived.Test.YtikiagojnilhiaaGreatBo2
import Derived.Test.YtikiagojnilhiaaGreatMc2
import Derived.Test.YtikiagojnilhiaaGreatMc41
namespace Go.Aug.Mc
open Go Go.Aug
set_option linter.unusedSimpArgs false
set_option linter.unusedVariables false
set_option maxHeartbeats 40000000
set_option maxRecDepth 200000
theorem do_any {E:Env}{fn:FuncId->Option (Env->CallT->CallT)}(S:Sur E fn)(dp:Nat){p:Prog}(hp:Md.Fine p)(hml:p.mems.length<1000)(hN:cellsI p.mems<=1000){c:Conf}(hI:Md.Inv (cellsI p.mems) p c)(d:Dir)(A:List Blk)(nb:Nat):
  evOwnK false E (evC E fn (dp+11)) 13 A nb (some ([progD p,confD c,.agg [vi d.kind,vi d.n]],[]))=some (.made (.d (.tup [confD (sayC (cellsI p.mems) p c d).1,rowD (sayC (cellsI p.mems) p c d).2,vb (Md.canSay (cellsI p.mems) p c d)])) []):=by
 obtain⟨q1,q2,q3,q4,q5,y1,y2,y3,y4,y5,y6⟩:=inv_hyps hp hI hN d
 exact Says.deep (raw_dirs_Do S dp p c d q1 (by omega) (by omega) (by omega) (by omega) (by omega) y1 y4) (np S 13 (by decide)) A nb
variable {E:Env} {fn:FuncId->Option (Env->CallT->CallT)}
section
variable (S:Sur E fn)
include S
end
open Nat renaming reduceLT -> zN0, reduceEqDiff -> zN1, reduceAdd -> zN2, reduceMul -> zN3, reduceLeDiff -> zN4
open Int renaming reduceEq -> zI0, reduceLT -> zI1, reduceLE -> zI2, reduceNeg -> zI3
def cmpI (a b:Int):Int:=if a<b then -1 else if b<a then 1 else 0
def orI:List Int->Int
 | []=>0
 | a::l=>if a=0 then orI l else a
def lessM (a b:Dir):Bool:=decide (orI [cmpI a.kind b.kind,cmpI a.n b.n]<0)
variable {E:Env} {fn:FuncId->Option (Env->CallT->CallT)}
section
variable (S:Sur E fn)
include S
theorem o95_7:E.lives 95 11=none/\E.lives 95 13=none/\E.lives 95 19=none/\E.lives 95 23=none/\E.lives 95 27=none:=⟨off S 95 11 (by decide) rfl,off S 95 13 (by decide) rfl,off S 95 19 (by decide) rfl,off S 95 23 (by decide) rfl,off S 95 27 (by decide) rfl⟩
theorem o94_7:E.lives 94 1=none/\E.lives 94 15=none:=⟨off S 94 1 (by decide) rfl,off S 94 15 (by decide) rfl⟩
theorem raw_cmp_isNaNint (dp:Nat)(a:Int):Says E fn (dp+1) 113 [vi a] (vb false):=by
 unfold Says
 show ansOf (evC E fn (dp+1) 113 [.d (vi a)] [])=_
 rw[evC_succ,S.f_cmp_isNaNint,apF_some,F_cmp_isNaNint,mkF_run _ _ _ _ _ _ _ _ rfl]
 simp only[eG,go_sem,thq S,nbr S,zN0,zN1,zN2,zN3,zN4,zI0,zI1,zI2,zI3,reduceCtorEq,Bool.not_true]
theorem c_cmp_isNaNint (dp:Nat)(a:Int)(A:List Blk)(nb:Nat)(us:List Nat):evOwnK false E (evC E fn (dp+1)) 113 A nb (some ([vi a],us))=some (.made (.d (vb false)) []):=
 Says.flat (raw_cmp_isNaNint S dp a ) (np S 113 (by decide)) (rfl) A nb us
theorem raw_cmp_Compareint (dp:Nat)(a b:Int):Says E fn (dp+2) 95 [vi a,vi b] (vi (cmpI a b)):=by
 unfold Says
 show ansOf (evC E fn (dp+1+1) 95 [.d (vi a),.d (vi b)] [])=_
 rw[evC_succ,S.f_cmp_Compareint,apF_some,F_cmp_Compareint,mkF_run _ _ _ _ _ _ _ _ rfl]
 by_cases h1:a<b
 ·simp only[eG,go_sem,thq S,nbr S,zN0,zN1,zN2,zN3,zN4,zI0,zI1,zI2,zI3,reduceCtorEq,o95_7 S,c_cmp_isNaNint S,h1,cmpI]
 ·by_cases h2 : b < a
  ·simp only[eG,go_sem,thq S,nbr S,zN0,zN1,zN2,zN3,zN4,zI0,zI1,zI2,zI3,reduceCtorEq,o95_7 S,c_cmp_isNaNint S,h1,h2,gt_iff_lt,cmpI]
  ·simp only[eG,go_sem,thq S,nbr S,zN0,zN1,zN2,zN3,zN4,zI0,zI1,zI2,zI3,reduceCtorEq,o95_7 S,c_cmp_isNaNint S,h1,h2,gt_iff_lt,cmpI]
theorem c_cmp_Compareint (dp:Nat)(a b:Int)(A:List Blk)(nb:Nat)(us:List Nat):evOwnK false E (evC E fn (dp+2)) 95 A nb (some ([vi a,vi b],us))=some (.made (.d (vi (cmpI a b))) []):=
 Says.flat (raw_cmp_Compareint S dp a b ) (np S 95 (by decide)) (rfl) A nb us
theorem loop_or (dp:Nat)(l:List Int)(hl:l.length<1073741824)(kx:Nat->K)
  (hx:∀ T,getS .bot T 3=aint 0->ansOf (kx 0 (mk .bot 18 T) [])=some (vi 0)):
  ∀(m k fuel:Nat),k+m=l.length->m<=fuel->ansOf (B8_cmp_Orint (inn E 94) (evC E fn dp) (loopK 8 B8_cmp_Orint (inn E 94) (evC E fn dp) kx (kEnd 0 [.tmp 2]) fuel) kx (kEnd 0 [.tmp 2])
   (mk .bot 18 [(3,aint 0),(6,.d (rowD l)),(7,aint l.length),(8,aint k)]) [])=some (vi (orI (l.drop k))):=by
 intro m
 induction m with
 | zero=>
  intro k fuel hk _
  generalize loopK 8 B8_cmp_Orint _ _ kx _ fuel=KK
  rw[B8_cmp_Orint,List.drop_of_length_le (by omega)]
  simp only[eG,go_sem,thq S,nbr S,zN0,zN1,zN2,zN3,zN4,zI0,zI1,zI2,zI3,reduceCtorEq,o94_7 S,show ¬(k:Int)<l.length by omega,orI]
  exact hx _ rfl
 | succ m ih=>
  intro k fuel hk hf
  obtain⟨e,he⟩:=get_of (show k<l.length by omega)
  obtain⟨fuel,rfl⟩:∃ m,fuel=m+1:=⟨fuel-1,by omega⟩
  generalize hK:loopK 8 B8_cmp_Orint _ _ kx _ (fuel+1)=KK
  rw[B8_cmp_Orint,drop_get he]
  by_cases h0:e=0
  ·simp only [eG, go_sem, thq S, nbr S, zN0, zN1, zN2, zN3, zN4, zI0, zI1, zI2, zI3, reduceCtorEq, o94_7 S, show (k : Int) < l.length by omega, w_ix he, h0, Bool.not_true, Bool.not_false, orI, wi k (by omega)]
   rw[<-hK,loop_in (on S _ _ [3,6,7,8] (by decide) rfl) rfl _ _ _ _ _ _ _ _ _ rfl]
   simp only[eG,go_sem,thq S,nbr S,zN0,zN1,zN2,zN3,zN4,zI0,zI1,zI2,zI3,reduceCtorEq,o94_7 S]
   exact ih (k+1) fuel (by omega) (by omega)
  ·simp only[eG,go_sem,thq S,nbr S,zN0,zN1,zN2,zN3,zN4,zI0,zI1,zI2,zI3,reduceCtorEq,o94_7 S,show(k:Int)<l.length by omega,w_ix he,h0,Bool.not_true,Bool.not_false,orI,wi k (by omega)]
theorem raw_cmp_Orint (dp:Nat)(l:List Int)(hl:l.length<1073741824):Says E fn (dp+1) 94 [rowD l] (vi (orI l)):=by
 unfold Says
 show ansOf (evC E fn (dp+1) 94 [.d (rowD l)] [])=_
 rw[evC_succ,S.f_cmp_Orint,apF_some,F_cmp_Orint,mkF_run _ _ _ _ _ _ _ _ rfl]
 simp only[eG,go_sem,thq S,nbr S,zN0,zN1,zN2,zN3,zN4,zI0,zI1,zI2,zI3,reduceCtorEq,o94_7 S]
 rw[big_eq,loop_in (on S _ _ [3,6,7,8] (by decide) rfl) rfl _ _ _ _ _ _ _ _ _ rfl]
 simp only[eG,go_sem,thq S,nbr S,zN0,zN1,zN2,zN3,zN4,zI0,zI1,zI2,zI3,reduceCtorEq,o94_7 S]
 refine loop_or S dp l hl _ ?_ l.length 0 _ (by omega) (by omega)
 intro T h3
 simp only[eG,go_sem,thq S,nbr S,zN0,zN1,zN2,zN3,zN4,zI0,zI1,zI2,zI3,reduceCtorEq,o94_7 S,h3]
theorem c_or2 (dp:Nat)(a b:Int)(A:List Blk)(nb:Nat)(us:List Nat):evOwnK false E (evC E fn (dp+1)) 94 A nb (some ([.lst [vi a,vi b] 2 none],us))=some (.made (.d (vi (orI [a,b]))) []):=
 Says.flat (ds:=[.lst [vi a,vi b] 2 none]) (raw_cmp_Orint S dp [a,b] (by simp)) (np S 94 (by decide)) rfl A nb us
theorem raw_dirs_Compare (dp:Nat)(a b:Dir):Says E fn (dp+3) 49 [.agg (Cl.cells a),.agg (Cl.cells b)] (vi (orI [cmpI a.kind b.kind,cmpI a.n b.n])):=by
 unfold Says
 show ansOf (evC E fn (dp+2+1) 49 [.d (.agg (Cl.cells a)),.d (.agg (Cl.cells b))] [])=_
 rw[evC_succ,S.f_dirs_Compare,apF_some,F_dirs_Compare,mkF_run _ _ _ _ _ _ _ _ rfl]
 have r2:∀ x:AV,rep [x] 2=[x,x]:=fun _=>rfl
 simp only[eG,go_sem,thq S,nbr S,zN0,zN1,zN2,zN3,zN4,zI0,zI1,zI2,zI3,reduceCtorEq,c_cmp_Compareint S,r2,c_or2 S,deep_sr,Nat.succ_ne_zero]
theorem c_dirs_Compare (dp:Nat)(a_k a_n b_k b_n:Int)(A:List Blk)(nb:Nat)(us:List Nat):evOwnK false E (evC E fn (dp+3)) 49 A nb (some ([.agg [vi a_k,vi a_n],.agg [vi b_k,vi b_n]],us))=some (.made (.d (vi (orI [cmpI (⟨a_k,a_n⟩:Dir).kind (⟨b_k,b_n⟩:Dir).kind,cmpI (⟨a_k,a_n⟩:Dir).n (⟨b_k,b_n⟩:Dir).n]))) []):=
 Says.flat (raw_dirs_Compare S dp (⟨a_k,a_n⟩:Dir) (⟨b_k,b_n⟩:Dir) ) (np S 49 (by decide)) (rfl) A nb us
theorem raw_dirs_Less (dp:Nat)(a b:Dir):Says E fn (dp+4) 20 [.agg (Cl.cells a),.agg (Cl.cells b)] (vb (lessM a b)):=by
 unfold Says
 show ansOf (evC E fn (dp+3+1) 20 [.d (.agg (Cl.cells a)),.d (.agg (Cl.cells b))] [])=_
 rw[evC_succ,S.f_dirs_Less,apF_some,F_dirs_Less,mkF_run _ _ _ _ _ _ _ _ rfl]
 simp only[eG,go_sem,thq S,nbr S,zN0,zN1,zN2,zN3,zN4,zI0,zI1,zI2,zI3,reduceCtorEq,c_dirs_Compare S,lessM]
theorem c_dirs_Less (dp:Nat)(a_k a_n b_k b_n:Int)(A:List Blk)(nb:Nat)(us:List Nat):evOwnK false E (evC E fn (dp+4)) 20 A nb (some ([.agg [vi a_k,vi a_n],.agg [vi b_k,vi b_n]],us))=some (.made (.d (vb (lessM (⟨a_k,a_n⟩:Dir) (⟨b_k,b_n⟩:Dir)))) []):=
 Says.flat (raw_dirs_Less S dp (⟨a_k,a_n⟩:Dir) (⟨b_k,b_n⟩:Dir) ) (np S 20 (by decide)) (rfl) A nb us
end
theorem less_iff (a b:Dir):lessM a b=true↔a.kind<b.kind∨a.kind=b.kind/\a.n<b.n:=by
 simp only[lessM,orI,cmpI,decide_eq_true_eq]
 by_cases h1:a.kind<b.kind
 ·simp[h1]
 ·by_cases h2 : b.kind < a.kind
  ·simp[h1,h2]<;>omega
  ·by_cases h3 : a.n < b.n
   ·simp[h1,h2,h3]<;>omega
   ·by_cases h4 : b.n < a.n
    ·simp[h1,h2,h3,h4]<;>omega
    ·simp[h1,h2,h3,h4]
theorem less_f {a b:Dir}(h:¬(a.kind<b.kind∨a.kind=b.kind/\a.n<b.n)):lessM a b=false:=by
 cases hl:lessM a b with
 | false=>rfl
 | true=>exact absurd ((less_iff a b).1 hl) h
theorem less_t {a b:Dir}(h:a.kind<b.kind∨a.kind=b.kind/\a.n<b.n):lessM a b=true:=(less_iff a b).2 h
section
variable (S:Sur E fn)
include S
end
end Go.Aug.Mc
namespace Go.Aug.Md
open Go Go.Aug
set_option linter.unusedSimpArgs false
set_option linter.unusedVariables false
def ltD (a b:Dir):Prop:=a.kind<b.kind∨a.kind=b.kind/\a.n<b.n
theorem seg_sorted (k:Int)(f:Nat->Bool)(m:Nat):(((List.range m).filter f).map fun n:Nat=>(⟨k,(n:Int)⟩:Dir)).Pairwise ltD:=by
 rw[List.pairwise_map]
 refine(List.pairwise_lt_range.filter _).imp ?_
 intro a b h
 exact .inr ⟨rfl,by show(a:Int)<b;omega⟩
theorem seg_sorted1 (k:Int)(m:Nat):((List.range m).map fun n:Nat=>(⟨k,(n:Int)⟩:Dir)).Pairwise ltD:=by
 rw[List.pairwise_map]
 refine List.pairwise_lt_range.imp ?_
 intro a b h
 exact .inr ⟨rfl,by show(a:Int)<b;omega⟩
section
variable {N:Int} {p:Prog} {c:Conf}
theorem all_sorted (N:Int)(p:Prog)(c:Conf):(all N p c).Pairwise ltD:=by
 have k1:∀(k:Int) (l:List Nat) (d:Dir),d ∈ (l.map fun n:Nat=>(⟨k,(n:Int)⟩:Dir))->d.kind=k:=by
  intro k l d h
  obtain⟨n,_,rfl⟩:=List.mem_map.1 h;rfl
 unfold all
 rw[List.pairwise_append,List.pairwise_append,List.pairwise_append]
 refine⟨⟨⟨seg_sorted1 _ _,seg_sorted _ _ _,?_⟩,seg_sorted _ _ _,?_⟩,?_,?_⟩
 ·intro a ha b hb
  have:=k1 _ _ _ ha;have:=k1 _ _ _ hb
  exact .inl (by omega)
 ·intro a ha b hb
  have hb:=k1 _ _ _ hb
  rcases List.mem_append.1 ha with ha | ha
  ·have:=k1 _ _ _ ha;exact .inl (by omega)
  ·have:=k1 _ _ _ ha;exact .inl (by omega)
 ·cases canRetire p c with
  | false=>exact List.Pairwise.nil
  | true=>exact List.pairwise_singleton _ _
 ·intro a ha b hb
  have hb:b.kind=4:=by
   cases hr:canRetire p c with
   | false=>rw[hr] at hb;cases hb
   | true=>
    rw[hr] at hb
    have:b=⟨4,0⟩:=by simpa using hb
    rw[this]
  rcases List.mem_append.1 ha with ha | ha
  ·rcases List.mem_append.1 ha with ha | ha
   ·have:=k1 _ _ _ ha;exact .inl (by omega)
   ·have:=k1 _ _ _ ha;exact .inl (by omega)
  ·have:=k1 _ _ _ ha;exact .inl (by omega)
theorem say_bounds {d:Dir}(hc:canSay N p c d=true):1<=d.kind/\d.kind<=4/\0<=d.n/\(d.n<guesses p c∨d.n<c.buf.length∨d.n=0):=by
 unfold canSay at hc
 split at hc
 ·rename_i h1
  simp only[canFetch,Bool.and_eq_true,decide_eq_true_eq] at hc
  exact⟨by omega,by omega,hc.1,.inl hc.2⟩
 split at hc
 ·have ho:openM p c d.n=true:=by
   simp only[can,Bool.and_eq_true] at hc;exact hc.1.1
  obtain⟨_,k,hk,hg⟩:=open_at ho
  have hlt:=(List.getElem?_eq_some_iff.1 hg).1
  exact⟨by omega,by omega,by omega,.inr (.inl (by omega))⟩
 split at hc
 ·have ho:openM p c d.n=true:=by
   simp only[canAddr,Bool.and_eq_true] at hc;exact hc.1.1.1.1
  obtain⟨_,k,hk,hg⟩:=open_at ho
  have hlt:=(List.getElem?_eq_some_iff.1 hg).1
  exact⟨by omega,by omega,by omega,.inr (.inl (by omega))⟩
 ·simp only [Bool.and_eq_true, decide_eq_true_eq] at hc
  exact⟨by omega,by omega,by omega,.inr (.inr hc.1.2)⟩
theorem guess_le (p:Prog)(c:Conf):guesses p c<=max 2 (p.ins.length+1):=by
 unfold guesses
 split
 ·omega
 split
 ·omega
 split
 ·omega
 ·omega
structure Cnt (l:List Dir) (k:Nat) (d:Dir):Prop where
 le:k<=l.length
 lo:∀ e ∈ l.take k,ltD e d
 hi:∀ e ∈ l.drop k,¬ltD e d
theorem Cnt.begin (l:List Dir)(d:Dir)(h:∀ e ∈ l,¬ltD e d):Cnt l 0 d:=⟨Nat.zero_le _,fun e h=>by simp at h,fun e he=>h e (by simpa using he)⟩
theorem Cnt.hit {l:List Dir}{k:Nat}{d:Dir}(hs:l.Pairwise ltD)(h:Cnt l k d)(hd:d ∈ l):l[k]? =some d/\Cnt l (k+1) ⟨d.kind,d.n+1⟩:=by
 have hd2:d ∈ l.take k++l.drop k:=by rw[List.take_append_drop];exact hd
 have hdr:d ∈ l.drop k:=by
  rcases List.mem_append.1 hd2 with h1 | h1
  ·have := h.lo d h1
   unfold ltD at this;omega
  ·exact h1
 have hlt:k<l.length:=by
  have:=List.length_pos_of_mem hdr
  rw[List.length_drop] at this;omega
 have e1:l.drop k=l[k]::l.drop (k+1):=List.drop_eq_getElem_cons hlt
 have hsd:(l.drop k).Pairwise ltD:=hs.sublist (List.drop_sublist _ _)
 rw[e1] at hsd hdr
 have hsd:=List.pairwise_cons.1 hsd
 have e2:l[k]=d:=by
  rcases List.mem_cons.1 hdr with h1 | h1
  ·exact h1.symm
  ·exact absurd (hsd.1 d h1) (h.hi _ (by rw[e1];exact List.mem_cons_self))
 refine⟨by rw[List.getElem?_eq_getElem hlt,e2],hlt,fun e he=> ?_,fun e he=> ?_⟩
 ·rw [List.take_add_one, List.getElem?_eq_getElem hlt] at he
  rcases List.mem_append.1 he with h1 | h1
  ·have := h.lo e h1
   unfold ltD at this ⊢
   show _<d.kind∨_=d.kind/\_<d.n+1
   omega
  ·have : e = d := by simpa [e2] using h1
   subst this
   exact .inr ⟨rfl,by show e.n<e.n+1;omega⟩
 ·have := hsd.1 e he
  rw[e2] at this
  unfold ltD at this ⊢
  show ¬(_<d.kind∨_=d.kind/\_<d.n+1)
  omega
theorem Cnt.miss {l:List Dir}{k:Nat}{d:Dir}(h:Cnt l k d)(hd:d ∉ l):Cnt l k ⟨d.kind,d.n+1⟩:=by
 refine⟨h.le,fun e he=> ?_,fun e he=> ?_⟩
 ·have := h.lo e he
  unfold ltD at this ⊢
  show _<d.kind∨_=d.kind/\_<d.n+1
  omega
 ·have h1 := h.hi e he
  have h2:e≠d:=fun h2=>hd (h2 ▸ (List.mem_of_mem_drop he))
  have h3:¬(e.kind=d.kind/\e.n=d.n):=fun h3=>h2 (by
   cases e;cases d;simp at h3;simp[h3.1,h3.2])
  unfold ltD at h1 ⊢
  show ¬(_<d.kind∨_=d.kind/\_<d.n+1)
  omega
theorem Cnt.row {l:List Dir}{k:Nat}{kd m:Int}(h:Cnt l k ⟨kd,m⟩)(hm:∀ e ∈ l,0<=e.n/\e.n<m):Cnt l k ⟨kd+1,-1⟩:=by
 refine⟨h.le,fun e he=> ?_,fun e he=> ?_⟩
 ·have := h.lo e he
  unfold ltD at this ⊢
  show _<kd+1∨_=kd+1/\_< -1
  have:e.kind<kd∨e.kind=kd/\e.n<m:=this
  omega
 ·have h1 : ¬ (e.kind < kd ∨ e.kind = kd /\ e.n < m) := h.hi e he
  have:=hm e (List.mem_of_mem_drop he)
  show ¬(_<kd+1∨_=kd+1/\_< -1)
  omega
theorem Cnt.end_ {l:List Dir}{k:Nat}{kd m:Int}(h:Cnt l k ⟨kd,m⟩)(hm:∀ e ∈ l,e.kind<kd):k=l.length:=by
 have h0:l.drop k=[]:=by
  cases hq:l.drop k with
  | nil=>rfl
  | cons e t=>
   have he:e ∈ l.drop k:=by rw[hq];exact List.mem_cons_self
   exact absurd (.inl (hm e (List.mem_of_mem_drop he))) (h.hi e he)
 have:=congrArg List.length h0
 rw[List.length_drop,List.length_nil] at this
 have:=h.le
 omega
end
end Go.Aug.Md
namespace Go.Aug.Mc
open Go Go.Aug
open Nat renaming reduceLT -> zN0, reduceEqDiff -> zN1, reduceAdd -> zN2, reduceMul -> zN3, reduceLeDiff -> zN4
open Int renaming reduceEq -> zI0, reduceLT -> zI1, reduceLE -> zI2, reduceNeg -> zI3
set_option linter.unusedSimpArgs false
set_option linter.unusedVariables false
set_option maxHeartbeats 40000000
set_option maxRecDepth 200000
theorem make_il (l:List Int):(Md.make l).ins.length<=5:=by
 show((List.range (Md.nM l)).map _).length<=5
 obtain⟨r,h1,h2⟩:=Md.iand3 (Md.shi (Md.kM l 0) 12)
 rw[List.length_map,List.length_range]
 unfold Md.nM
 rw[h2,Int.toNat_natCast];omega
variable {E:Env} {fn:FuncId->Option (Env->CallT->CallT)}
section
variable (S:Sur E fn)
include S
theorem o5_58:E.lives 5 1=none/\E.lives 5 15=none/\E.lives 5 39=none/\E.lives 5 43=none/\E.lives 5 53=none:=⟨off S 5 1 (by decide) rfl,off S 5 15 (by decide) rfl,off S 5 39 (by decide) rfl,off S 5 43 (by decide) rfl,off S 5 53 (by decide) rfl⟩
theorem da_in (dp:Nat)(p:Prog)(hp:Md.Fine p)(hml:p.mems.length<1000)(hN:cellsI p.mems<=1000)(c:Conf)(hI:Md.Inv (cellsI p.mems) p c)(L:List Dir)(hL:Md.all (cellsI p.mems) p c=L)(hLl:L.length<1000000)(kd:Int)(kx:Nat->K)(D:Option (AV×List Blk))
  (hx:∀ T (k:Nat),getS .bot T 7=.ref 0 0 0->getS .bot T 10=.ref 1 0 0->getS .bot T 12=.d (rowD L)->getS .bot T 13=aint k->getS .bot T 14=aint kd->Md.Cnt L k ⟨kd,41⟩->kx 2 (mk .bot 129 T) [.cells ((progC p).map .d) 0 false,.cells ((confC c).map .d) 0 false]=D):
  ∀(m f:Nat) (n:Int) (k:Nat),n+m=41-> -1<=n->m<=f->Md.Cnt L k ⟨kd,n⟩->
  B26_w17_DirsAll (inn E 5) (evC E fn (dp+11)) (loopK 26 B26_w17_DirsAll (inn E 5) (evC E fn (dp+11)) kx (kEnd 0 [.tmp 6]) f) kx (kEnd 0 [.tmp 6]) (mk .bot 129 [(7,.ref 0 0 0),(10,.ref 1 0 0),(12,.d (rowD L)),(13,aint k),(14,aint kd),(15,aint n)]) [.cells ((progC p).map .d) 0 false,.cells ((confC c).map .d) 0 false]=D:=by
 obtain⟨q1,q2,q3,q4,q5,_⟩:=inv_hyps hp hI hN ⟨0,0⟩
 have g0:p.mems.length<1073741824:=by omega
 have g2:c.buf.length<1073741824:=by omega
 intro m
 induction m with
 | zero=>
  intro f n k hn _ _ hC
  obtain rfl:n=41:=by omega
  generalize loopK 26 B26_w17_DirsAll _ _ kx _ f=KK
  first | (conv=>lhs;rw[B26_w17_DirsAll]) | rw[B26_w17_DirsAll]
  simp only[eG,go_sem,thq S,nbr S,zN0,zN1,zN2,zN3,zN4,zI0,zI1,zI2,zI3,reduceCtorEq,o5_58 S]
  exact hx _ k rfl rfl rfl rfl rfl hC
 | succ m ih=>
  intro f n k hn hn1 hf hC
  obtain⟨f,rfl⟩:∃ g,f=g+1:=⟨f-1,by omega⟩
  have hn40:n<=40:=by omega
  have wn:IntKind.i64.wrap (n+1)=n+1:=wrap_i64 (by omega) (by omega)
  have hdo:=fun(A:List Blk) (nb:Nat)=>do_any S dp hp hml hN hI ⟨kd,n⟩ A nb
  generalize sayC (cellsI p.mems) p c ⟨kd,n⟩=R at hdo
  obtain⟨X,o⟩:=R
  simp only[progD,progC,confD,confC] at hdo
  generalize hK:loopK 26 B26_w17_DirsAll _ _ kx _ (f+1)=KK
  first | (conv=>lhs;rw[B26_w17_DirsAll]) | rw[B26_w17_DirsAll]
  cases hc:Md.canSay (cellsI p.mems) p c ⟨kd,n⟩ with
  | false=>
   have hmem:(⟨kd,n⟩:Dir) ∉ L:=fun h=>by
    rw[<-hL] at h
    have:=(Md.mem_all _).1 h
    rw[hc] at this;cases this
   have next:=ih f (n+1) k (by omega) (by omega) (by omega) (hC.miss hmem)
   rw[hc] at hdo
   simp only[eG,go_sem,thq S,nbr S,zN0,zN1,zN2,zN3,zN4,zI0,zI1,zI2,zI3,reduceCtorEq,o5_58 S,hn40,c_dirs_Can S,q1,g0,g2,hc,hdo,wn,Bool.not_true,Bool.not_false]
   rw[<-hK,loop_in (on S _ _ [7,10,12,13,14,15] (by decide) rfl) rfl _ _ _ _ _ _ _ _ _ rfl]
   simp only[eG,go_sem,thq S,nbr S,zN0,zN1,zN2,zN3,zN4,zI0,zI1,zI2,zI3,reduceCtorEq,o5_58 S]
   exact next
  | true=>
   have hmem:(⟨kd,n⟩:Dir) ∈ L:=by rw[<-hL];exact(Md.mem_all _).2 hc
   obtain⟨hg,hC'⟩:=hC.hit (by rw[<-hL];exact Md.all_sorted _ _ _) hmem
   have hkl:=(List.getElem?_eq_some_iff.1 hg).1
   have hkl':¬(L.length:Int)<=(k:Int):=by omega
   have next:=ih f (n+1) (k+1) (by omega) (by omega) (by omega) hC'
   rw[hc] at hdo
   simp only[eG,go_sem,thq S,nbr S,zN0,zN1,zN2,zN3,zN4,zI0,zI1,zI2,zI3,reduceCtorEq,o5_58 S,hn40,c_dirs_Can S,q1,g0,g2,hc,hdo,wn,Bool.not_true,Bool.not_false,ge_iff_le,hkl',w_ix hg,wi k (by omega)]
   rw[<-hK,loop_in (on S _ _ [7,10,12,13,14,15] (by decide) rfl) rfl _ _ _ _ _ _ _ _ _ rfl]
   simp only[eG,go_sem,thq S,nbr S,zN0,zN1,zN2,zN3,zN4,zI0,zI1,zI2,zI3,reduceCtorEq,o5_58 S]
   exact next
theorem da_out (dp:Nat)(p:Prog)(hp:Md.Fine p)(hml:p.mems.length<1000)(hN:cellsI p.mems<=1000)(hil:p.ins.length<=30)(c:Conf)(hI:Md.Inv (cellsI p.mems) p c)(L:List Dir)(hL:Md.all (cellsI p.mems) p c=L)(hLl:L.length<1000000)(kx:Nat->K)(D:Option (AV×List Blk))
  (hx:∀ T A,getS .bot T 12=.d (rowD L)->getS .bot T 13=aint L.length->kx 0 (mk .bot 129 T) A=D):
  ∀(m f:Nat) (kd:Int) (k:Nat),kd+m=6->0<=kd->m<=f->Md.Cnt L k ⟨kd,-1⟩->
  B20_w17_DirsAll (inn E 5) (evC E fn (dp+11)) (loopK 20 B20_w17_DirsAll (inn E 5) (evC E fn (dp+11)) kx (kEnd 0 [.tmp 6]) f) kx (kEnd 0 [.tmp 6]) (mk .bot 129 [(7,.ref 0 0 0),(10,.ref 1 0 0),(12,.d (rowD L)),(13,aint k),(14,aint kd)]) [.cells ((progC p).map .d) 0 false,.cells ((confC c).map .d) 0 false]=D:=by
 have hb:=hI.buf
 have hw:=hp.win
 have hbd:∀ e ∈ L,0<=e.n/\e.n<41:=fun e he=>by
  rw[<-hL] at he
  have:=Md.say_bounds ((Md.mem_all e).1 he)
  have:=Md.guess_le p c
  omega
 have hkd:∀ e ∈ L,e.kind<6:=fun e he=>by
  rw[<-hL] at he
  have:=Md.say_bounds ((Md.mem_all e).1 he)
  omega
 intro m
 induction m with
 | zero=>
  intro f kd k hk _ _ hC
  obtain rfl:kd=6:=by omega
  have hk:=hC.end_ hkd
  subst hk
  generalize loopK 20 B20_w17_DirsAll _ _ kx _ f=KK
  first | (conv=>lhs;rw[B20_w17_DirsAll]) | rw[B20_w17_DirsAll]
  simp only[eG,go_sem,thq S,nbr S,zN0,zN1,zN2,zN3,zN4,zI0,zI1,zI2,zI3,reduceCtorEq,o5_58 S]
  exact hx _ _ rfl rfl
 | succ m ih=>
  intro f kd k hk hk0 hf hC
  obtain⟨f,rfl⟩:∃ g,f=g+1:=⟨f-1,by omega⟩
  have hk5:kd<=5:=by omega
  have wk:IntKind.i64.wrap (kd+1)=kd+1:=wrap_i64 (by omega) (by omega)
  have inner:=fun(kx':Nat->K) hx'=>da_in S dp p hp hml hN c hI L hL hLl kd kx' D hx' 42 999999999999999999999999999999 (-1) k (by omega) (by omega) (by omega) hC
  generalize hK:loopK 20 B20_w17_DirsAll _ _ kx _ (f+1)=KK
  first | (conv=>lhs;rw[B20_w17_DirsAll]) | rw[B20_w17_DirsAll]
  simp only[eG,go_sem,thq S,nbr S,zN0,zN1,zN2,zN3,zN4,zI0,zI1,zI2,zI3,reduceCtorEq,o5_58 S,hk5]
  rw[big_eq,loop_in (on S _ _ [7,10,12,13,14,15] (by decide) rfl) rfl _ _ _ _ _ _ _ _ _ rfl]
  simp only[eG,go_sem,thq S,nbr S,zN0,zN1,zN2,zN3,zN4,zI0,zI1,zI2,zI3,reduceCtorEq,o5_58 S]
  refine inner _ ?_
  intro T k' t7 t10 t12 t13 t14 hC'
  have next:=ih f (kd+1) k' (by omega) (by omega) (by omega) (hC'.row hbd)
  simp only[eG,go_sem,thq S,nbr S,zN0,zN1,zN2,zN3,zN4,zI0,zI1,zI2,zI3,reduceCtorEq,o5_58 S,t7,t10,t12,t13,t14,wk]
  rw[<-hK,loop_in (on S _ _ [7,10,12,13,14] (by decide) rfl) rfl _ _ _ _ _ _ _ _ _ rfl]
  simp only[eG,go_sem,thq S,nbr S,zN0,zN1,zN2,zN3,zN4,zI0,zI1,zI2,zI3,reduceCtorEq,o5_58 S,t7,t10,t12,t13,t14]
  exact next
theorem da_less (dp:Nat)(L:List Dir)(hs:L.Pairwise Md.ltD)(hLl:L.length<1000000)(q:AV)(kx:Nat->K)(D:Option (AV×List Blk))
  (hx:∀ T A,getS .bot T 12=.d (rowD L)->getS .bot T 13=aint L.length->kx 4 (mk .bot 129 T) A=D):
  ∀(m k f:Nat),k+m=max 1 L.length->1<=k->m<=f->
  B46_w17_DirsAll (inn E 5) (evC E fn (dp+11)) (loopK 46 B46_w17_DirsAll (inn E 5) (evC E fn (dp+11)) kx (kEnd 0 [.tmp 6]) f) kx (kEnd 0 [.tmp 6]) (mk .bot 129 [(12,.d (rowD L)),(13,aint L.length),(21,aint k)]) []=D:=by
 intro m
 induction m with
 | zero=>
  intro k f hk h1 _
  have hkl:¬(k:Int)<L.length:=by omega
  generalize loopK 46 B46_w17_DirsAll _ _ kx _ f=KK
  first | (conv=>lhs;rw[B46_w17_DirsAll]) | rw[B46_w17_DirsAll]
  simp only[eG,go_sem,thq S,nbr S,zN0,zN1,zN2,zN3,zN4,zI0,zI1,zI2,zI3,reduceCtorEq,o5_58 S,hkl]
  exact hx _ _ rfl rfl
 | succ m ih=>
  intro k f hk h1 hf
  obtain⟨f,rfl⟩:∃ g,f=g+1:=⟨f-1,by omega⟩
  have hkl:(k:Int)<L.length:=by omega
  obtain⟨b,hb⟩:=get_of (show k<L.length by omega)
  obtain⟨a,ha⟩:=get_of (show k-1<L.length by omega)
  have hab:Md.ltD a b:=by
   obtain⟨hi,rfl⟩:=List.getElem?_eq_some_iff.1 ha
   obtain⟨hj,rfl⟩:=List.getElem?_eq_some_iff.1 hb
   exact List.pairwise_iff_getElem.1 hs _ _ hi hj (by omega)
  have l1:lessM a b=true:=less_t hab
  have l2:lessM b a=false:=less_f (by unfold Md.ltD at hab;omega)
  have wk:IntKind.i64.wrap ((k:Int)-1)=((k-1:Nat):Int):=by rw[wrap_i64 (by omega) (by omega)];omega
  have next:=ih (k+1) f (by omega) (by omega) (by omega)
  generalize hK:loopK 46 B46_w17_DirsAll _ _ kx _ (f+1)=KK
  first | (conv=>lhs;rw[B46_w17_DirsAll]) | rw[B46_w17_DirsAll]
  simp only[eG,go_sem,thq S,nbr S,zN0,zN1,zN2,zN3,zN4,zI0,zI1,zI2,zI3,reduceCtorEq,o5_58 S,hkl,w_ix hb,w_ix ha,wk,c_dirs_Less S,l1,l2,Bool.not_true,Bool.not_false,wi k (by omega)]
  rw[<-hK,loop_in (on S _ _ [12,13,21] (by decide) rfl) rfl _ _ _ _ _ _ _ _ _ rfl]
  simp only[eG,go_sem,thq S,nbr S,zN0,zN1,zN2,zN3,zN4,zI0,zI1,zI2,zI3,reduceCtorEq,o5_58 S]
  exact next
theorem raw_lawAll (ha:E.prim 12=some trueG)(dp:Nat)(m l w:List Int):evC E fn (dp+12) 5 [.d (rowD m),.d (rowD l),.d (rowD w)] []=some (abool true,[]):=by
 have hp:=mk_fine m
 have hN:=mk_cells m
 have hml:=mk_ml m
 have hil:=make_il m
 obtain⟨s,s',hS,o1,o2⟩:=says_States S (dp+6) (Md.make m) (mk_ms m) hml l
 obtain⟨c,o,hW,hI⟩:=says_Walk S (dp+3) (Md.make m) hp _ hN s (o1.inv hp) w
 have cS:=fun(A:List Blk) (nb:Nat)=>Says.deep hS (np S 8 (by decide)) A nb
 have cW:=fun(A:List Blk) (nb:Nat)=>Says.deep hW (np S 9 (by decide)) A nb
 simp only[progD,progC,stateD,stateC,confD,confC] at cS cW
 obtain⟨q1,q2,q3,q4,q5,_⟩:=inv_hyps hp hI hN ⟨0,0⟩
 have g0:(Md.make m).mems.length<1073741824:=by omega
 have g2:c.buf.length<1073741824:=by omega
 have hLs:=Md.all_sorted (cellsI (Md.make m).mems) (Md.make m) c
 generalize hL:Md.all (cellsI (Md.make m).mems) (Md.make m) c=L at hLs
 have hLl:L.length<1000000:=by
  have h1:=List.length_filter_le (fun n:Nat=>Md.can (cellsI (Md.make m).mems) (Md.make m) c (n:Int)) (List.range c.buf.length)
  have h2:=List.length_filter_le (fun n:Nat=>Md.canAddr (Md.make m) c (n:Int)) (List.range c.buf.length)
  have h3:=Md.guess_le (Md.make m) c
  have h4:(bif Md.canRetire (Md.make m) c then[(⟨4,0⟩:Dir)] else[]).length<=1:=by cases Md.canRetire (Md.make m) c<;>simp
  have hb:=hI.buf
  have hw:=hp.win
  rw[<-hL]
  unfold Md.all
  simp only[List.length_append,List.length_map,List.length_range] at h1 h2 ⊢
  omega
 have hzero:(L.length:Int)=0↔¬c.end_=0:=by
  constructor
  ·intro h he
   exact Md.alive hp hI he (by rw[hL];exact List.length_eq_zero_iff.1 (by omega))
  ·intro he
   have:=Md.ends_none (N:=cellsI (Md.make m).mems) (p:=Md.make m) he
   rw[hL] at this;rw[this];rfl
 have go:=fun(kx:Nat->K) (D:Option (AV×List Blk)) hx=>da_out S dp (Md.make m) hp hml hN (by omega) c hI L hL hLl kx D hx 6 999999999999999999999999999999 0 0 (by omega) (by omega) (by omega) (Md.Cnt.begin L _ (fun e he=>by
  rw[<-hL] at he
  have:=Md.say_bounds ((Md.mem_all e).1 he)
  unfold Md.ltD
  show ¬(e.kind<0∨e.kind=0/\e.n< -1)
  omega))
 simp only[Int.cast_ofNat_Int] at go
 have go2:=fun(kx:Nat->K) (D:Option (AV×List Blk)) hx=>da_less S dp L hLs hLl (aint 0) kx D hx (max 1 L.length-1) 1 999999999999999999999999999999 (by omega) (by omega) (by omega)
 simp only[Int.cast_ofNat_Int] at go2
 show evC E fn (dp+11+1) 5 [.d (rowD m),.d (rowD l),.d (rowD w)] []=_
 rw[evC_succ,S.f_w17_DirsAll,apF_some,F_w17_DirsAll,mkF_run _ _ _ _ _ _ _ _ rfl]
 by_cases he:c.end_=0
 ·have h0 : ¬ (L.length : Int) = 0 := fun h => hzero.1 h he
  simp only[eG,go_sem,thq S,nbr S,zN0,zN1,zN2,zN3,zN4,zI0,zI1,zI2,zI3,reduceCtorEq,o5_58 S,c_w6_Make S,cS,cW,c_dirs_All S,q1,g0,g2,hL,eq_true he,h0]
  rw[big_eq,loop_in (on S _ _ [7,10,12,13,14] (by decide) rfl) rfl _ _ _ _ _ _ _ _ _ rfl]
  simp only[eG,go_sem,thq S,nbr S,zN0,zN1,zN2,zN3,zN4,zI0,zI1,zI2,zI3,reduceCtorEq,o5_58 S]
  refine go _ _ ?_
  intro T A t12 t13
  simp only[eG,go_sem,thq S,nbr S,zN0,zN1,zN2,zN3,zN4,zI0,zI1,zI2,zI3,reduceCtorEq,o5_58 S,t12,t13]
  rw[big_eq,loop_in (on S _ _ [12,13,21] (by decide) rfl) rfl _ _ _ _ _ _ _ _ _ rfl]
  simp only[eG,go_sem,thq S,nbr S,zN0,zN1,zN2,zN3,zN4,zI0,zI1,zI2,zI3,reduceCtorEq,o5_58 S,t12,t13]
  refine go2 _ _ ?_
  clear t12 t13 T A
  intro T A t12 t13
  simp only[eG,go_sem,thq S,nbr S,zN0,zN1,zN2,zN3,zN4,zI0,zI1,zI2,zI3,reduceCtorEq,o5_58 S,t12,t13,c_told ha]
 ·have h0 : (L.length : Int) = 0 := hzero.2 he
  simp only[eG,go_sem,thq S,nbr S,zN0,zN1,zN2,zN3,zN4,zI0,zI1,zI2,zI3,reduceCtorEq,o5_58 S,c_w6_Make S,cS,cW,c_dirs_All S,q1,g0,g2,hL,he,eq_true h0]
  rw[big_eq,loop_in (on S _ _ [7,10,12,13,14] (by decide) rfl) rfl _ _ _ _ _ _ _ _ _ rfl]
  simp only[eG,go_sem,thq S,nbr S,zN0,zN1,zN2,zN3,zN4,zI0,zI1,zI2,zI3,reduceCtorEq,o5_58 S]
  refine go _ _ ?_
  intro T A t12 t13
  simp only[eG,go_sem,thq S,nbr S,zN0,zN1,zN2,zN3,zN4,zI0,zI1,zI2,zI3,reduceCtorEq,o5_58 S,t12,t13]
  rw[big_eq,loop_in (on S _ _ [12,13,21] (by decide) rfl) rfl _ _ _ _ _ _ _ _ _ rfl]
  simp only[eG,go_sem,thq S,nbr S,zN0,zN1,zN2,zN3,zN4,zI0,zI1,zI2,zI3,reduceCtorEq,o5_58 S,t12,t13]
  refine go2 _ _ ?_
  clear t12 t13 T A
  intro T A t12 t13
  simp only[eG,go_sem,thq S,nbr S,zN0,zN1,zN2,zN3,zN4,zI0,zI1,zI2,zI3,reduceCtorEq,o5_58 S,t12,t13,c_told ha]
end
end Go.Aug.Mc
