import Derived.Test.YtogckbgcldmaeaaMc11
import Derived.Test.YtogckbgcldmaeaaBo
namespace Go.Aug.Mc
open Go Go.Aug
set_option linter.unusedSimpArgs false
set_option linter.unusedVariables false
set_option maxHeartbeats 40000000
variable {E:Env} {fn:FuncId->Option (Env->CallT->CallT)}
section
variable (S:Sur E fn)
include S
end
open Nat renaming reduceLT -> zN0, reduceEqDiff -> zN1, reduceAdd -> zN2, reduceMul -> zN3, reduceLeDiff -> zN4
open Int renaming reduceEq -> zI0, reduceLT -> zI1, reduceLE -> zI2, reduceNeg -> zI3
section
variable (S:Sur E fn)
include S
theorem of_53_Bo2:E.lives 53 1=none:=off S 53 1 (by decide) rfl
theorem loop_rCells (dp:Nat)(p:Prog)(hl:p.mems.length<1073741824)(hr:∀ m ∈ p.mems,0<=m.n/\m.n<=16)(kx:Nat->K)(kr:K):∀ m k f,k+m=p.mems.length->m<=f->
  B8_r7_Cells (inn E 53) (evC E fn dp) (loopK 8 B8_r7_Cells (inn E 53) (evC E fn dp) kx kr f) kx kr (mk .bot 21 [(1,.ref 0 0 0),(3,aint (cellsI (p.mems.take k))),(4,aint k)]) [.cells ((progC p).map .d) 0 false]=
  kx 0 (mk .bot 21 [(9,abool false),(8,aint p.mems.length),(7,.d (rowD p.mems)),(6,.ref 0 0 7),(5,aint p.mems.length),(1,.ref 0 0 0),(3,aint (cellsI p.mems)),(4,aint p.mems.length)]) [.cells ((progC p).map .d) 0 false]:=by
 intro m
 induction m with
 | zero=>
  intro k f hk _
  obtain rfl:k=p.mems.length:=by omega
  generalize loopK 8 B8_r7_Cells _ _ kx kr f=KK
  rw[B8_r7_Cells,List.take_of_length_le (by omega)]
  simp only[eG,go_sem,thq S,nbr S,zN0,zN1,zN2,zN3,zN4,zI0,zI1,zI2,zI3,reduceCtorEq,of_53_Bo2 S,Int.lt_irrefl]
 | succ m ih=>
  intro k f hk hf
  obtain⟨e,he⟩:=get_of (show k<p.mems.length by omega)
  obtain⟨f,rfl⟩:∃ g,f=g+1:=⟨f-1,by omega⟩
  generalize hK:loopK 8 B8_r7_Cells _ _ kx kr (f+1)=KK
  rw[B8_r7_Cells]
  have hb:=cellsI_le (p.mems.take k)
  have hbl:(p.mems.take k).length<=p.mems.length:=by simp;omega
  have hen:=hr e (List.mem_of_getElem? he)
  have hw:IntKind.i64.wrap (cellsI (p.mems.take k)+e.n)=cellsI (p.mems.take (k+1)):=by
   rw[cellsI_take he,Int.max_eq_left hen.1,Int.min_eq_left hen.2]
   exact wrap_i64 (by omega) (by omega)
  simp only[eG,go_sem,thq S,nbr S,zN0,zN1,zN2,zN3,zN4,zI0,zI1,zI2,zI3,reduceCtorEq,of_53_Bo2 S,show(k:Int)<p.mems.length by omega,w_ix he,wi k (by omega),hw]
  rw[<-hK,loop_in (on S _ _ [1,3,4] (by decide) rfl) rfl _ _ _ _ _ _ _ _ _ rfl]
  simp only[eG,go_sem,thq S,nbr S,zN0,zN1,zN2,zN3,zN4,zI0,zI1,zI2,zI3,reduceCtorEq,of_53_Bo2 S]
  exact ih (k+1) f (by omega) (by omega)
theorem raw_r7_Cells (dp:Nat)(p:Prog)(hl:p.mems.length<1073741824)(hr:∀ m ∈ p.mems,0<=m.n/\m.n<=16):Says E fn (dp+1) 53 [progD p] (vi (cellsI p.mems)):=by
 unfold Says
 show ansOf (evC E fn (dp+1) 53 [.d (progD p)] [])=_
 rw[evC_succ,S.f_r7_Cells,apF_some,F_r7_Cells,mkF_run _ _ _ _ _ _ _ _ rfl]
 simp only[eG,go_sem,thq S,nbr S,zN0,zN1,zN2,zN3,zN4,zI0,zI1,zI2,zI3,reduceCtorEq,of_53_Bo2 S]
 rw[big_eq,loop_in (on S _ _ [1,3,4] (by decide) rfl) rfl _ _ _ _ _ _ _ _ _ rfl]
 simp only[eG,go_sem,thq S,nbr S,zN0,zN1,zN2,zN3,zN4,zI0,zI1,zI2,zI3,reduceCtorEq,of_53_Bo2 S]
 have:=fun kx kr=>loop_rCells S dp p hl hr kx kr p.mems.length 0 999999999999999999999999999999 (by omega) (by omega)
 simp only[go_sem,List.take_zero,Int.cast_ofNat_Int,show cellsI ([]:List MemT)=0 from rfl] at this
 rw[this]
 simp only[eG,go_sem,thq S,nbr S,zN0,zN1,zN2,zN3,zN4,zI0,zI1,zI2,zI3,reduceCtorEq,of_53_Bo2 S]
end
set_option maxRecDepth 200000
def PlOk (n:Int)(q:List Place):Prop:=∀ x ∈ q,(x.reg=true->0<=x.n/\x.n<4)/\(x.reg=false->0<=x.n/\x.n<n)
theorem PlOk.app {n:Int}{q:List Place}(h:PlOk n q){x:Place}(h1:x.reg=true->0<=x.n/\x.n<4)(h2:x.reg=false->0<=x.n/\x.n<n):PlOk n (q++[x]):=by
 intro y hy
 rcases List.mem_append.1 hy with hy | hy
 ·exact h y hy
 ·simp at hy;subst hy;exact⟨h1,h2⟩
def plR (p:Prog):Nat->Nat->List Place->List Place
 | 0,_,q=>q
 | m+1,k,q=>plR p m (k+1) (if Md.getR p.regs k=0 then q else q++[⟨true,(k:Int),decide (Md.getR p.regs k=2)⟩])
def plC (s:Bool):Nat->Int->List Place->List Place
 | 0,_,q=>q
 | m+1,a,q=>plC s m (a+1) (q++[⟨false,a,s⟩])
def plM:List MemT->Int->List Place->List Place
 | [],_,q=>q
 | e::l,a,q=>plM l (a+e.n) (plC e.secret e.n.toNat a q)
def places (p:Prog):List Place:=plM p.mems 0 (plR p 4 0 [])
theorem cellsI_mono (l:List MemT)(i:Nat):cellsI (l.take i)<=cellsI l:=by
 have h:cellsI l=cellsI (l.take i)+cellsI (l.drop i):=by
  unfold cellsI
  rw[<-List.sum_append,<-List.map_append,List.take_append_drop]
 have:=(cellsI_le (l.drop i)).1
 omega
theorem app_endP {A:List Blk}{bytes j v:Nat}{out:List Place}{a b:Bool}{n:Int}(hA:A[j]? =some (.cells ((rowC out).map .d) v false))(h1:(out.length+1)*bytes<=limA)(h2:out.length+1<=limA):
  evApp A 3 bytes (.sref j v 0 out.length 3 none) [.d (vb a),.d (vi n),.d (vb b)] 1=some (.turn j (.cells ((rowC (out++[⟨a,n,b⟩])).map .d) (v+1) false) (.sref j (v+1) 0 (out.length+1) 3 none)):=
 app_end (x:=(⟨a,n,b⟩:Place)) hA rfl (by decide) rfl h1 h2
theorem nc3 (A:List Blk)(x y z:DV)(k:Option Nat):newCells A false 3 (.d (.lst [x,y,z] 1 k))=some ([.d x,.d y,.d z],1):=rfl
theorem ne_app' {α:Type}(o:List α)(x:α):(o++[x]).length≠0:=by simp
theorem own0A' {α:Type} [Cl α] {l:List α}(h:l.length=0)(i:Nat):ownA i l=.d (.lst [] 0 (some 0)):=by rw[List.length_eq_zero_iff.1 h];rfl
theorem own0B' {α:Type} [Cl α] {l:List α}(h:l.length=0):ownB l=[]:=by rw[List.length_eq_zero_iff.1 h];rfl
variable {E:Env} {fn:FuncId->Option (Env->CallT->CallT)}
section
variable (S:Sur E fn)
include S
theorem o72_37:E.lives 72 1=none/\E.lives 72 15=none:=⟨off S 72 1 (by decide) rfl,off S 72 15 (by decide) rfl⟩
theorem pl1 (dp:Nat)(N:Int)(p:Prog)(kx:Nat->K)(P:Option DV->Prop)(Q:List Place)
  (hx:∀ T q,getS .bot T 1=.ref 0 0 0->getS .bot T 3=ownA 1 (q:List Place)->PlOk N q->q.length<=4->q=Q->P (ansOf (kx 0 (mk .bot 58 T) ([.cells ((progC p).map .d) 0 false]++ownB q)))):
  ∀(m k f:Nat) (q:List Place),k+m=4->m<=f->PlOk N q->q.length<=k->plR p m k q=Q->
  P (ansOf (B8_r7_Places (inn E 72) (evC E fn dp) (loopK 8 B8_r7_Places (inn E 72) (evC E fn dp) kx (kEnd 0 [.tmp 2]) f) kx (kEnd 0 [.tmp 2]) (mk .bot 58 [(1,.ref 0 0 0),(3,ownA 1 q),(4,aint k)]) ([.cells ((progC p).map .d) 0 false]++ownB q))):=by
 intro m
 induction m with
 | zero=>
  intro k f q hk _ hq hl hQ
  obtain rfl:k=4:=by omega
  generalize loopK 8 B8_r7_Places _ _ kx _ f=KK
  first | (conv=>lhs;rw[B8_r7_Places]) | rw[B8_r7_Places]
  by_cases h0:q.length=0
  ·rw [own0A' h0, own0B' h0]
   have:=fun T a b=>hx T q a (by rw[own0A' h0];exact b) hq (by omega) hQ
   rw[own0B' h0] at this
   simp only[eG,go_sem,thq S,nbr S,zN0,zN1,zN2,zN3,zN4,zI0,zI1,zI2,zI3,reduceCtorEq,o72_37 S,Int.cast_ofNat_Int]
   exact this _ rfl rfl
  ·rw [ownA_ne h0, ownB_ne h0]
   have:=fun T a b=>hx T q a (by rw[ownA_ne h0];exact b) hq (by omega) hQ
   rw[ownB_ne h0] at this
   simp only[eG,go_sem,thq S,nbr S,zN0,zN1,zN2,zN3,zN4,zI0,zI1,zI2,zI3,reduceCtorEq,o72_37 S,Int.cast_ofNat_Int]
   exact this _ rfl rfl
 | succ m ih=>
  intro k f q hk hf hq hl hQ
  obtain⟨f,rfl⟩:∃ g,f=g+1:=⟨f-1,by omega⟩
  generalize hK:loopK 8 B8_r7_Places _ _ kx _ (f+1)=KK
  first | (conv=>lhs;rw[B8_r7_Places]) | rw[B8_r7_Places]
  have lim:limA=1099511627776:=rfl
  have k1:(q.length+1)*24<=limA:=by omega
  have k2:q.length+1<=limA:=by omega
  have skip:=fun(h:Md.getR p.regs k=0)=>ih (k+1) f q (by omega) (by omega) hq (by omega) (by rw[<-hQ,plR,if_pos h])
  have put:=fun(h:¬Md.getR p.regs k=0)=>ih (k+1) f (q++[⟨true,(k:Int),decide (Md.getR p.regs k=2)⟩]) (by omega) (by omega) (hq.app (fun _=>by constructor<;>(show _;simp only;omega)) (fun h=>by cases h)) (by simp;omega) (by rw[<-hQ,plR,if_neg h])
  simp only[ownA_ne (ne_app' _ _),ownB_ne (ne_app' _ _),List.length_append,List.length_singleton] at put
  have hk4:k=0∨k=1∨k=2∨k=3:=by omega
  have hk5:(k:Int)<4:=by omega
  have hld:takeVar false 1 ([AV.d (vi p.w),AV.d (vi p.window),AV.d (vi p.fuel),AV.d (vi p.regs.r0),AV.d (vi p.regs.r1),AV.d (vi p.regs.r2),AV.d (vi p.regs.r3),AV.d (rowD p.mems),AV.d (rowD p.labels),AV.d (rowD p.ins)].drop (3+k*1))=some (.d (vi (Md.getR p.regs k))):=by
   rcases hk4 with rfl | rfl | rfl | rfl<;>rfl
  clear hQ
  generalize Md.getR p.regs k=r at hld skip put
  by_cases h0:q.length=0
  ·have hq0 : q = [] := List.length_eq_zero_iff.1 h0
   subst hq0
   simp only[ownA_nil,ownB_nil,List.append_nil] at skip ⊢
   by_cases hr:r=0
   ·simp only [eG, go_sem, thq S, nbr S, zN0, zN1, zN2, zN3, zN4, zI0, zI1, zI2, zI3, reduceCtorEq, o72_37 S, sw_t, sw_s, dl_nil, dl_cons, rep1', nc3, app_endP, Option.map_some, Nat.zero_add, Nat.one_mul, Nat.zero_mul, and_self, true_and, and_true, show (0 : Nat) < 1 by decide, show (1 : Nat) * 24 <= limA by decide, show (24 : Nat) <= limA by decide, show (1 : Nat) <= limA by decide, Int.cast_ofNat_Int, Int.reduceToNat, Int.toNat_zero, Int.reduceMul, hld, eq_true hr, hk5, Int.natCast_nonneg, Int.toNat_natCast, wi k (by omega)]
    rw[<-hK,loop_in (on S _ _ [1,3,4] (by decide) rfl) rfl _ _ _ _ _ _ _ _ _ rfl]
    simp only[eG,go_sem,thq S,nbr S,zN0,zN1,zN2,zN3,zN4,zI0,zI1,zI2,zI3,reduceCtorEq,o72_37 S]
    exact skip hr
   ·simp only [eG, go_sem, thq S, nbr S, zN0, zN1, zN2, zN3, zN4, zI0, zI1, zI2, zI3, reduceCtorEq, o72_37 S, sw_t, sw_s, dl_nil, dl_cons, rep1', nc3, app_endP, Option.map_some, Nat.zero_add, Nat.one_mul, Nat.zero_mul, and_self, true_and, and_true, show (0 : Nat) < 1 by decide, show (1 : Nat) * 24 <= limA by decide, show (24 : Nat) <= limA by decide, show (1 : Nat) <= limA by decide, Int.cast_ofNat_Int, Int.reduceToNat, Int.toNat_zero, Int.reduceMul, hld, hr, hk5, Int.natCast_nonneg, Int.toNat_natCast, wi k (by omega)]
    rw[<-hK,loop_in (on S _ _ [1,3,4] (by decide) rfl) rfl _ _ _ _ _ _ _ _ _ rfl]
    simp only[eG,go_sem,thq S,nbr S,zN0,zN1,zN2,zN3,zN4,zI0,zI1,zI2,zI3,reduceCtorEq,o72_37 S]
    exact put hr
  ·simp only [ownA_ne h0, ownB_ne h0] at skip ⊢
   by_cases hr:r=0
   ·simp only [eG, go_sem, thq S, nbr S, zN0, zN1, zN2, zN3, zN4, zI0, zI1, zI2, zI3, reduceCtorEq, o72_37 S, sw_t, sw_s, dl_nil, dl_cons, rep1', nc3, app_endP, Option.map_some, Nat.zero_add, Nat.one_mul, Nat.zero_mul, and_self, true_and, and_true, show (0 : Nat) < 1 by decide, show (1 : Nat) * 24 <= limA by decide, show (24 : Nat) <= limA by decide, show (1 : Nat) <= limA by decide, Int.cast_ofNat_Int, Int.reduceToNat, Int.toNat_zero, Int.reduceMul, hld, eq_true hr, hk5, Int.natCast_nonneg, Int.toNat_natCast, wi k (by omega)]
    rw[<-hK,loop_in (on S _ _ [1,3,4] (by decide) rfl) rfl _ _ _ _ _ _ _ _ _ rfl]
    simp only[eG,go_sem,thq S,nbr S,zN0,zN1,zN2,zN3,zN4,zI0,zI1,zI2,zI3,reduceCtorEq,o72_37 S]
    exact skip hr
   ·simp only [eG, go_sem, thq S, nbr S, zN0, zN1, zN2, zN3, zN4, zI0, zI1, zI2, zI3, reduceCtorEq, o72_37 S, sw_t, sw_s, dl_nil, dl_cons, rep1', nc3, app_endP, Option.map_some, Nat.zero_add, Nat.one_mul, Nat.zero_mul, and_self, true_and, and_true, show (0 : Nat) < 1 by decide, show (1 : Nat) * 24 <= limA by decide, show (24 : Nat) <= limA by decide, show (1 : Nat) <= limA by decide, Int.cast_ofNat_Int, Int.reduceToNat, Int.toNat_zero, Int.reduceMul, hld, hr, hk5, Int.natCast_nonneg, Int.toNat_natCast, wi k (by omega), k1, k2]
    rw[<-hK,loop_in (on S _ _ [1,3,4] (by decide) rfl) rfl _ _ _ _ _ _ _ _ _ rfl]
    simp only[eG,go_sem,thq S,nbr S,zN0,zN1,zN2,zN3,zN4,zI0,zI1,zI2,zI3,reduceCtorEq,o72_37 S]
    exact put hr
theorem pl3 (dp:Nat)(p:Prog)(hms:∀ m ∈ p.mems,0<=m.n/\m.n<=16)(hml:p.mems.length<1000)(i:Nat)(e:MemT)(he:p.mems[i]? =some e)(kx:Nat->K)(P:Option DV->Prop)(Q:List Place)
  (hx:∀ T q,getS .bot T 1=.ref 0 0 0->getS .bot T 3=ownA 1 (q:List Place)->getS .bot T 5=aint (cellsI (p.mems.take (i+1)))->getS .bot T 6=aint i->PlOk (cellsI p.mems) q->(q.length:Int)<=4+cellsI (p.mems.take (i+1))->q=Q->P (ansOf (kx 4 (mk .bot 58 T) ([.cells ((progC p).map .d) 0 false]++ownB q)))):
  ∀(m k f:Nat) (q:List Place),((k+m:Nat):Int)=e.n->m<=f->PlOk (cellsI p.mems) q->(q.length:Int)<=4+cellsI (p.mems.take i)+k->plC e.secret m (cellsI (p.mems.take i)+k) q=Q->
  P (ansOf (B26_r7_Places (inn E 72) (evC E fn dp) (loopK 26 B26_r7_Places (inn E 72) (evC E fn dp) kx (kEnd 0 [.tmp 2]) f) kx (kEnd 0 [.tmp 2]) (mk .bot 58 [(1,.ref 0 0 0),(3,ownA 1 q),(5,aint (cellsI (p.mems.take i)+k)),(6,aint i),(7,aint k)]) ([.cells ((progC p).map .d) 0 false]++ownB q))):=by
 have hen:=hms e (List.mem_of_getElem? he)
 have hS:cellsI (p.mems.take (i+1))=cellsI (p.mems.take i)+e.n:=by rw[cellsI_take he,Int.max_eq_left hen.1,Int.min_eq_left hen.2]
 have hS0:=cellsI_le (p.mems.take i)
 have hSl:(p.mems.take i).length<=p.mems.length:=by simp;omega
 have hSm:=cellsI_mono p.mems (i+1)
 have lim:limA=1099511627776:=rfl
 intro m
 induction m with
 | zero=>
  intro k f q hk _ hq hl hQ
  have hkn:¬(k:Int)<e.n:=by omega
  have hat:cellsI (p.mems.take i)+(k:Int)=cellsI (p.mems.take (i+1)):=by omega
  rw[hat]
  generalize loopK 26 B26_r7_Places _ _ kx _ f=KK
  first | (conv=>lhs;rw[B26_r7_Places]) | rw[B26_r7_Places]
  by_cases h0:q.length=0
  ·have := fun T a b c d => hx T q a (by rw [own0A' h0]; exact b) c d hq (by omega) hQ
   rw[own0B' h0] at this
   rw[own0A' h0,own0B' h0]
   simp only[eG,go_sem,thq S,nbr S,zN0,zN1,zN2,zN3,zN4,zI0,zI1,zI2,zI3,reduceCtorEq,o72_37 S,w_ix he,hkn]
   exact this _ rfl rfl rfl rfl
  ·have := fun T a b c d => hx T q a (by rw [ownA_ne h0]; exact b) c d hq (by omega) hQ
   rw[ownB_ne h0] at this
   rw[ownA_ne h0,ownB_ne h0]
   simp only[eG,go_sem,thq S,nbr S,zN0,zN1,zN2,zN3,zN4,zI0,zI1,zI2,zI3,reduceCtorEq,o72_37 S,w_ix he,hkn]
   exact this _ rfl rfl rfl rfl
 | succ m ih=>
  intro k f q hk hf hq hl hQ
  obtain⟨f,rfl⟩:∃ g,f=g+1:=⟨f-1,by omega⟩
  have hkn:(k:Int)<e.n:=by omega
  generalize hK:loopK 26 B26_r7_Places _ _ kx _ (f+1)=KK
  first | (conv=>lhs;rw[B26_r7_Places]) | rw[B26_r7_Places]
  have k1:(q.length+1)*24<=limA:=by omega
  have k2:q.length+1<=limA:=by omega
  have wat:IntKind.i64.wrap (cellsI (p.mems.take i)+(k:Int)+1)=cellsI (p.mems.take i)+((k+1:Nat):Int):=by rw[wrap_i64 (by omega) (by omega)];omega
  have put:=ih (k+1) f (q++[⟨false,cellsI (p.mems.take i)+(k:Int),e.secret⟩]) (by omega) (by omega) (hq.app (fun h=>by cases h) (fun _=>by constructor<;>(show _;simp only;omega))) (by simp;omega) (by rw[<-hQ,plC];congr 1;omega)
  simp only[ownA_ne (ne_app' _ _),ownB_ne (ne_app' _ _)] at put
  rw[List.length_append,List.length_singleton] at put
  by_cases h0:q.length=0
  ·have hq0 : q = [] := List.length_eq_zero_iff.1 h0
   subst hq0
   rw[ownA_nil,ownB_nil,List.append_nil]
   simp only[eG,go_sem,thq S,nbr S,zN0,zN1,zN2,zN3,zN4,zI0,zI1,zI2,zI3,reduceCtorEq,o72_37 S,sw_t,sw_s,dl_nil,dl_cons,rep1',nc3,app_endP,Option.map_some,Nat.zero_add,Nat.one_mul,Nat.zero_mul,and_self,true_and,and_true,show(0:Nat)<1 by decide,show(1:Nat)*24<=limA by decide,show(24:Nat)<=limA by decide,show(1:Nat)<=limA by decide,Int.cast_ofNat_Int,Int.reduceToNat,Int.toNat_zero,Int.reduceMul,w_ix he,hkn,wi k (by omega),wat]
   rw[<-hK,loop_in (on S _ _ [1,3,5,6,7] (by decide) rfl) rfl _ _ _ _ _ _ _ _ _ rfl]
   simp only[eG,go_sem,thq S,nbr S,zN0,zN1,zN2,zN3,zN4,zI0,zI1,zI2,zI3,reduceCtorEq,o72_37 S]
   exact put
  ·rw [ownA_ne h0, ownB_ne h0]
   simp only[eG,go_sem,thq S,nbr S,zN0,zN1,zN2,zN3,zN4,zI0,zI1,zI2,zI3,reduceCtorEq,o72_37 S,sw_t,sw_s,dl_nil,dl_cons,rep1',nc3,app_endP,Option.map_some,Nat.zero_add,Nat.one_mul,Nat.zero_mul,and_self,true_and,and_true,show(0:Nat)<1 by decide,show(1:Nat)*24<=limA by decide,show(24:Nat)<=limA by decide,show(1:Nat)<=limA by decide,Int.cast_ofNat_Int,Int.reduceToNat,Int.toNat_zero,Int.reduceMul,w_ix he,hkn,wi k (by omega),wat,k1,k2]
   rw[<-hK,loop_in (on S _ _ [1,3,5,6,7] (by decide) rfl) rfl _ _ _ _ _ _ _ _ _ rfl]
   simp only[eG,go_sem,thq S,nbr S,zN0,zN1,zN2,zN3,zN4,zI0,zI1,zI2,zI3,reduceCtorEq,o72_37 S]
   exact put
theorem pl2 (dp:Nat)(p:Prog)(hms:∀ m ∈ p.mems,0<=m.n/\m.n<=16)(hml:p.mems.length<1000)(kx:Nat->K)(P:Option DV->Prop)(Q:List Place)
  (hx:∀ T q,getS .bot T 3=ownA 1 (q:List Place)->PlOk (cellsI p.mems) q->q.length<=20000->q=Q->P (ansOf (kx 2 (mk .bot 58 T) ([.cells ((progC p).map .d) 0 false]++ownB q)))):
  ∀(m i f:Nat) (q:List Place),i+m=p.mems.length->m<=f->PlOk (cellsI p.mems) q->(q.length:Int)<=4+cellsI (p.mems.take i)->plM (p.mems.drop i) (cellsI (p.mems.take i)) q=Q->
  P (ansOf (B20_r7_Places (inn E 72) (evC E fn dp) (loopK 20 B20_r7_Places (inn E 72) (evC E fn dp) kx (kEnd 0 [.tmp 2]) f) kx (kEnd 0 [.tmp 2]) (mk .bot 58 [(1,.ref 0 0 0),(3,ownA 1 q),(5,aint (cellsI (p.mems.take i))),(6,aint i)]) ([.cells ((progC p).map .d) 0 false]++ownB q))):=by
 intro m
 induction m with
 | zero=>
  intro i f q hk _ hq hl hQ
  rw[List.drop_of_length_le (by omega)] at hQ
  have hb:=cellsI_le (p.mems.take i)
  have hbl:(p.mems.take i).length<=p.mems.length:=by simp;omega
  have hin:¬(i:Int)<p.mems.length:=by omega
  generalize loopK 20 B20_r7_Places _ _ kx _ f=KK
  first | (conv=>lhs;rw[B20_r7_Places]) | rw[B20_r7_Places]
  by_cases h0:q.length=0
  ·have := fun T b => hx T q (by rw [own0A' h0]; exact b) hq (by omega) hQ
   rw[own0B' h0] at this
   rw[own0A' h0,own0B' h0]
   simp only[eG,go_sem,thq S,nbr S,zN0,zN1,zN2,zN3,zN4,zI0,zI1,zI2,zI3,reduceCtorEq,o72_37 S,hin]
   exact this _ rfl
  ·have := fun T b => hx T q (by rw [ownA_ne h0]; exact b) hq (by omega) hQ
   rw[ownB_ne h0] at this
   rw[ownA_ne h0,ownB_ne h0]
   simp only[eG,go_sem,thq S,nbr S,zN0,zN1,zN2,zN3,zN4,zI0,zI1,zI2,zI3,reduceCtorEq,o72_37 S,hin]
   exact this _ rfl
 | succ m ih=>
  intro i f q hk hf hq hl hQ
  obtain⟨e,he⟩:=get_of (show i<p.mems.length by omega)
  obtain⟨f,rfl⟩:∃ g,f=g+1:=⟨f-1,by omega⟩
  have hin:(i:Int)<p.mems.length:=by omega
  have hen:=hms e (List.mem_of_getElem? he)
  generalize hK:loopK 20 B20_r7_Places _ _ kx _ (f+1)=KK
  first | (conv=>lhs;rw[B20_r7_Places]) | rw[B20_r7_Places]
  have hS:cellsI (p.mems.take (i+1))=cellsI (p.mems.take i)+e.n:=by rw[cellsI_take he,Int.max_eq_left hen.1,Int.min_eq_left hen.2]
  have hQ':plM (p.mems.drop (i+1)) (cellsI (p.mems.take (i+1))) (plC e.secret e.n.toNat (cellsI (p.mems.take i)) q)=Q:=by rw[<-hQ,drop_get he,plM,hS]
  have inner:=fun(kx':Nat->K) hx'=>pl3 S dp p hms hml i e he kx' P (plC e.secret e.n.toNat (cellsI (p.mems.take i)) q) hx' e.n.toNat 0 999999999999999999999999999999 q (by omega) (by omega) hq (by omega) (by simp)
  by_cases h0:q.length=0
  ·rw [own0A' h0, own0B' h0]
   simp only[own0A' h0,own0B' h0,Int.cast_ofNat_Int,Int.add_zero] at inner
   simp only[eG,go_sem,thq S,nbr S,zN0,zN1,zN2,zN3,zN4,zI0,zI1,zI2,zI3,reduceCtorEq,o72_37 S,hin]
   rw[big_eq,loop_in (on S _ _ [1,3,5,6,7] (by decide) rfl) rfl _ _ _ _ _ _ _ _ _ rfl]
   simp only[eG,go_sem,thq S,nbr S,zN0,zN1,zN2,zN3,zN4,zI0,zI1,zI2,zI3,reduceCtorEq,o72_37 S]
   refine inner _ ?_
   intro T q' t1 t3 t5 t6 hq' hl' hQq
   have next:=ih (i+1) f q' (by omega) (by omega) hq' hl' (by rw[hQq];exact hQ')
   by_cases h1:q'.length=0
   ·rw [own0A' h1] at t3
    rw[own0B' h1]
    rw[own0A' h1,own0B' h1] at next
    simp only[eG,go_sem,thq S,nbr S,zN0,zN1,zN2,zN3,zN4,zI0,zI1,zI2,zI3,reduceCtorEq,o72_37 S,t1,t3,t5,t6,wi i (by omega)]
    rw[<-hK,loop_in (on S _ _ [1,3,5,6] (by decide) rfl) rfl _ _ _ _ _ _ _ _ _ rfl]
    simp only[eG,go_sem,thq S,nbr S,zN0,zN1,zN2,zN3,zN4,zI0,zI1,zI2,zI3,reduceCtorEq,o72_37 S,t1,t3,t5,t6]
    exact next
   ·rw [ownA_ne h1] at t3
    rw[ownB_ne h1]
    rw[ownA_ne h1,ownB_ne h1] at next
    simp only[eG,go_sem,thq S,nbr S,zN0,zN1,zN2,zN3,zN4,zI0,zI1,zI2,zI3,reduceCtorEq,o72_37 S,t1,t3,t5,t6,wi i (by omega)]
    rw[<-hK,loop_in (on S _ _ [1,3,5,6] (by decide) rfl) rfl _ _ _ _ _ _ _ _ _ rfl]
    simp only[eG,go_sem,thq S,nbr S,zN0,zN1,zN2,zN3,zN4,zI0,zI1,zI2,zI3,reduceCtorEq,o72_37 S,t1,t3,t5,t6]
    exact next
  ·rw [ownA_ne h0, ownB_ne h0]
   simp only[ownA_ne h0,ownB_ne h0,Int.cast_ofNat_Int,Int.add_zero] at inner
   simp only[eG,go_sem,thq S,nbr S,zN0,zN1,zN2,zN3,zN4,zI0,zI1,zI2,zI3,reduceCtorEq,o72_37 S,hin]
   rw[big_eq,loop_in (on S _ _ [1,3,5,6,7] (by decide) rfl) rfl _ _ _ _ _ _ _ _ _ rfl]
   simp only[eG,go_sem,thq S,nbr S,zN0,zN1,zN2,zN3,zN4,zI0,zI1,zI2,zI3,reduceCtorEq,o72_37 S]
   refine inner _ ?_
   intro T q' t1 t3 t5 t6 hq' hl' hQq
   have next:=ih (i+1) f q' (by omega) (by omega) hq' hl' (by rw[hQq];exact hQ')
   by_cases h1:q'.length=0
   ·rw [own0A' h1] at t3
    rw[own0B' h1]
    rw[own0A' h1,own0B' h1] at next
    simp only[eG,go_sem,thq S,nbr S,zN0,zN1,zN2,zN3,zN4,zI0,zI1,zI2,zI3,reduceCtorEq,o72_37 S,t1,t3,t5,t6,wi i (by omega)]
    rw[<-hK,loop_in (on S _ _ [1,3,5,6] (by decide) rfl) rfl _ _ _ _ _ _ _ _ _ rfl]
    simp only[eG,go_sem,thq S,nbr S,zN0,zN1,zN2,zN3,zN4,zI0,zI1,zI2,zI3,reduceCtorEq,o72_37 S,t1,t3,t5,t6]
    exact next
   ·rw [ownA_ne h1] at t3
    rw[ownB_ne h1]
    rw[ownA_ne h1,ownB_ne h1] at next
    simp only[eG,go_sem,thq S,nbr S,zN0,zN1,zN2,zN3,zN4,zI0,zI1,zI2,zI3,reduceCtorEq,o72_37 S,t1,t3,t5,t6,wi i (by omega)]
    rw[<-hK,loop_in (on S _ _ [1,3,5,6] (by decide) rfl) rfl _ _ _ _ _ _ _ _ _ rfl]
    simp only[eG,go_sem,thq S,nbr S,zN0,zN1,zN2,zN3,zN4,zI0,zI1,zI2,zI3,reduceCtorEq,o72_37 S,t1,t3,t5,t6]
    exact next
end
end Go.Aug.Mc
