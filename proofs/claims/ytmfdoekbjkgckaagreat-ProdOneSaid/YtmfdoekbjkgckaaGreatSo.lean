import Derived.Test.YtmfdoekbjkgckaaGreatEvM
import Derived.Shelf.SlSortCmp.NoneTotal
namespace Go.Aug
open Go Go.RowKit
set_option linter.unusedVariables false
set_option linter.unusedSimpArgs false
def Q7 (x y:Int×Int):Bool:=decide (x.1<y.1) || (decide (x.1=y.1)&&decide (x.2<y.2))
def G0 (x y:Int×Int):Int:=if Lib.compareInt x.1 y.1=0 then Lib.compareInt x.2 y.2 else Lib.compareInt x.1 y.1
theorem T2 (x y:Int×Int):Go.Proofs.ltOf G0 x y=Q7 x y:=by
 unfold Go.Proofs.ltOf G0 Lib.compareInt Q7
 rcases Int.lt_trichotomy x.1 y.1 with h | h | h
 ·have h2 : ¬ x.1 = y.1 := by omega
  simp[h,h2]
 ·have h2 : ¬ x.1 < y.1 := by omega
  have h3:¬x.1>y.1:=by omega
  rcases Int.lt_trichotomy x.2 y.2 with k | k | k
  ·simp[h2,h3,h,k]
  ·have k2 : ¬ x.2 < y.2 := by omega
   have k3:¬x.2>y.2:=by omega
   simp[h2,h3,h,k2,k3]
  ·have k2 : ¬ x.2 < y.2 := by omega
   simp[h2,h3,h,k,k2]
 ·have h2 : ¬ x.1 < y.1 := by omega
  have h3:¬x.1=y.1:=by omega
  simp[h,h2,h3]
theorem Zn2:Go.Sort.SWO (Go.Proofs.ltOf G0) where
 irrefl x:=by rw[T2];unfold Q7;simp
 trans x y z h1 h2:=by rw[T2] at *;unfold Q7 at *;simp at *;omega
 ntrans x y z h1 h2:=by rw[T2] at *;unfold Q7 at *;simp at *;omega
theorem Zn1 (x y:Int×Int)(h1:Go.Proofs.ltOf G0 x y=false)(h2:Go.Proofs.ltOf G0 y x=false):x=y:=by
 rw[T2] at *
 unfold Q7 at *
 simp at h1 h2
 exact Prod.ext (by omega) (by omega)
def RF (x:Int×Int):List (Int×Int)->List (Int×Int)
 | []=>[x]
 | y::l=>bif Q7 y x then y::RF x l else x::y::l
def JD:List (Int×Int)->List (Int×Int)
 | []=>[]
 | x::l=>RF x (JD l)
theorem Z10 (x:Int×Int):∀ l,(RF x l).Perm (x::l)
 | []=>.refl _
 | y::l=>by
  unfold RF
  cases Q7 y x with
  | true=>exact((Z10 x l).cons y).trans (.swap x y l)
  | false=>exact .refl _
theorem Sk:∀ l,(JD l).Perm l
 | []=>.refl _
 | x::l=>(Z10 x (JD l)).trans ((Sk l).cons x)
def Dw (x y:Int×Int):Prop:=Q7 y x=false
theorem Z6l {x y z:Int×Int}(h1:Dw x y)(h2:Dw y z):Dw x z:=by
 unfold Dw Q7 at *
 simp at *
 omega
theorem Z70 (x:Int×Int):∀ l,l.Pairwise Dw->(RF x l).Pairwise Dw
 | [],_=>List.pairwise_singleton _ _
 | y::l,h=>by
  unfold RF
  obtain⟨h1,h2⟩:=List.pairwise_cons.1 h
  cases e:Q7 y x with
  | true=>
   refine List.pairwise_cons.2 ⟨fun z hz=> ?_,Z70 x l h2⟩
   rcases List.mem_cons.1 ((Z10 x l).mem_iff.1 hz) with rfl | hz
   ·unfold Dw Q7 at *
    simp at *
    omega
   ·exact h1 z hz
  | false=>
   refine List.pairwise_cons.2 ⟨fun z hz=> ?_,h⟩
   rcases List.mem_cons.1 hz with rfl | hz
   ·exact e
   ·exact Z6l e (h1 z hz)
theorem Xx:∀ l,(JD l).Pairwise Dw
 | []=>.nil
 | x::l=>Z70 x _ (Xx l)
theorem Znr {x y:Int×Int}(h1:Dw x y)(h2:Dw y x):x=y:=by
 unfold Dw Q7 at *
 simp at *
 exact Prod.ext (by omega) (by omega)
theorem Zmr (l:List (Int×Int)):(l.mergeSort fun x y=> !Go.Proofs.ltOf G0 y x)=JD l:=by
 have e:(fun x y:Int×Int=> !Go.Proofs.ltOf G0 y x)=fun x y=> !Q7 y x:=by
  funext x y;rw[T2]
 rw[e]
 refine List.Perm.eq_of_pairwise (le:=Dw) (fun a b _ _ h1 h2=>Znr h1 h2) ?_ (Xx l) ((List.mergeSort_perm l _).trans (Sk l).symm)
 have:=List.pairwise_mergeSort (le:=fun x y:Int×Int=> !Q7 y x) (fun a b c h1 h2=>by
  have:=Z6l (x:=a) (y:=b) (z:=c) (by unfold Dw;simpa using h1) (by unfold Dw;simpa using h2)
  unfold Dw at this;simpa using this) (fun a b=>by
  unfold Q7
  simp
  omega) l
 exact this.imp fun h=>by unfold Dw;simpa using h
def AD (x:Int×Int):List Value:=[.int .i64 x.1,.int .i64 x.2]
def Mj:List AV->Option (List (Int×Int))
 | []=>some []
 | .d (.v (.int .i64 a)):: .d (.v (.int .i64 b))::l=>(Mj l).map ((a,b):: ·)
 | _=>none
def BC:List (Int×Int)->List AV
 | []=>[]
 | x::l=>aI x.1::aI x.2::BC l
def HC (g:FuncId):AV->Bool
 | .fn (.func h) []=>Nat.beq h g
 | _=>false
def Uv (i v o:Nat)(cs:List AV)(A:List Blk):Option (List (Int×Int))->Option (AV×List Blk)
 | some l=>some (JV,A.set i (.cells (splice cs o (BC (JD l))) v false))
 | none=>none
def Xz (i v o len:Nat)(A:List Blk):Option Blk->Option (AV×List Blk)
 | some (.cells cs ver false)=>bif Nat.beq ver v&&Nat.ble (o+len*2) cs.length&&Nat.ble len Z5 then Uv i v o cs A (Mj ((cs.drop o).take (len*2))) else none
 | _=>none
def Gw (g:FuncId)(xs:List AV)(A:List Blk):Option (AV×List Blk):=
 match xs with
 | [.sref i v o len sz _,f]=>bif HC g f&&Nat.beq sz 2 then Xz i v o len A A[i]? else none
 | [.d (.lst [] 0 _),f]=>bif HC g f then some (JV,A) else none
 | _=>none
theorem Z4y:∀(xs:List AV) (l:List (Int×Int)),Mj xs=some l->xs=BC l
 | xs,l,h=>by
  unfold Mj at h
  split at h
  ·simp at h;subst h;rfl
  ·simp only [Option.map_eq_some_iff] at h
   obtain⟨r,hr,rfl⟩:=h
   rw[Z4y _ r hr];rfl
  ·simp at h
termination_by xs=>xs.length
theorem TB:∀ l,(BC l).length=l.length*2
 | []=>rfl
 | x::l=>by simp[BC,TB l];omega
def EB:List (Int×Int)->List Value
 | []=>[]
 | x::l=>.int .i64 x.1:: .int .i64 x.2::EB l
theorem X1:∀ l,(EB l).length=l.length*2
 | []=>rfl
 | x::l=>by simp[EB,X1 l];omega
theorem Z32 {c:Cx}:∀ l,VRs c (BC l) (EB l)
 | []=>.nil
 | x::l=>.cons (VR.vv rfl) (.cons (VR.vv rfl) (Z32 l))
theorem Zbk {c:Cx}:∀(l:List (Int×Int)) (Xs:List Value),VRs c (BC l) Xs->Xs=EB l
 | [],Xs,h=>by cases h;rfl
 | x::l,Xs,h=>by
  cases h with
  | cons h1 h2=>cases h2 with
   | cons h3 h4=>
    rw[h1.v_inv,h3.v_inv,Zbk l _ h4];rfl
theorem Z7e (l:List (Int×Int)):(Go.Sort.flatK AD 2 l.toArray).toList=EB l:=by
 have key:∀(l:List (Int×Int)) (t:Nat),(EB l)[t]? =(l[t/2]?).bind fun x=>(AD x)[t%2]? :=by
  intro l
  induction l with
  | nil=>intro t;simp[EB]
  | cons x l ih=>
   intro t
   match t with
   | 0=>rfl
   | 1=>rfl
   | t+2=>
    show(EB l)[t]? =_
    rw[ih t,show(t+2)/2=t/2+1 by omega,show(t+2)%2=t%2 by omega]
    rfl
 apply List.ext_getElem?
 intro t
 rw[key]
 by_cases ht:t<l.length*2
 ·have h1 : t / 2 < l.length := by omega
  have h2:t%2<2:=by omega
  have e1:(Go.Sort.flatK AD 2 l.toArray).toList[t]? =some ((Go.Sort.flatK AD 2 l.toArray)[t]!):=by
   have hs:t<(Go.Sort.flatK AD 2 l.toArray).size:=by simpa using ht
   rw[Array.getElem?_toList,getElem!_pos (Go.Sort.flatK AD 2 l.toArray) t hs,Array.getElem?_eq_getElem hs]
  rw[e1,Go.Sort.get_flatK _ _ _ _ (by simpa using ht)]
  have e2:l[t/2]? =some l.toArray[t/2]! :=by simp[h1]
  rw[e2]
  simp only[Option.bind_some]
  generalize l.toArray[t/2]! =y
  unfold AD
  rcases(show t%2=0∨t%2=1 by omega) with h | h<;>simp[h]
 ·have h1 : ¬ t / 2 < l.length := by omega
  have h2:(Go.Sort.flatK AD 2 l.toArray).toList[t]? =none:=by simp;omega
  have h3:l[t/2]? =none:=by simp;omega
  rw[h2,h3];rfl
theorem Zk8 (C F:Array Value)(off:Nat)(h:off+F.size<=C.size):Go.Sort.putCells id off F C=(splice C.toList off F.toList).toArray:=by
 apply Array.ext_getElem?
 intro k
 unfold Go.Sort.putCells splice
 simp only[Array.getElem?_mapIdx,List.getElem?_toArray]
 by_cases h1:k<off
 ·have h2 : ¬ (off <= k /\ k < off + F.size) := by omega
  rw[List.append_assoc,List.getElem?_append_left (by simp;omega),List.getElem?_take,if_pos h1]
  cases hq:C[k]? with
  | none=>simp[hq]
  | some y=>simp[hq,h2]
 ·by_cases h2 : k < off + F.size
  ·have h3 : off <= k /\ k < off + F.size := ⟨by omega, h2⟩
   have hk:k<C.size:=by omega
   rw[List.getElem?_append_left (by simp;omega),List.getElem?_append_right (by simp;omega)]
   simp only[List.length_take,Array.length_toList,Nat.min_eq_left (show off<=C.size by omega)]
   have hf:k-off<F.size:=by omega
   simp[hk,h3,hf]
  ·have h3 : ¬ (off <= k /\ k < off + F.size) := by omega
   rw[List.getElem?_append_right (by simp;omega),List.getElem?_drop]
   simp only[List.length_append,List.length_take,Array.length_toList,Nat.min_eq_left (show off<=C.size by omega)]
   rw[show off+F.size+(k-(off+F.size))=k by omega]
   cases hq:C[k]? with
   | none=>simp[hq]
   | some y=>simp[hq,h3]
theorem Zo5 {g:FuncId}{f:AV}(h:HC g f=true):f=.fn (.func g) []:=by
 unfold HC at h
 split at h
 ·rw[Nat.eq_of_beq_eq_true h]
 ·simp at h
theorem Zge {P:Program}{ρ:Go.Shelf.Ren}(L:Go.Proofs.SlLaysF0.n6 P ρ)(aE:∀ w,(isAgg (ρ.t 24)).run P w=.ok true w)(zE:∀ w,(Go.sizeOf (ρ.t 24)).run P w=.ok 2 w){g:FuncId}(eg:∀ args w,(callFunc g args).run P w=.ok (.enter g args) w)
  (hcmp:∀ blk off size w,Go.Proofs.CmpLays P g #[] AD 2 G0 blk off size w) (hent:Enters P (ρ.f 6)):U4 P (ρ.f 6) fun _ _ _ xs A=>Gw g xs A:=by
 refine⟨hent,fun E call args A x A' h c args' hr hgl hA hp hv=> ?_⟩
 change Gw g args A=some (x,A') at h
 unfold Gw at h
 split at h
 ·rename_i i v o len sz k f
  cases hc:(HC g f&&Nat.beq sz 2) with
  | false=>rw[hc] at h;simp at h
  | true=>
   rw[hc,cond_true] at h
   simp only[Bool.and_eq_true] at hc
   obtain⟨hf,hsz⟩:=hc
   obtain rfl:=Zo5 hf
   obtain rfl:sz=2:=Nat.eq_of_beq_eq_true hsz
   unfold Xz at h
   split at h
   ·rename_i cs ver hAi
    cases hc2:(Nat.beq ver v&&Nat.ble (o+len*2) cs.length&&Nat.ble len Z5) with
    | false=>rw[hc2] at h;simp at h
    | true=>
     rw[hc2,cond_true] at h
     simp only[Bool.and_eq_true] at hc2
     obtain⟨⟨hve,hle⟩,hlim⟩:=hc2
     obtain rfl:v=ver:=(Nat.eq_of_beq_eq_true hve).symm
     have hle:o+len*2<=cs.length:=Nat.le_of_ble_eq_true hle
     cases hl:Mj ((cs.drop o).take (len*2)) with
     | none=>rw[hl] at h;simp[Uv] at h
     | some l=>
      rw[hl] at h
      simp only[Uv,Option.some.injEq,Prod.mk.injEq] at h
      obtain⟨rfl,rfl⟩:=h
      have hcs:=Z4y _ _ hl
      have hll:l.length=len:=by
       have:=congrArg List.length hcs
       rw[TB,List.length_take,List.length_drop] at this
       omega
      subst hA
      have hpr:c.Pr i:=(hp i).2 (List.getElem?_eq_some_iff.1 hAi).1
      obtain⟨X,F,rfl⟩:∃ X F,args'= #[X,F]:=by
       have hn:=hv.length
       simp at hn
       match args' with
       | ⟨[X,F]⟩=>exact⟨X,F,rfl⟩
       | ⟨[]⟩=>simp at hn
       | ⟨[_]⟩=>simp at hn
       | ⟨_::_::_::_⟩=>simp at hn
      obtain⟨hvX,hvF⟩:VR c (.sref i v o len 2 k) X/\VR c (.fn (.func g) []) F:=by
       cases hv with
       | cons h1 h2=>cases h2 with
        | cons h3 _=>exact⟨h1,h3⟩
      obtain⟨cap,rfl,_,hlc,_,hbz,_⟩:=hvX.sref_inv (NC (GZ hAi))
      obtain⟨Xc,rfl,hc0⟩:∃ Xc:Array Value,F=.func (.func g) #[] Xc/\Xc.size=0:=by
       cases hvF with
       | fn hcap=>exact⟨_,rfl,by have:=hcap.length;simpa using this.symm⟩
      obtain rfl:Xc= #[]:=Array.eq_empty_of_size_eq_zero hc0
      obtain⟨C,e,hheap,hCs,hcC,hvC,hM⟩:=hr.mem hpr hAi
      have hsub:((C.toList.take cs.length).drop o).take (len*2)=EB l:=by
       have:=((hvC.drop o).take (len*2))
       rw[hcs] at this
       exact Zbk l _ this
      have hfl:∀ j,j<(Go.Sort.flatK AD 2 l.toArray).size->(Go.Sort.flatK AD 2 l.toArray)[j]! =C[o+j]! :=by
       intro j hj
       have hj2:j<len*2:=by rw[Go.Sort.size_flatK] at hj;simpa [hll] using hj
       have e1:(Go.Sort.flatK AD 2 l.toArray).toList[j]? =C[o+j]? :=by
        rw[Z7e,<-hsub,List.getElem?_take,if_pos hj2,List.getElem?_drop,List.getElem?_take,if_pos (by omega)]
        simp
       have hoj:o+j<C.size:=by omega
       have e2:(Go.Sort.flatK AD 2 l.toArray)[j]? =C[o+j]? :=by simpa using e1
       simp only[Array.getElem!_eq_getD,Array.getD_eq_getD_getElem?,e2]
      have hH:Go.Sort.HoldsK AD 2 c.w (c.ρ i) o l.toArray:=by
       intro j hj
       have hj2:j<len*2:=by rw[Go.Sort.size_flatK] at hj;simpa [hll] using hj
       have hoj:o+j<C.size:=by omega
       refine⟨?_,?_⟩
       ·rw [hfl j hj]
        simp only[World.cell?,hheap]
        simp[hoj]
       ·simp only [World.frozen?, hheap]
        simp
      have hblk:c.ρ i<c.w.heap.size:=(Array.getElem?_eq_some_iff.1 hheap).1
      have hbig:l.toArray.size<4611686018427387904:=by
       have:=Nat.le_of_ble_eq_true hlim
       have hlim:Z5=1099511627776:=rfl
       simp[hll]
       omega
      have hcall:=Go.Proofs.AnyQ.slices_SortFunc_total L 2 aE zE AD (fun _=>rfl) (fun x v hv=>by simp[AD] at hv;rcases hv with rfl | rfl<;>rfl) G0 Zn2 g #[] (c.ρ i) o cap l.toArray c.w eg (hcmp _ _ _ _) hH hblk hbig Zn1
      rw[show l.toArray.size=len by simpa using hll] at hcall
      refine hcall.mono ?_
      rintro e1 w' ⟨rfl,n,os,rfl⟩
      rw[Zmr]
      have hsl:(JD l).length=len:=by rw[(Sk l).length_eq,hll]
      have hFs:(Go.Sort.flatK AD 2 (JD l).toArray).size=len*2:=by simp[hsl]
      have hoC:o+len*2<=C.size:=by omega
      have hput:=Zk8 C (Go.Sort.flatK AD 2 (JD l).toArray) o (by rw[hFs];exact hoC)
      rw[Z7e] at hput
      let C':Array Value:=(splice C.toList o (EB (JD l))).toArray
      have hC's:C'.size=C.size:=by
       have:=Uw C.toList o (EB (JD l)) (by rw[X1,hsl];simpa using hoC)
       simpa [C'] using this
      have hnew:(Go.Proofs.sortWorldK AD 2 c.w (c.ρ i) o n (JD l).toArray os).heap[c.ρ i]? =some (.cells C' e (0,0)):=by
       show(c.w.heap.modify (c.ρ i) (Go.Sort.onCells (Go.Sort.putCells id o (Go.Sort.flatK AD 2 (JD l).toArray)))++os)[c.ρ i]? =_
       rw[Array.getElem?_append_left (by simpa using hblk),Array.getElem?_modify]
       simp only[if_true,hheap,Option.map_some,Go.Sort.onCells,hput,C']
      have hold:∀ j,j<c.w.heap.size->j≠c.ρ i->(Go.Proofs.sortWorldK AD 2 c.w (c.ρ i) o n (JD l).toArray os).heap[j]? =c.w.heap[j]? :=by
       intro j hj hne
       show(c.w.heap.modify (c.ρ i) (Go.Sort.onCells (Go.Sort.putCells id o (Go.Sort.flatK AD 2 (JD l).toArray)))++os)[j]? =_
       rw[Array.getElem?_append_left (by simpa using hj),Array.getElem?_modify,if_neg (Ne.symm hne)]
      have hbs:YU (Go.Proofs.sortWorldK AD 2 c.w (c.ρ i) o n (JD l).toArray os) (c.ρ i)=YU c.w (c.ρ i):=by
       rw[<-hCs,<-hC's];unfold YU;rw[hnew]
      have hrel:∀ c',Ext c c'->BW c' (.cells (splice cs o (BC (JD l))) v false) (.cells C' e (0,0)):=by
       intro c' ext
       have hcl:(BC (JD l)).length=len*2:=by rw[TB,hsl]
       have hvl:(EB (JD l)).length=len*2:=by rw[X1,hsl]
       have hspl:=Uw cs o (BC (JD l)) (by rw[hcl];exact hle)
       refine⟨C',e,rfl,by rw[hspl,hC's];exact hcC,?_,hr.mem_okT hpr hAi hheap⟩
       have hsp:=hvC.splice (Z32 (JD l)) o
       have:C'.toList.take (splice cs o (BC (JD l))).length=splice (C.toList.take cs.length) o (EB (JD l)):=by
        rw[hsp.length]
        exact Z3p _ _ _ _ (by omega) (by simp;omega) (by rw[hvl];simpa using hoC)
       rw[this]
       exact hsp.mono ext
      obtain⟨fr,rel⟩:=hr.turn (b':=.cells (splice cs o (BC (JD l))) v false) (o':=.cells C' e (0,0)) (w':=Go.Proofs.sortWorldK AD 2 c.w (c.ρ i) o n (JD l).toArray os) (r:=c.ρ i) (v:=v) (v':=v) hpr hAi rfl rfl rfl rfl (Nat.le_refl _) (fun _=>⟨rfl,hbs⟩) (.inl rfl) hnew hrel hold
       (by show c.w.heap.size<=(c.w.heap.modify (c.ρ i) (Go.Sort.onCells (Go.Sort.putCells id o (Go.Sort.flatK AD 2 (JD l).toArray)))++os).size;simp) rfl rfl rfl
      refine⟨.tuple #[],_,rfl,rfl,fr,rel,VR.undef,rfl,fun j=> ?_⟩
      simp[hp j]
   ·simp at h
 ·rename_i k f
  cases hf:HC g f with
  | false=>rw[hf] at h;simp at h
  | true=>
   rw[hf,cond_true] at h
   simp only[Option.some.injEq,Prod.mk.injEq] at h
   obtain⟨rfl,rfl⟩:=h
   subst hA
   obtain⟨X,F,rfl⟩:∃ X F,args'= #[X,F]:=by
    have hn:=hv.length
    simp at hn
    match args' with
    | ⟨[X,F]⟩=>exact⟨X,F,rfl⟩
    | ⟨[]⟩=>simp at hn
    | ⟨[_]⟩=>simp at hn
    | ⟨_::_::_::_⟩=>simp at hn
   have hvX:VR c (.d (.lst [] 0 k)) X:=by
    cases hv with
    | cons h1 h2=>exact h1
   obtain⟨ad,cap,rfl,_⟩:=hvX.lst_inv
   refine(Go.Proofs.AnyF.slices_SortFunc_none L ad cap F c.w).mono ?_
   rintro e1 w' ⟨rfl,rfl⟩
   exact⟨.tuple #[],c,rfl,rfl,Fr.refl c,hr,VR.undef,rfl,hp⟩
 ·simp at h
end Go.Aug
