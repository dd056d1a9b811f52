import Derived.Test.YtmfdoekbjkgckaaGreatEvM
import Derived.Shelf.SlSortCmp.NoneTotal
namespace Go.Aug
open Go Go.RowKit
set_option linter.unusedVariables false
set_option linter.unusedSimpArgs false
def JT (x y:Int×Int):Bool:=decide (x.1<y.1) || (decide (x.1=y.1)&&decide (x.2<y.2))
def Ex (x y:Int×Int):Int:=if Lib.compareInt x.1 y.1=0 then Lib.compareInt x.2 y.2 else Lib.compareInt x.1 y.1
theorem PZ (x y:Int×Int):Go.Proofs.ltOf Ex x y=JT x y:=by
 unfold Go.Proofs.ltOf Ex Lib.compareInt JT
 rcases Int.lt_trichotomy x.1 y.1 with h | h | h
 ·have h2 : ¬ x.1 = y.1 := by omega
  simp[h,h2]
 ·have h2 : ¬ x.1 < y.1 := by omega
  have h3:¬x.1>y.1:=by omega
  rcases Int.lt_trichotomy x.2 y.2 with k | k | k
  ·simp[h2,h3,h,k]
  ·have k2 : ¬ x.2 < y.2 := by omega
   have k3:¬x.2>y.2:=by omega
   simp[h2,h3,h,k2,k3]
  ·have k2 : ¬ x.2 < y.2 := by omega
   simp[h2,h3,h,k,k2]
 ·have h2 : ¬ x.1 < y.1 := by omega
  have h3:¬x.1=y.1:=by omega
  simp[h,h2,h3]
theorem Zel:Go.Sort.SWO (Go.Proofs.ltOf Ex) where
 irrefl x:=by rw[PZ];unfold JT;simp
 trans x y z h1 h2:=by rw[PZ] at *;unfold JT at *;simp at *;omega
 ntrans x y z h1 h2:=by rw[PZ] at *;unfold JT at *;simp at *;omega
theorem Zek (x y:Int×Int)(h1:Go.Proofs.ltOf Ex x y=false)(h2:Go.Proofs.ltOf Ex y x=false):x=y:=by
 rw[PZ] at *
 unfold JT at *
 simp at h1 h2
 exact Prod.ext (by omega) (by omega)
def ND (x:Int×Int):List (Int×Int)->List (Int×Int)
 | []=>[x]
 | y::l=>bif JT y x then y::ND x l else x::y::l
def J0:List (Int×Int)->List (Int×Int)
 | []=>[]
 | x::l=>ND x (J0 l)
theorem VW (x:Int×Int):∀ l,(ND x l).Perm (x::l)
 | []=>.refl _
 | y::l=>by
  unfold ND
  cases JT y x with
  | true=>exact((VW x l).cons y).trans (.swap x y l)
  | false=>exact .refl _
theorem UE:∀ l,(J0 l).Perm l
 | []=>.refl _
 | x::l=>(VW x (J0 l)).trans ((UE l).cons x)
def C7 (x y:Int×Int):Prop:=JT y x=false
theorem Z34 {x y z:Int×Int}(h1:C7 x y)(h2:C7 y z):C7 x z:=by
 unfold C7 JT at *
 simp at *
 omega
theorem Z3m (x:Int×Int):∀ l,l.Pairwise C7->(ND x l).Pairwise C7
 | [],_=>List.pairwise_singleton _ _
 | y::l,h=>by
  unfold ND
  obtain⟨h1,h2⟩:=List.pairwise_cons.1 h
  cases e:JT y x with
  | true=>
   refine List.pairwise_cons.2 ⟨fun z hz=> ?_,Z3m x l h2⟩
   rcases List.mem_cons.1 ((VW x l).mem_iff.1 hz) with rfl | hz
   ·unfold C7 JT at *
    simp at *
    omega
   ·exact h1 z hz
  | false=>
   refine List.pairwise_cons.2 ⟨fun z hz=> ?_,h⟩
   rcases List.mem_cons.1 hz with rfl | hz
   ·exact e
   ·exact Z34 e (h1 z hz)
theorem Z0e:∀ l,(J0 l).Pairwise C7
 | []=>.nil
 | x::l=>Z3m x _ (Z0e l)
theorem Zf4 {x y:Int×Int}(h1:C7 x y)(h2:C7 y x):x=y:=by
 unfold C7 JT at *
 simp at *
 exact Prod.ext (by omega) (by omega)
theorem Zec (l:List (Int×Int)):(l.mergeSort fun x y=> !Go.Proofs.ltOf Ex y x)=J0 l:=by
 have e:(fun x y:Int×Int=> !Go.Proofs.ltOf Ex y x)=fun x y=> !JT y x:=by
  funext x y;rw[PZ]
 rw[e]
 refine List.Perm.eq_of_pairwise (le:=C7) (fun a b _ _ h1 h2=>Zf4 h1 h2) ?_ (Z0e l) ((List.mergeSort_perm l _).trans (UE l).symm)
 have:=List.pairwise_mergeSort (le:=fun x y:Int×Int=> !JT y x) (fun a b c h1 h2=>by
  have:=Z34 (x:=a) (y:=b) (z:=c) (by unfold C7;simpa using h1) (by unfold C7;simpa using h2)
  unfold C7 at this;simpa using this) (fun a b=>by
  unfold JT
  simp
  omega) l
 exact this.imp fun h=>by unfold C7;simpa using h
def J4 (x:Int×Int):List Value:=[.int .i64 x.1,.int .i64 x.2]
def PK:List AV->Option (List (Int×Int))
 | []=>some []
 | .d (.v (.int .i64 a)):: .d (.v (.int .i64 b))::l=>(PK l).map ((a,b):: ·)
 | _=>none
def Ez:List (Int×Int)->List AV
 | []=>[]
 | x::l=>aI x.1::aI x.2::Ez l
def NC (g:FuncId):AV->Bool
 | .fn (.func h) []=>Nat.beq h g
 | _=>false
def UD (i v o:Nat)(cs:List AV)(A:List Blk):Option (List (Int×Int))->Option (AV×List Blk)
 | some l=>some (AR,A.set i (.cells (splice cs o (Ez (J0 l))) v false))
 | none=>none
def Z0f (i v o len:Nat)(A:List Blk):Option Blk->Option (AV×List Blk)
 | some (.cells cs ver false)=>bif Nat.beq ver v&&Nat.ble (o+len*2) cs.length&&Nat.ble len Z4 then UD i v o cs A (PK ((cs.drop o).take (len*2))) else none
 | _=>none
def P9 (g:FuncId)(xs:List AV)(A:List Blk):Option (AV×List Blk):=
 match xs with
 | [.sref i v o len sz _,f]=>bif NC g f&&Nat.beq sz 2 then Z0f i v o len A A[i]? else none
 | [.d (.lst [] 0 _),f]=>bif NC g f then some (AR,A) else none
 | _=>none
theorem Z1u:∀(xs:List AV) (l:List (Int×Int)),PK xs=some l->xs=Ez l
 | xs,l,h=>by
  unfold PK at h
  split at h
  ·simp at h;subst h;rfl
  ·simp only [Option.map_eq_some_iff] at h
   obtain⟨r,hr,rfl⟩:=h
   rw[Z1u _ r hr];rfl
  ·simp at h
termination_by xs=>xs.length
theorem WK:∀ l,(Ez l).length=l.length*2
 | []=>rfl
 | x::l=>by simp[Ez,WK l];omega
def CR:List (Int×Int)->List Value
 | []=>[]
 | x::l=>.int .i64 x.1:: .int .i64 x.2::CR l
theorem Uk:∀ l,(CR l).length=l.length*2
 | []=>rfl
 | x::l=>by simp[CR,Uk l];omega
theorem XJ {c:Cx}:∀ l,VRs c (Ez l) (CR l)
 | []=>.nil
 | x::l=>.cons (VR.vv rfl) (.cons (VR.vv rfl) (XJ l))
theorem Z6l {c:Cx}:∀(l:List (Int×Int)) (Xs:List Value),VRs c (Ez l) Xs->Xs=CR l
 | [],Xs,h=>by cases h;rfl
 | x::l,Xs,h=>by
  cases h with
  | cons h1 h2=>cases h2 with
   | cons h3 h4=>
    rw[h1.v_inv,h3.v_inv,Z6l l _ h4];rfl
theorem Z3w (l:List (Int×Int)):(Go.Sort.flatK J4 2 l.toArray).toList=CR l:=by
 have key:∀(l:List (Int×Int)) (t:Nat),(CR l)[t]? =(l[t/2]?).bind fun x=>(J4 x)[t%2]? :=by
  intro l
  induction l with
  | nil=>intro t;simp[CR]
  | cons x l ih=>
   intro t
   match t with
   | 0=>rfl
   | 1=>rfl
   | t+2=>
    show(CR l)[t]? =_
    rw[ih t,show(t+2)/2=t/2+1 by omega,show(t+2)%2=t%2 by omega]
    rfl
 apply List.ext_getElem?
 intro t
 rw[key]
 by_cases ht:t<l.length*2
 ·have h1 : t / 2 < l.length := by omega
  have h2:t%2<2:=by omega
  have e1:(Go.Sort.flatK J4 2 l.toArray).toList[t]? =some ((Go.Sort.flatK J4 2 l.toArray)[t]!):=by
   have hs:t<(Go.Sort.flatK J4 2 l.toArray).size:=by simpa using ht
   rw[Array.getElem?_toList,getElem!_pos (Go.Sort.flatK J4 2 l.toArray) t hs,Array.getElem?_eq_getElem hs]
  rw[e1,Go.Sort.get_flatK _ _ _ _ (by simpa using ht)]
  have e2:l[t/2]? =some l.toArray[t/2]! :=by simp[h1]
  rw[e2]
  simp only[Option.bind_some]
  generalize l.toArray[t/2]! =y
  unfold J4
  rcases(show t%2=0∨t%2=1 by omega) with h | h<;>simp[h]
 ·have h1 : ¬ t / 2 < l.length := by omega
  have h2:(Go.Sort.flatK J4 2 l.toArray).toList[t]? =none:=by simp;omega
  have h3:l[t/2]? =none:=by simp;omega
  rw[h2,h3];rfl
theorem Zc3 (C F:Array Value)(off:Nat)(h:off+F.size<=C.size):Go.Sort.putCells id off F C=(splice C.toList off F.toList).toArray:=by
 apply Array.ext_getElem?
 intro k
 unfold Go.Sort.putCells splice
 simp only[Array.getElem?_mapIdx,List.getElem?_toArray]
 by_cases h1:k<off
 ·have h2 : ¬ (off <= k /\ k < off + F.size) := by omega
  rw[List.append_assoc,List.getElem?_append_left (by simp;omega),List.getElem?_take,if_pos h1]
  cases hq:C[k]? with
  | none=>simp[hq]
  | some y=>simp[hq,h2]
 ·by_cases h2 : k < off + F.size
  ·have h3 : off <= k /\ k < off + F.size := ⟨by omega, h2⟩
   have hk:k<C.size:=by omega
   rw[List.getElem?_append_left (by simp;omega),List.getElem?_append_right (by simp;omega)]
   simp only[List.length_take,Array.length_toList,Nat.min_eq_left (show off<=C.size by omega)]
   have hf:k-off<F.size:=by omega
   simp[hk,h3,hf]
  ·have h3 : ¬ (off <= k /\ k < off + F.size) := by omega
   rw[List.getElem?_append_right (by simp;omega),List.getElem?_drop]
   simp only[List.length_append,List.length_take,Array.length_toList,Nat.min_eq_left (show off<=C.size by omega)]
   rw[show off+F.size+(k-(off+F.size))=k by omega]
   cases hq:C[k]? with
   | none=>simp[hq]
   | some y=>simp[hq,h3]
theorem Zfi {g:FuncId}{f:AV}(h:NC g f=true):f=.fn (.func g) []:=by
 unfold NC at h
 split at h
 ·rw[Nat.eq_of_beq_eq_true h]
 ·simp at h
theorem Z9w {P:Program}{ρ:Go.Shelf.Ren}(L:Go.Proofs.SlLaysF0.n6 P ρ)(aE:∀ w,(isAgg (ρ.t 24)).run P w=.ok true w)(zE:∀ w,(Go.sizeOf (ρ.t 24)).run P w=.ok 2 w){g:FuncId}(eg:∀ args w,(callFunc g args).run P w=.ok (.enter g args) w)
  (hcmp:∀ blk off size w,Go.Proofs.CmpLays P g #[] J4 2 Ex blk off size w) (hent:Enters P (ρ.f 6)):RT P (ρ.f 6) fun _ _ _ xs A=>P9 g xs A:=by
 refine⟨hent,fun E call args A x A' h c args' hr hgl hA hp hv=> ?_⟩
 change P9 g args A=some (x,A') at h
 unfold P9 at h
 split at h
 ·rename_i i v o len sz k f
  cases hc:(NC g f&&Nat.beq sz 2) with
  | false=>rw[hc] at h;simp at h
  | true=>
   rw[hc,cond_true] at h
   simp only[Bool.and_eq_true] at hc
   obtain⟨hf,hsz⟩:=hc
   obtain rfl:=Zfi hf
   obtain rfl:sz=2:=Nat.eq_of_beq_eq_true hsz
   unfold Z0f at h
   split at h
   ·rename_i cs ver hAi
    cases hc2:(Nat.beq ver v&&Nat.ble (o+len*2) cs.length&&Nat.ble len Z4) with
    | false=>rw[hc2] at h;simp at h
    | true=>
     rw[hc2,cond_true] at h
     simp only[Bool.and_eq_true] at hc2
     obtain⟨⟨hve,hle⟩,hlim⟩:=hc2
     obtain rfl:v=ver:=(Nat.eq_of_beq_eq_true hve).symm
     have hle:o+len*2<=cs.length:=Nat.le_of_ble_eq_true hle
     cases hl:PK ((cs.drop o).take (len*2)) with
     | none=>rw[hl] at h;simp[UD] at h
     | some l=>
      rw[hl] at h
      simp only[UD,Option.some.injEq,Prod.mk.injEq] at h
      obtain⟨rfl,rfl⟩:=h
      have hcs:=Z1u _ _ hl
      have hll:l.length=len:=by
       have:=congrArg List.length hcs
       rw[WK,List.length_take,List.length_drop] at this
       omega
      subst hA
      have hpr:c.Pr i:=(hp i).2 (List.getElem?_eq_some_iff.1 hAi).1
      obtain⟨X,F,rfl⟩:∃ X F,args'= #[X,F]:=by
       have hn:=hv.length
       simp at hn
       match args' with
       | ⟨[X,F]⟩=>exact⟨X,F,rfl⟩
       | ⟨[]⟩=>simp at hn
       | ⟨[_]⟩=>simp at hn
       | ⟨_::_::_::_⟩=>simp at hn
      obtain⟨hvX,hvF⟩:VR c (.sref i v o len 2 k) X/\VR c (.fn (.func g) []) F:=by
       cases hv with
       | cons h1 h2=>cases h2 with
        | cons h3 _=>exact⟨h1,h3⟩
      obtain⟨cap,rfl,_,hlc,_,hbz,_⟩:=hvX.sref_inv (KS (Fv hAi))
      obtain⟨Xc,rfl,hc0⟩:∃ Xc:Array Value,F=.func (.func g) #[] Xc/\Xc.size=0:=by
       cases hvF with
       | fn hcap=>exact⟨_,rfl,by have:=hcap.length;simpa using this.symm⟩
      obtain rfl:Xc= #[]:=Array.eq_empty_of_size_eq_zero hc0
      obtain⟨C,e,hheap,hCs,hcC,hvC,hM⟩:=hr.mem hpr hAi
      have hsub:((C.toList.take cs.length).drop o).take (len*2)=CR l:=by
       have:=((hvC.drop o).take (len*2))
       rw[hcs] at this
       exact Z6l l _ this
      have hfl:∀ j,j<(Go.Sort.flatK J4 2 l.toArray).size->(Go.Sort.flatK J4 2 l.toArray)[j]! =C[o+j]! :=by
       intro j hj
       have hj2:j<len*2:=by rw[Go.Sort.size_flatK] at hj;simpa [hll] using hj
       have e1:(Go.Sort.flatK J4 2 l.toArray).toList[j]? =C[o+j]? :=by
        rw[Z3w,<-hsub,List.getElem?_take,if_pos hj2,List.getElem?_drop,List.getElem?_take,if_pos (by omega)]
        simp
       have hoj:o+j<C.size:=by omega
       have e2:(Go.Sort.flatK J4 2 l.toArray)[j]? =C[o+j]? :=by simpa using e1
       simp only[Array.getElem!_eq_getD,Array.getD_eq_getD_getElem?,e2]
      have hH:Go.Sort.HoldsK J4 2 c.w (c.ρ i) o l.toArray:=by
       intro j hj
       have hj2:j<len*2:=by rw[Go.Sort.size_flatK] at hj;simpa [hll] using hj
       have hoj:o+j<C.size:=by omega
       refine⟨?_,?_⟩
       ·rw [hfl j hj]
        simp only[World.cell?,hheap]
        simp[hoj]
       ·simp only [World.frozen?, hheap]
        simp
      have hblk:c.ρ i<c.w.heap.size:=(Array.getElem?_eq_some_iff.1 hheap).1
      have hbig:l.toArray.size<4611686018427387904:=by
       have:=Nat.le_of_ble_eq_true hlim
       have hlim:Z4=1099511627776:=rfl
       simp[hll]
       omega
      have hcall:=Go.Proofs.AnyQ.slices_SortFunc_total L 2 aE zE J4 (fun _=>rfl) (fun x v hv=>by simp[J4] at hv;rcases hv with rfl | rfl<;>rfl) Ex Zel g #[] (c.ρ i) o cap l.toArray c.w eg (hcmp _ _ _ _) hH hblk hbig Zek
      rw[show l.toArray.size=len by simpa using hll] at hcall
      refine hcall.mono ?_
      rintro e1 w' ⟨rfl,n,os,rfl⟩
      rw[Zec]
      have hsl:(J0 l).length=len:=by rw[(UE l).length_eq,hll]
      have hFs:(Go.Sort.flatK J4 2 (J0 l).toArray).size=len*2:=by simp[hsl]
      have hoC:o+len*2<=C.size:=by omega
      have hput:=Zc3 C (Go.Sort.flatK J4 2 (J0 l).toArray) o (by rw[hFs];exact hoC)
      rw[Z3w] at hput
      let C':Array Value:=(splice C.toList o (CR (J0 l))).toArray
      have hC's:C'.size=C.size:=by
       have:=S7 C.toList o (CR (J0 l)) (by rw[Uk,hsl];simpa using hoC)
       simpa [C'] using this
      have hnew:(Go.Proofs.sortWorldK J4 2 c.w (c.ρ i) o n (J0 l).toArray os).heap[c.ρ i]? =some (.cells C' e (0,0)):=by
       show(c.w.heap.modify (c.ρ i) (Go.Sort.onCells (Go.Sort.putCells id o (Go.Sort.flatK J4 2 (J0 l).toArray)))++os)[c.ρ i]? =_
       rw[Array.getElem?_append_left (by simpa using hblk),Array.getElem?_modify]
       simp only[if_true,hheap,Option.map_some,Go.Sort.onCells,hput,C']
      have hold:∀ j,j<c.w.heap.size->j≠c.ρ i->(Go.Proofs.sortWorldK J4 2 c.w (c.ρ i) o n (J0 l).toArray os).heap[j]? =c.w.heap[j]? :=by
       intro j hj hne
       show(c.w.heap.modify (c.ρ i) (Go.Sort.onCells (Go.Sort.putCells id o (Go.Sort.flatK J4 2 (J0 l).toArray)))++os)[j]? =_
       rw[Array.getElem?_append_left (by simpa using hj),Array.getElem?_modify,if_neg (Ne.symm hne)]
      have hbs:Yz (Go.Proofs.sortWorldK J4 2 c.w (c.ρ i) o n (J0 l).toArray os) (c.ρ i)=Yz c.w (c.ρ i):=by
       rw[<-hCs,<-hC's];unfold Yz;rw[hnew]
      have hrel:∀ c',Ext c c'->Aq c' (.cells (splice cs o (Ez (J0 l))) v false) (.cells C' e (0,0)):=by
       intro c' ext
       have hcl:(Ez (J0 l)).length=len*2:=by rw[WK,hsl]
       have hvl:(CR (J0 l)).length=len*2:=by rw[Uk,hsl]
       have hspl:=S7 cs o (Ez (J0 l)) (by rw[hcl];exact hle)
       refine⟨C',e,rfl,by rw[hspl,hC's];exact hcC,?_,hr.mem_okT hpr hAi hheap⟩
       have hsp:=hvC.splice (XJ (J0 l)) o
       have:C'.toList.take (splice cs o (Ez (J0 l))).length=splice (C.toList.take cs.length) o (CR (J0 l)):=by
        rw[hsp.length]
        exact Z0a _ _ _ _ (by omega) (by simp;omega) (by rw[hvl];simpa using hoC)
       rw[this]
       exact hsp.mono ext
      obtain⟨fr,rel⟩:=hr.turn (b':=.cells (splice cs o (Ez (J0 l))) v false) (o':=.cells C' e (0,0)) (w':=Go.Proofs.sortWorldK J4 2 c.w (c.ρ i) o n (J0 l).toArray os) (r:=c.ρ i) (v:=v) (v':=v) hpr hAi rfl rfl rfl rfl (Nat.le_refl _) (fun _=>⟨rfl,hbs⟩) (.inl rfl) hnew hrel hold
       (by show c.w.heap.size<=(c.w.heap.modify (c.ρ i) (Go.Sort.onCells (Go.Sort.putCells id o (Go.Sort.flatK J4 2 (J0 l).toArray)))++os).size;simp) rfl rfl rfl
      refine⟨.tuple #[],_,rfl,rfl,fr,rel,VR.undef,rfl,fun j=> ?_⟩
      simp[hp j]
   ·simp at h
 ·rename_i k f
  cases hf:NC g f with
  | false=>rw[hf] at h;simp at h
  | true=>
   rw[hf,cond_true] at h
   simp only[Option.some.injEq,Prod.mk.injEq] at h
   obtain⟨rfl,rfl⟩:=h
   subst hA
   obtain⟨X,F,rfl⟩:∃ X F,args'= #[X,F]:=by
    have hn:=hv.length
    simp at hn
    match args' with
    | ⟨[X,F]⟩=>exact⟨X,F,rfl⟩
    | ⟨[]⟩=>simp at hn
    | ⟨[_]⟩=>simp at hn
    | ⟨_::_::_::_⟩=>simp at hn
   have hvX:VR c (.d (.lst [] 0 k)) X:=by
    cases hv with
    | cons h1 h2=>exact h1
   obtain⟨ad,cap,rfl,_⟩:=hvX.lst_inv
   refine(Go.Proofs.AnyF.slices_SortFunc_none L ad cap F c.w).mono ?_
   rintro e1 w' ⟨rfl,rfl⟩
   exact⟨.tuple #[],c,rfl,rfl,Fr.refl c,hr,VR.undef,rfl,hp⟩
 ·simp at h
end Go.Aug
