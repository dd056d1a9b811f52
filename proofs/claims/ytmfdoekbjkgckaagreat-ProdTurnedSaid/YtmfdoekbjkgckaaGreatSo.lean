import Derived.Test.YtmfdoekbjkgckaaGreatEvM
import Derived.Shelf.SlSortCmp.NoneTotal
namespace Go.Aug
open Go Go.RowKit
set_option linter.unusedVariables false
set_option linter.unusedSimpArgs false
def Q3 (x y:Int×Int):Bool:=decide (x.1<y.1) || (decide (x.1=y.1)&&decide (x.2<y.2))
def G5 (x y:Int×Int):Int:=if Lib.compareInt x.1 y.1=0 then Lib.compareInt x.2 y.2 else Lib.compareInt x.1 y.1
theorem Tw (x y:Int×Int):Go.Proofs.ltOf G5 x y=Q3 x y:=by
 unfold Go.Proofs.ltOf G5 Lib.compareInt Q3
 rcases Int.lt_trichotomy x.1 y.1 with h | h | h
 ·have h2 : ¬ x.1 = y.1 := by omega
  simp[h,h2]
 ·have h2 : ¬ x.1 < y.1 := by omega
  have h3:¬x.1>y.1:=by omega
  rcases Int.lt_trichotomy x.2 y.2 with k | k | k
  ·simp[h2,h3,h,k]
  ·have k2 : ¬ x.2 < y.2 := by omega
   have k3:¬x.2>y.2:=by omega
   simp[h2,h3,h,k2,k3]
  ·have k2 : ¬ x.2 < y.2 := by omega
   simp[h2,h3,h,k,k2]
 ·have h2 : ¬ x.1 < y.1 := by omega
  have h3:¬x.1=y.1:=by omega
  simp[h,h2,h3]
theorem Znx:Go.Sort.SWO (Go.Proofs.ltOf G5) where
 irrefl x:=by rw[Tw];unfold Q3;simp
 trans x y z h1 h2:=by rw[Tw] at *;unfold Q3 at *;simp at *;omega
 ntrans x y z h1 h2:=by rw[Tw] at *;unfold Q3 at *;simp at *;omega
theorem Znw (x y:Int×Int)(h1:Go.Proofs.ltOf G5 x y=false)(h2:Go.Proofs.ltOf G5 y x=false):x=y:=by
 rw[Tw] at *
 unfold Q3 at *
 simp at h1 h2
 exact Prod.ext (by omega) (by omega)
def RS (x:Int×Int):List (Int×Int)->List (Int×Int)
 | []=>[x]
 | y::l=>bif Q3 y x then y::RS x l else x::y::l
def JD:List (Int×Int)->List (Int×Int)
 | []=>[]
 | x::l=>RS x (JD l)
theorem Z1h (x:Int×Int):∀ l,(RS x l).Perm (x::l)
 | []=>.refl _
 | y::l=>by
  unfold RS
  cases Q3 y x with
  | true=>exact((Z1h x l).cons y).trans (.swap x y l)
  | false=>exact .refl _
theorem SG:∀ l,(JD l).Perm l
 | []=>.refl _
 | x::l=>(Z1h x (JD l)).trans ((SG l).cons x)
def DD (x y:Int×Int):Prop:=Q3 y x=false
theorem Z78 {x y z:Int×Int}(h1:DD x y)(h2:DD y z):DD x z:=by
 unfold DD Q3 at *
 simp at *
 omega
theorem Z7n (x:Int×Int):∀ l,l.Pairwise DD->(RS x l).Pairwise DD
 | [],_=>List.pairwise_singleton _ _
 | y::l,h=>by
  unfold RS
  obtain⟨h1,h2⟩:=List.pairwise_cons.1 h
  cases e:Q3 y x with
  | true=>
   refine List.pairwise_cons.2 ⟨fun z hz=> ?_,Z7n x l h2⟩
   rcases List.mem_cons.1 ((Z1h x l).mem_iff.1 hz) with rfl | hz
   ·unfold DD Q3 at *
    simp at *
    omega
   ·exact h1 z hz
  | false=>
   refine List.pairwise_cons.2 ⟨fun z hz=> ?_,h⟩
   rcases List.mem_cons.1 hz with rfl | hz
   ·exact e
   ·exact Z78 e (h1 z hz)
theorem XN:∀ l,(JD l).Pairwise DD
 | []=>.nil
 | x::l=>Z7n x _ (XN l)
theorem Zoo {x y:Int×Int}(h1:DD x y)(h2:DD y x):x=y:=by
 unfold DD Q3 at *
 simp at *
 exact Prod.ext (by omega) (by omega)
theorem Zno (l:List (Int×Int)):(l.mergeSort fun x y=> !Go.Proofs.ltOf G5 y x)=JD l:=by
 have e:(fun x y:Int×Int=> !Go.Proofs.ltOf G5 y x)=fun x y=> !Q3 y x:=by
  funext x y;rw[Tw]
 rw[e]
 refine List.Perm.eq_of_pairwise (le:=DD) (fun a b _ _ h1 h2=>Zoo h1 h2) ?_ (XN l) ((List.mergeSort_perm l _).trans (SG l).symm)
 have:=List.pairwise_mergeSort (le:=fun x y:Int×Int=> !Q3 y x) (fun a b c h1 h2=>by
  have:=Z78 (x:=a) (y:=b) (z:=c) (by unfold DD;simpa using h1) (by unfold DD;simpa using h2)
  unfold DD at this;simpa using this) (fun a b=>by
  unfold Q3
  simp
  omega) l
 exact this.imp fun h=>by unfold DD;simpa using h
def AH (x:Int×Int):List Value:=[.int .i64 x.1,.int .i64 x.2]
def MB:List AV->Option (List (Int×Int))
 | []=>some []
 | .d (.v (.int .i64 a)):: .d (.v (.int .i64 b))::l=>(MB l).map ((a,b):: ·)
 | _=>none
def BE:List (Int×Int)->List AV
 | []=>[]
 | x::l=>aI x.1::aI x.2::BE l
def HM (g:FuncId):AV->Bool
 | .fn (.func h) []=>Nat.beq h g
 | _=>false
def UN (i v o:Nat)(cs:List AV)(A:List Blk):Option (List (Int×Int))->Option (AV×List Blk)
 | some l=>some (JX,A.set i (.cells (splice cs o (BE (JD l))) v false))
 | none=>none
def XP (i v o len:Nat)(A:List Blk):Option Blk->Option (AV×List Blk)
 | some (.cells cs ver false)=>bif Nat.beq ver v&&Nat.ble (o+len*2) cs.length&&Nat.ble len Z5 then UN i v o cs A (MB ((cs.drop o).take (len*2))) else none
 | _=>none
def GD (g:FuncId)(xs:List AV)(A:List Blk):Option (AV×List Blk):=
 match xs with
 | [.sref i v o len sz _,f]=>bif HM g f&&Nat.beq sz 2 then XP i v o len A A[i]? else none
 | [.d (.lst [] 0 _),f]=>bif HM g f then some (JX,A) else none
 | _=>none
theorem Z5k:∀(xs:List AV) (l:List (Int×Int)),MB xs=some l->xs=BE l
 | xs,l,h=>by
  unfold MB at h
  split at h
  ·simp at h;subst h;rfl
  ·simp only [Option.map_eq_some_iff] at h
   obtain⟨r,hr,rfl⟩:=h
   rw[Z5k _ r hr];rfl
  ·simp at h
termination_by xs=>xs.length
theorem TT:∀ l,(BE l).length=l.length*2
 | []=>rfl
 | x::l=>by simp[BE,TT l];omega
def EJ:List (Int×Int)->List Value
 | []=>[]
 | x::l=>.int .i64 x.1:: .int .i64 x.2::EJ l
theorem Xv:∀ l,(EJ l).length=l.length*2
 | []=>rfl
 | x::l=>by simp[EJ,Xv l];omega
theorem Z3l {c:Cx}:∀ l,VRs c (BE l) (EJ l)
 | []=>.nil
 | x::l=>.cons (VR.vv rfl) (.cons (VR.vv rfl) (Z3l l))
theorem Zc9 {c:Cx}:∀(l:List (Int×Int)) (Xs:List Value),VRs c (BE l) Xs->Xs=EJ l
 | [],Xs,h=>by cases h;rfl
 | x::l,Xs,h=>by
  cases h with
  | cons h1 h2=>cases h2 with
   | cons h3 h4=>
    rw[h1.v_inv,h3.v_inv,Zc9 l _ h4];rfl
theorem Z81 (l:List (Int×Int)):(Go.Sort.flatK AH 2 l.toArray).toList=EJ l:=by
 have key:∀(l:List (Int×Int)) (t:Nat),(EJ l)[t]? =(l[t/2]?).bind fun x=>(AH x)[t%2]? :=by
  intro l
  induction l with
  | nil=>intro t;simp[EJ]
  | cons x l ih=>
   intro t
   match t with
   | 0=>rfl
   | 1=>rfl
   | t+2=>
    show(EJ l)[t]? =_
    rw[ih t,show(t+2)/2=t/2+1 by omega,show(t+2)%2=t%2 by omega]
    rfl
 apply List.ext_getElem?
 intro t
 rw[key]
 by_cases ht:t<l.length*2
 ·have h1 : t / 2 < l.length := by omega
  have h2:t%2<2:=by omega
  have e1:(Go.Sort.flatK AH 2 l.toArray).toList[t]? =some ((Go.Sort.flatK AH 2 l.toArray)[t]!):=by
   have hs:t<(Go.Sort.flatK AH 2 l.toArray).size:=by simpa using ht
   rw[Array.getElem?_toList,getElem!_pos (Go.Sort.flatK AH 2 l.toArray) t hs,Array.getElem?_eq_getElem hs]
  rw[e1,Go.Sort.get_flatK _ _ _ _ (by simpa using ht)]
  have e2:l[t/2]? =some l.toArray[t/2]! :=by simp[h1]
  rw[e2]
  simp only[Option.bind_some]
  generalize l.toArray[t/2]! =y
  unfold AH
  rcases(show t%2=0∨t%2=1 by omega) with h | h<;>simp[h]
 ·have h1 : ¬ t / 2 < l.length := by omega
  have h2:(Go.Sort.flatK AH 2 l.toArray).toList[t]? =none:=by simp;omega
  have h3:l[t/2]? =none:=by simp;omega
  rw[h2,h3];rfl
theorem Zl3 (C F:Array Value)(off:Nat)(h:off+F.size<=C.size):Go.Sort.putCells id off F C=(splice C.toList off F.toList).toArray:=by
 apply Array.ext_getElem?
 intro k
 unfold Go.Sort.putCells splice
 simp only[Array.getElem?_mapIdx,List.getElem?_toArray]
 by_cases h1:k<off
 ·have h2 : ¬ (off <= k /\ k < off + F.size) := by omega
  rw[List.append_assoc,List.getElem?_append_left (by simp;omega),List.getElem?_take,if_pos h1]
  cases hq:C[k]? with
  | none=>simp[hq]
  | some y=>simp[hq,h2]
 ·by_cases h2 : k < off + F.size
  ·have h3 : off <= k /\ k < off + F.size := ⟨by omega, h2⟩
   have hk:k<C.size:=by omega
   rw[List.getElem?_append_left (by simp;omega),List.getElem?_append_right (by simp;omega)]
   simp only[List.length_take,Array.length_toList,Nat.min_eq_left (show off<=C.size by omega)]
   have hf:k-off<F.size:=by omega
   simp[hk,h3,hf]
  ·have h3 : ¬ (off <= k /\ k < off + F.size) := by omega
   rw[List.getElem?_append_right (by simp;omega),List.getElem?_drop]
   simp only[List.length_append,List.length_take,Array.length_toList,Nat.min_eq_left (show off<=C.size by omega)]
   rw[show off+F.size+(k-(off+F.size))=k by omega]
   cases hq:C[k]? with
   | none=>simp[hq]
   | some y=>simp[hq,h3]
theorem Zp2 {g:FuncId}{f:AV}(h:HM g f=true):f=.fn (.func g) []:=by
 unfold HM at h
 split at h
 ·rw[Nat.eq_of_beq_eq_true h]
 ·simp at h
theorem Zh8 {P:Program}{ρ:Go.Shelf.Ren}(L:Go.Proofs.SlLaysF0.n6 P ρ)(aE:∀ w,(isAgg (ρ.t 24)).run P w=.ok true w)(zE:∀ w,(Go.sizeOf (ρ.t 24)).run P w=.ok 2 w){g:FuncId}(eg:∀ args w,(callFunc g args).run P w=.ok (.enter g args) w)
  (hcmp:∀ blk off size w,Go.Proofs.CmpLays P g #[] AH 2 G5 blk off size w) (hent:Enters P (ρ.f 6)):Uv P (ρ.f 6) fun _ _ _ xs A=>GD g xs A:=by
 refine⟨hent,fun E call args A x A' h c args' hr hgl hA hp hv=> ?_⟩
 change GD g args A=some (x,A') at h
 unfold GD at h
 split at h
 ·rename_i i v o len sz k f
  cases hc:(HM g f&&Nat.beq sz 2) with
  | false=>rw[hc] at h;simp at h
  | true=>
   rw[hc,cond_true] at h
   simp only[Bool.and_eq_true] at hc
   obtain⟨hf,hsz⟩:=hc
   obtain rfl:=Zp2 hf
   obtain rfl:sz=2:=Nat.eq_of_beq_eq_true hsz
   unfold XP at h
   split at h
   ·rename_i cs ver hAi
    cases hc2:(Nat.beq ver v&&Nat.ble (o+len*2) cs.length&&Nat.ble len Z5) with
    | false=>rw[hc2] at h;simp at h
    | true=>
     rw[hc2,cond_true] at h
     simp only[Bool.and_eq_true] at hc2
     obtain⟨⟨hve,hle⟩,hlim⟩:=hc2
     obtain rfl:v=ver:=(Nat.eq_of_beq_eq_true hve).symm
     have hle:o+len*2<=cs.length:=Nat.le_of_ble_eq_true hle
     cases hl:MB ((cs.drop o).take (len*2)) with
     | none=>rw[hl] at h;simp[UN] at h
     | some l=>
      rw[hl] at h
      simp only[UN,Option.some.injEq,Prod.mk.injEq] at h
      obtain⟨rfl,rfl⟩:=h
      have hcs:=Z5k _ _ hl
      have hll:l.length=len:=by
       have:=congrArg List.length hcs
       rw[TT,List.length_take,List.length_drop] at this
       omega
      subst hA
      have hpr:c.Pr i:=(hp i).2 (List.getElem?_eq_some_iff.1 hAi).1
      obtain⟨X,F,rfl⟩:∃ X F,args'= #[X,F]:=by
       have hn:=hv.length
       simp at hn
       match args' with
       | ⟨[X,F]⟩=>exact⟨X,F,rfl⟩
       | ⟨[]⟩=>simp at hn
       | ⟨[_]⟩=>simp at hn
       | ⟨_::_::_::_⟩=>simp at hn
      obtain⟨hvX,hvF⟩:VR c (.sref i v o len 2 k) X/\VR c (.fn (.func g) []) F:=by
       cases hv with
       | cons h1 h2=>cases h2 with
        | cons h3 _=>exact⟨h1,h3⟩
      obtain⟨cap,rfl,_,hlc,_,hbz,_⟩:=hvX.sref_inv (NN (H5 hAi))
      obtain⟨Xc,rfl,hc0⟩:∃ Xc:Array Value,F=.func (.func g) #[] Xc/\Xc.size=0:=by
       cases hvF with
       | fn hcap=>exact⟨_,rfl,by have:=hcap.length;simpa using this.symm⟩
      obtain rfl:Xc= #[]:=Array.eq_empty_of_size_eq_zero hc0
      obtain⟨C,e,hheap,hCs,hcC,hvC,hM⟩:=hr.mem hpr hAi
      have hsub:((C.toList.take cs.length).drop o).take (len*2)=EJ l:=by
       have:=((hvC.drop o).take (len*2))
       rw[hcs] at this
       exact Zc9 l _ this
      have hfl:∀ j,j<(Go.Sort.flatK AH 2 l.toArray).size->(Go.Sort.flatK AH 2 l.toArray)[j]! =C[o+j]! :=by
       intro j hj
       have hj2:j<len*2:=by rw[Go.Sort.size_flatK] at hj;simpa [hll] using hj
       have e1:(Go.Sort.flatK AH 2 l.toArray).toList[j]? =C[o+j]? :=by
        rw[Z81,<-hsub,List.getElem?_take,if_pos hj2,List.getElem?_drop,List.getElem?_take,if_pos (by omega)]
        simp
       have hoj:o+j<C.size:=by omega
       have e2:(Go.Sort.flatK AH 2 l.toArray)[j]? =C[o+j]? :=by simpa using e1
       simp only[Array.getElem!_eq_getD,Array.getD_eq_getD_getElem?,e2]
      have hH:Go.Sort.HoldsK AH 2 c.w (c.ρ i) o l.toArray:=by
       intro j hj
       have hj2:j<len*2:=by rw[Go.Sort.size_flatK] at hj;simpa [hll] using hj
       have hoj:o+j<C.size:=by omega
       refine⟨?_,?_⟩
       ·rw [hfl j hj]
        simp only[World.cell?,hheap]
        simp[hoj]
       ·simp only [World.frozen?, hheap]
        simp
      have hblk:c.ρ i<c.w.heap.size:=(Array.getElem?_eq_some_iff.1 hheap).1
      have hbig:l.toArray.size<4611686018427387904:=by
       have:=Nat.le_of_ble_eq_true hlim
       have hlim:Z5=1099511627776:=rfl
       simp[hll]
       omega
      have hcall:=Go.Proofs.AnyQ.slices_SortFunc_total L 2 aE zE AH (fun _=>rfl) (fun x v hv=>by simp[AH] at hv;rcases hv with rfl | rfl<;>rfl) G5 Znx g #[] (c.ρ i) o cap l.toArray c.w eg (hcmp _ _ _ _) hH hblk hbig Znw
      rw[show l.toArray.size=len by simpa using hll] at hcall
      refine hcall.mono ?_
      rintro e1 w' ⟨rfl,n,os,rfl⟩
      rw[Zno]
      have hsl:(JD l).length=len:=by rw[(SG l).length_eq,hll]
      have hFs:(Go.Sort.flatK AH 2 (JD l).toArray).size=len*2:=by simp[hsl]
      have hoC:o+len*2<=C.size:=by omega
      have hput:=Zl3 C (Go.Sort.flatK AH 2 (JD l).toArray) o (by rw[hFs];exact hoC)
      rw[Z81] at hput
      let C':Array Value:=(splice C.toList o (EJ (JD l))).toArray
      have hC's:C'.size=C.size:=by
       have:=UM C.toList o (EJ (JD l)) (by rw[Xv,hsl];simpa using hoC)
       simpa [C'] using this
      have hnew:(Go.Proofs.sortWorldK AH 2 c.w (c.ρ i) o n (JD l).toArray os).heap[c.ρ i]? =some (.cells C' e (0,0)):=by
       show(c.w.heap.modify (c.ρ i) (Go.Sort.onCells (Go.Sort.putCells id o (Go.Sort.flatK AH 2 (JD l).toArray)))++os)[c.ρ i]? =_
       rw[Array.getElem?_append_left (by simpa using hblk),Array.getElem?_modify]
       simp only[if_true,hheap,Option.map_some,Go.Sort.onCells,hput,C']
      have hold:∀ j,j<c.w.heap.size->j≠c.ρ i->(Go.Proofs.sortWorldK AH 2 c.w (c.ρ i) o n (JD l).toArray os).heap[j]? =c.w.heap[j]? :=by
       intro j hj hne
       show(c.w.heap.modify (c.ρ i) (Go.Sort.onCells (Go.Sort.putCells id o (Go.Sort.flatK AH 2 (JD l).toArray)))++os)[j]? =_
       rw[Array.getElem?_append_left (by simpa using hj),Array.getElem?_modify,if_neg (Ne.symm hne)]
      have hbs:YU (Go.Proofs.sortWorldK AH 2 c.w (c.ρ i) o n (JD l).toArray os) (c.ρ i)=YU c.w (c.ρ i):=by
       rw[<-hCs,<-hC's];unfold YU;rw[hnew]
      have hrel:∀ c',Ext c c'->BZ c' (.cells (splice cs o (BE (JD l))) v false) (.cells C' e (0,0)):=by
       intro c' ext
       have hcl:(BE (JD l)).length=len*2:=by rw[TT,hsl]
       have hvl:(EJ (JD l)).length=len*2:=by rw[Xv,hsl]
       have hspl:=UM cs o (BE (JD l)) (by rw[hcl];exact hle)
       refine⟨C',e,rfl,by rw[hspl,hC's];exact hcC,?_,hr.mem_okT hpr hAi hheap⟩
       have hsp:=hvC.splice (Z3l (JD l)) o
       have:C'.toList.take (splice cs o (BE (JD l))).length=splice (C.toList.take cs.length) o (EJ (JD l)):=by
        rw[hsp.length]
        exact Z48 _ _ _ _ (by omega) (by simp;omega) (by rw[hvl];simpa using hoC)
       rw[this]
       exact hsp.mono ext
      obtain⟨fr,rel⟩:=hr.turn (b':=.cells (splice cs o (BE (JD l))) v false) (o':=.cells C' e (0,0)) (w':=Go.Proofs.sortWorldK AH 2 c.w (c.ρ i) o n (JD l).toArray os) (r:=c.ρ i) (v:=v) (v':=v) hpr hAi rfl rfl rfl rfl (Nat.le_refl _) (fun _=>⟨rfl,hbs⟩) (.inl rfl) hnew hrel hold
       (by show c.w.heap.size<=(c.w.heap.modify (c.ρ i) (Go.Sort.onCells (Go.Sort.putCells id o (Go.Sort.flatK AH 2 (JD l).toArray)))++os).size;simp) rfl rfl rfl
      refine⟨.tuple #[],_,rfl,rfl,fr,rel,VR.undef,rfl,fun j=> ?_⟩
      simp[hp j]
   ·simp at h
 ·rename_i k f
  cases hf:HM g f with
  | false=>rw[hf] at h;simp at h
  | true=>
   rw[hf,cond_true] at h
   simp only[Option.some.injEq,Prod.mk.injEq] at h
   obtain⟨rfl,rfl⟩:=h
   subst hA
   obtain⟨X,F,rfl⟩:∃ X F,args'= #[X,F]:=by
    have hn:=hv.length
    simp at hn
    match args' with
    | ⟨[X,F]⟩=>exact⟨X,F,rfl⟩
    | ⟨[]⟩=>simp at hn
    | ⟨[_]⟩=>simp at hn
    | ⟨_::_::_::_⟩=>simp at hn
   have hvX:VR c (.d (.lst [] 0 k)) X:=by
    cases hv with
    | cons h1 h2=>exact h1
   obtain⟨ad,cap,rfl,_⟩:=hvX.lst_inv
   refine(Go.Proofs.AnyF.slices_SortFunc_none L ad cap F c.w).mono ?_
   rintro e1 w' ⟨rfl,rfl⟩
   exact⟨.tuple #[],c,rfl,rfl,Fr.refl c,hr,VR.undef,rfl,hp⟩
 ·simp at h
end Go.Aug
