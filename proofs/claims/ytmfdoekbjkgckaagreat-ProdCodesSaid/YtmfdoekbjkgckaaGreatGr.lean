import Derived.Test.YtmfdoekbjkgckaaGreatEvM
import Derived.Shelf.Spec.SlicesGrow
namespace Go.Aug
open Go Go.RowKit
set_option linter.unusedVariables false
set_option linter.unusedSimpArgs false
def KH (n:Nat):AV:=.d (.v (.int .u8 n))
def Tz (A:List Blk)(n:Int):Option (AV×List Blk):=
 if n=0 then some (.d (.lst [] 0 (some 0)),A) else if 0<n/\n.toNat<=Z4 then some (.sref A.length 0 0 0 1 none,A++[.cells (rep [KH 0] n.toNat) 0 false]) else none
def D7 (xs:List AV)(A:List Blk):Option (AV×List Blk):=
 match xs with
 | [.d (.lst [] 0 (some 0)),.d (.v (.int .i64 n))]=>Tz A n
 | _=>none
theorem XH {c:Cx}:∀ n,VRs c (rep [KH 0] n) (List.replicate n (.int .u8 0))
 | 0=>.nil
 | n+1=>.cons (VR.vv rfl) (XH n)
theorem Zdz {c:Cx}(hr:Rel c){A:List Blk}{nb:Nat}{b:Blk}{ob:Obj}{w':World}{x:AV}{X:Value}(hnb:¬c.Pr nb)(hA:∀ i,c.Pr i->A[i]? =c.A[i]?)(hver:∀ i v,Zk c.A i=some v->Zk A i=some v)(hb:A[nb]? =some b)
  (hh:w'.heap=c.w.heap.push ob) (h1:w'.os=c.w.os) (h2:w'.tape=c.w.tape) (h3:w'.output=c.w.output) (hv0:b.ver=some 0) (hro:b.ro=false) (hrel:Aq c b ob) (hnew:Z7m nb c.w.heap.size ob x X):
  ∃ c',c'.w=w'/\Fr c c'/\Rel c'/\VR c' x X/\c'.A=A/\c'.Pr=(fun i=>c.Pr i∨i=nb):=by
 obtain⟨fr,rel⟩:=hr.alloc hnb hA hver hb hro hrel hh h1 h2 h3
 refine⟨_,rfl,fr,rel,?_,rfl,rfl⟩
 have hver':Zk A nb=some 0:=by simp[Zk,hb,hv0]
 rcases hnew with⟨rfl,rfl⟩ | ⟨len,s,k,cap,rfl,rfl,hl,hk,C,e,frz,rfl,hC⟩
 ·have := VR.ref (c := ⟨c.I, fun i => if i = nb then c.w.heap.size else c.ρ i, w', A, fun i => c.Pr i ∨ i = nb⟩) (off := 0) (.inr rfl) hver'
  simpa using this
 ·have hbs : Yz w' c.w.heap.size = C.size := by unfold Yz; rw [hh]; simp
  have:=VR.sref (c:=⟨c.I,fun i=>if i=nb then c.w.heap.size else c.ρ i,w',A,fun i=>c.Pr i∨i=nb⟩) (i:=nb) (ver:=0) (off:=0) (sz:=s) (k:=k) (.inr rfl) hver' hl hk (by simp[hbs,hC]) (fun _=>by simp[hbs,hC])
  simpa using this
theorem Zab (n:Nat):(Builtin.zeroCells (Value.int .u8 0).cells n).toList=List.replicate n (.int .u8 0):=by
 unfold Builtin.zeroCells
 rw[Sz _ (by simp[Value.cells]) n]
 have:∀ n,rep (Value.int .u8 0).cells.toList n=List.replicate n (.int .u8 0):=by
  intro n
  induction n with
  | zero=>rfl
  | succ n ih=>
   rw[List.replicate_succ,<-ih];rfl
 exact this n
theorem Zfv {P:Program}{ρ:Go.Shelf.Ren}(L:Go.Proofs.Lays8.n4 P ρ){i0:TypeInfo}(hi0:P.info? (ρ.t 25)=some i0)(hz0:i0.zero=some (.int .u8 0))(hs0:i0.size=1)(hb0:i0.bytes=1)(hok:DD (ρ.t 25)=true)(hent:Enters P (ρ.f 4)):
  RT P (ρ.f 4) fun _ _ _ xs A=>D7 xs A:=by
 refine⟨hent,fun E call args A x A' h c args' hr hgl hA hp hv=> ?_⟩
 change D7 args A=some (x,A') at h
 unfold D7 at h
 split at h
 ·rename_i n
  subst hA
  obtain⟨X,N,rfl⟩:∃ X N,args'= #[X,N]:=by
   have hn:=hv.length
   simp at hn
   match args' with
   | ⟨[X,F]⟩=>exact⟨X,F,rfl⟩
   | ⟨[]⟩=>simp at hn
   | ⟨[_]⟩=>simp at hn
   | ⟨_::_::_::_⟩=>simp at hn
  obtain⟨hvX,hvN⟩:VR c (.d (.lst [] 0 (some 0))) X/\VR c (aI n) N:=by
   cases hv with
   | cons h1 h2=>cases h2 with
    | cons h3 _=>exact⟨h1,h3⟩
  obtain rfl:=hvN.v_inv
  obtain⟨ad,cap,rfl,_,hk,_⟩:=hvX.lst_inv
  obtain rfl:cap=0:=hk 0 rfl
  unfold Tz at h
  split at h
  ·rename_i hn
   subst hn
   simp only[Option.some.injEq,Prod.mk.injEq] at h
   obtain⟨rfl,rfl⟩:=h
   refine(Go.Proofs.Any8.slices_Grow_room L ad 0 0 0 c.w (Nat.le_refl _) (by omega) (by omega) (by omega)).mono ?_
   rintro e w' ⟨rfl,rfl⟩
   exact⟨_,c,rfl,rfl,Fr.refl c,hr,hvX,rfl,hp⟩
  ·split at h
   ·rename_i hn
    obtain⟨hn0,hnl⟩:=hn
    simp only[Option.some.injEq,Prod.mk.injEq] at h
    obtain⟨rfl,rfl⟩:=h
    obtain⟨m,rfl⟩:∃ m:Nat,n=m:=⟨n.toNat,by omega⟩
    have hlim:Z4=1099511627776:=rfl
    simp only[Int.toNat_natCast] at *
    have hg:=Go.Proofs.Any8.slices_Grow_grow L i0 _ hi0 hz0 (by omega) ad 0 0 m [] c.w (Nat.le_refl _) (by omega) (by rw[hb0];omega) (by omega) (by simp) (fun _=>rfl) (fun a _ j v hj=>by simp at hj)
    refine hg.mono ?_
    rintro e w' ⟨rfl,rfl⟩
    have hge:=grownCap_ge c.w (0+m) 0 (ρ.t 25)
    generalize grownCap c.w (0+m) 0 (ρ.t 25)=cp at *
    have nnb:¬c.Pr c.A.length:=fun hq=>by have:=(hp _).1 hq;omega
    have hC:(#[]++Builtin.zeroCells (Value.int .u8 0).cells (0+m-0)++Builtin.zeroCells (Value.int .u8 0).cells (cp-(0+m)):Array Value).toList=List.replicate m (.int .u8 0)++List.replicate (cp-m) (.int .u8 0):=by
     simp[Zab]
    have hCs:(#[]++Builtin.zeroCells (Value.int .u8 0).cells (0+m-0)++Builtin.zeroCells (Value.int .u8 0).cells (cp-(0+m)):Array Value).size=cp:=by
     rw[<-Array.length_toList,hC];simp;omega
    have hcl:(rep [KH 0] m).length=m:=by rw[UQ];simp
    obtain⟨c',hw,fr,rel,hvx,hA',hP'⟩:=Zdz (w':=c.w.drew.alloc (.cells (#[]++Builtin.zeroCells (Value.int .u8 0).cells (0+m-0)++Builtin.zeroCells (Value.int .u8 0).cells (cp-(0+m))) (ρ.t 25))) (x:=.sref c.A.length 0 0 0 1 none) (X:=.slice (some ⟨c.w.heap.size,0,none⟩) 0 cp) hr nnb (A:=c.A++[.cells (rep [KH 0] m) 0 false]) (b:=.cells (rep [KH 0] m) 0 false)
     (ob:=.cells (#[]++Builtin.zeroCells (Value.int .u8 0).cells (0+m-0)++Builtin.zeroCells (Value.int .u8 0).cells (cp-(0+m))) (ρ.t 25))
     (fun i hi => List.getElem?_append_left ((hp i).1 hi)) (fun i v hv => by
      obtain⟨b,hb,hbv⟩:=C1 hv
      have hi:i<c.A.length:=(List.getElem?_eq_some_iff.1 hb).1
      unfold Zk
      rw[List.getElem?_append_left hi,hb]
      simpa using hbv) (by simp) rfl rfl rfl rfl rfl rfl
     ⟨_,_,rfl,by rw[hCs,hcl];omega,by rw[hcl,hC,List.take_left' (by simp)];exact XH m,hok⟩
     (.inr ⟨0,1,none,cp,rfl,rfl,Nat.zero_le _,(fun n hn=>by simp at hn),_,_,_,rfl,by rw[hCs];omega⟩)
    refine⟨_,c',rfl,hw,fr,rel,hvx,hA',fun j=> ?_⟩
    rw[hP']
    simp only[hp j,List.length_append,List.length_cons,List.length_nil]
    omega
   ·simp at h
 ·simp at h
end Go.Aug
