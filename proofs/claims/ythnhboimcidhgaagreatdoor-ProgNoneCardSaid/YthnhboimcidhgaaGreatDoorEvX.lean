import Derived.Test.YthnhboimcidhgaaGreatDoorEvZ
namespace Go.Aug
open Go
@[go_sem] theorem f_d (n:Nat) (x:DV):refsOf (n+1) (.d x)=[]:=id rfl
@[go_sem] theorem f_ref (n i v o:Nat):refsOf (n+1) (.ref i v o)=[i]:=id rfl
@[go_sem] theorem f_sref (n i v o len sz:Nat) (k:Option Nat):refsOf (n+1) (.sref i v o len sz k)=[i]:=id rfl
@[go_sem] theorem f_agg (n:Nat) (cs:List AV):refsOf (n+1) (.agg cs)=cs.flatMap (refsOf n):=id rfl
@[go_sem] theorem f_tup (n:Nat) (cs:List AV):refsOf (n+1) (.tup cs)=cs.flatMap (refsOf n):=id rfl
@[go_sem] theorem f_bot (n:Nat):refsOf (n+1) .bot=[]:=id rfl
@[go_sem] theorem f_cells (cs:List AV) (v:Nat) (ro:Bool):refsB (some (.cells cs v ro))=cs.flatMap (refsOf 8):=id rfl
@[go_sem] theorem f_reach0 (A:List Blk) (n0 k:Nat) (seen:List Nat):reach A n0 k [] seen=seen:=by cases k<;>rfl
@[go_sem] theorem f_idx0 (i:Nat):idx [] i=none:=id rfl
@[go_sem] theorem f_idxS (j:Nat) (l:List Nat) (i:Nat):idx (j::l) i=if j=i then some 0 else(idx l i).map (·+1):=by
 show(bif Nat.beq j i then some 0 else(idx l i).map (·+1))=_
 by_cases h:j=i
 ·subst h;simp
 ·have:Nat.beq j i=false:=by
   cases hb:Nat.beq j i with
   | false=>rfl
   | true=>exact absurd (Nat.eq_of_beq_eq_true hb) h
  rw[this,if_neg h];rfl
def spotV (v:Nat):Option Blk->Option Nat->Option (Nat×Nat)
 | some (.cells _ v' _),some m=>if v'=v then some (m,0) else none
 | some (.iter _ _),some m=>if 0=v then some (m,0) else none
 | _,_=>none
@[go_sem] theorem f_spotV (v v':Nat) (cs:List AV) (ro:Bool) (m:Nat):spotV v (some (.cells cs v' ro)) (some m)=if v'=v then some (m,0) else none:=id rfl
@[go_sem] theorem f_spot (A:List Blk) (ids:List Nat) (i v:Nat):spot A 0 ids i v=spotV v A[i]? (idx ids i):=by
 have h1:Nat.blt i 0=false:=by
  cases hq:Nat.blt i 0 with
  | false=>rfl
  | true=>exact absurd (Nat.le_of_ble_eq_true hq) (by omega)
 show(bif Nat.blt i 0 then _ else _)=_
 rw[h1,cond_false]
 unfold blkVer
 cases A[i]? with
 | none=>rfl
 | some b=>
  cases b with
  | cells cs v' ro=>
   cases idx ids i with
   | none=>rfl
   | some m=>
    show(bif Nat.beq v' v then some (0+m,0) else none)=if v'=v then some (m,0) else none
    by_cases h:v'=v
    ·subst h;simp
    ·have:Nat.beq v' v=false:=by
      cases hb:Nat.beq v' v with
      | false=>rfl
      | true=>exact absurd (Nat.eq_of_beq_eq_true hb) h
     rw[this,if_neg h];rfl
  | iter s p=>
   cases idx ids i with
   | none=>rfl
   | some m=>
    show(bif Nat.beq 0 v then some (0+m,0) else none)=if 0=v then some (m,0) else none
    by_cases h:0=v
    ·subst h;simp
    ·have:Nat.beq 0 v=false:=by
      cases hb:Nat.beq 0 v with
      | false=>rfl
      | true=>exact absurd (Nat.eq_of_beq_eq_true hb) h
     rw[this,if_neg h];rfl
  | free=>rfl
def refAt (o:Nat):Option (Nat×Nat)->AV
 | some p=>.ref p.1 p.2 o
 | none=>.bot
def srefAt (o len sz:Nat)(k:Option Nat):Option (Nat×Nat)->AV
 | some p=>.sref p.1 p.2 o len sz k
 | none=>.bot
@[go_sem] theorem f_refAt (o:Nat) (p:Nat×Nat):refAt o (some p)=.ref p.1 p.2 o:=id rfl
@[go_sem] theorem f_srefAt (o len sz:Nat) (k:Option Nat) (p:Nat×Nat):srefAt o len sz k (some p)=.sref p.1 p.2 o len sz k:=id rfl
@[go_sem] theorem ren_ref (A:List Blk) (n0:Nat) (ids:List Nat) (n i v o:Nat):ren A n0 ids (n+1) (.ref i v o)=refAt o (spot A n0 ids i v):=by
 show(match spot A n0 ids i v with | some p=>AV.ref p.1 p.2 o | none=>.bot)=_
 cases spot A n0 ids i v<;>rfl
@[go_sem] theorem ren_sref (A:List Blk) (n0:Nat) (ids:List Nat) (n i v o len sz:Nat) (k:Option Nat):ren A n0 ids (n+1) (.sref i v o len sz k)=srefAt o len sz k (spot A n0 ids i v):=by
 show(match spot A n0 ids i v with | some p=>AV.sref p.1 p.2 o len sz k | none=>.bot)=_
 cases spot A n0 ids i v<;>rfl
@[go_sem] theorem ren_agg (A:List Blk) (n0:Nat) (ids:List Nat) (n:Nat) (cs:List AV):ren A n0 ids (n+1) (.agg cs)=.agg (cs.map (ren A n0 ids n)):=id rfl
@[go_sem] theorem ren_tup (A:List Blk) (n0:Nat) (ids:List Nat) (n:Nat) (cs:List AV):ren A n0 ids (n+1) (.tup cs)=.tup (cs.map (ren A n0 ids n)):=id rfl
@[go_sem] theorem ren_bot (A:List Blk) (n0:Nat) (ids:List Nat) (n:Nat):ren A n0 ids (n+1) .bot=.bot:=id rfl
def renO (A:List Blk)(ids:List Nat):Option Blk->Blk
 | some b=>renB A 0 ids false b
 | none=>.free
@[go_sem] theorem f_renO (A:List Blk) (ids:List Nat) (cs:List AV) (v:Nat) (ro:Bool):renO A ids (some (.cells cs v ro))=.cells (cs.map (ren A 0 ids 8)) 0 ro:=id rfl
@[go_sem] theorem f_renH (A:List Blk) (ids:List Nat):renH A 0 ids=ids.map fun i=>renO A ids A[i]? :=by
 unfold renH
 simp only[List.take_zero,List.map_nil,List.nil_append]
 refine List.map_congr_left fun i _=> ?_
 rw[List.getD_eq_getElem?_getD]
 cases A[i]? <;>rfl
attribute [go_sem] refs_map_d ren_map_d List.flatMap_cons List.flatMap_nil List.map_map
class Cl (α:Type) where
 n:Nat
 cells:α->List DV
 len:∀ a,(cells a).length=n
@[go_sem] theorem ren_d (A:List Blk) (n0:Nat) (ids:List Nat) (n:Nat) (x:DV):ren A n0 ids (n+1) (.d x)=.d x:=id rfl
end Go.Aug
