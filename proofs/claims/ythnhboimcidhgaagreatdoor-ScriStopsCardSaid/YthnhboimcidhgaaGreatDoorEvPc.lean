import Derived.Test.YthnhboimcidhgaaGreatDoorEvP
import Derived.Test.YthnhboimcidhgaaGreatDoorEvV
namespace Go.Aug
open Go
class Cl1 (α:Type) [Cl α]:Prop where
 one:∀ a:α,((Cl.cells a).all fun x=>(AV.d x).one)=true
 flat:∀ a:α,((Cl.cells a).all fun x=>DV.flat 6 x)=true
instance:Cl1 Int:=⟨fun _=>rfl,fun _=>rfl⟩
instance:Cl1 Ent:=⟨fun _=>rfl,fun _=>rfl⟩
instance:Cl1 Dir:=⟨fun _=>rfl,fun _=>rfl⟩
instance:Cl1 Obs:=⟨fun _=>rfl,fun _=>rfl⟩
instance:Cl1 Ins:=⟨fun _=>rfl,fun _=>rfl⟩
instance:Cl1 MemT:=⟨fun _=>rfl,fun _=>rfl⟩
instance:Cl1 Label:=⟨fun _=>rfl,fun _=>rfl⟩
instance:Cl1 Place:=⟨fun _=>rfl,fun _=>rfl⟩
theorem rowC_one {α:Type} [Cl α] [Cl1 α]:∀ l:List α,((rC l).all fun x=>(AV.d x).one)=true
 | []=>rfl
 | a::l=>by
  show((Cl.cells a++rC l).all _)=true
  rw[List.all_append,Cl1.one,rowC_one l];rfl
section
variable {α:Type} [Cl α] [Cl1 α] {s bytes:Nat}
theorem cloneG_row (hs:s=Cl.n α)(l:List α)(h:l.length*bytes<=limA/\l.length<=limA):cloneG s bytes [rD l]=some (ownA 0 l,ownB l):=by
 subst hs
 show(if l.length=0 then(if(rC l).isEmpty then some (AV.d (.lst [] 0 (some 0)),[]) else none)
  else if(rC l).length=l.length*Cl.n α/\l.length*bytes<=limA/\l.length<=limA/\((rC l).all fun x=>(AV.d x).one)=true then some (AV.sref 0 0 0 l.length (Cl.n α) none,[Blk.cells ((rC l).map .d) 0 false]) else none)=_
 cases l with
 | nil=>rfl
 | cons a l=>
  rw[if_neg (by simp),if_pos ⟨rowC_len _,h.1,h.2,rowC_one _⟩];rfl
theorem mapD_dd (A:List Blk)(n:Nat):∀ cs:List DV,mapD (deep A (n+1)) (cs.map .d)=some (cs,[])
 | []=>rfl
 | x::cs=>by
  rw[List.map_cons,mapD_cons,mapD_dd A n cs,deep_d];rfl
omit [Cl1 α] in
theorem deep_own {i v:Nat}{A:List Blk}{ro:Bool}{l:List α}(h0:l≠[])(h:A[i]? =some (.cells ((rC l).map .d) v ro))(n:Nat)(k:Option Nat):deep A (n+2) (.sref i v 0 l.length (Cl.n α) k)=some (.lst (rC l) l.length k,[i]):=by
 have hl:l.length≠0:=by cases l<;>simp_all
 have hc:cellsAt A i v 0=some ((rC l).map .d):=by simp[cellsAt,h]
 unfold deep
 simp only[hl,if_false,hc,List.length_map,rowC_len,Nat.le_refl,if_true]
 rw[List.take_of_length_le (by simp[rowC_len]),mapD_dd]
 rfl
variable {E:Env} {call:cT} {g:FuncId}
theorem clone_deep (hp:E.prim g=some (cloneG s bytes))(hs:s=Cl.n α)(l:List α)(h:l.length*bytes<=limA/\l.length<=limA)(A:List Blk)(nb:Nat):
  evOwnK false E call g A nb (some ([rD l],[]))=some (.made (.d (rD l)) []):=by
 simp only[evOwnK,evRaw,hp,cloneG_row hs l h,evAnsB,cond_false]
 cases l with
 | nil=>rfl
 | cons a l=>
  show deeped A [] (deep [.cells ((rC (a::l)).map .d) 0 false] 8 (.sref 0 0 0 (a::l).length (Cl.n α) none))=_
  rw[deep_own (by simp) rfl];rfl
theorem all_d (cs:List DV):((cs.map AV.d).all fun x=>match x with | .d _=>true | _=>false)=true:=by
 rw[List.all_map,List.all_eq_true];intro x _;rfl
theorem rowC_flat:∀ l:List α,((rC l).all fun x=>DV.flat 6 x)=true
 | []=>rfl
 | a::l=>by
  show((Cl.cells a++rC l).all _)=true
  rw[List.all_append,Cl1.flat,rowC_flat l];rfl
theorem clone_own (hp:E.prim g=some (cloneG s bytes))(hs:s=Cl.n α)(l:List α)(h:l.length*bytes<=limA/\l.length<=limA)(A:List Blk)(nb:Nat)(us:List Nat):
  evOwnK true E call g A nb (some ([rD l],us))=some (.made (ownA nb l) (ownB l)):=by
 simp only[evOwnK,evRaw,hp,cloneG_row hs l h,evAnsB,cond_true]
 cases l with
 | nil=>
  show(bif isEmptyL us || true then some (Done.made (ownA nb ([]:List α)) (ownB ([]:List α))) else _)=_
  rw[Bool.or_true];rfl
 | cons a l=>
  have h1:thaw [.cells ((rC (a::l)).map .d) 0 false] nb 6 (.sref 0 0 0 (a::l).length (Cl.n α) none) [] []=some (.sref nb 0 0 (a::l).length (Cl.n α) none,[.cells ((rC (a::l)).map .d) 0 false],[0]):=by
   unfold thaw
   simp only[List.getElem?_cons_zero,memN_nil]
   exact if_pos ⟨trivial,trivial,all_d _⟩
  show thawed A us (thaw [.cells ((rC (a::l)).map .d) 0 false] nb 6 (.sref 0 0 0 (a::l).length (Cl.n α) none) [] [])=_
  rw[h1]
  have hf:flatBs [.cells ((rC (a::l)).map .d) 0 false]=true:=by
   show(((rC (a::l)).map AV.d).all _&&true)=true
   rw[Bool.and_true,List.all_map]
   exact rowC_flat (a::l)
  show(bif isEmptyL us || (true&&flatBs [.cells ((rC (a::l)).map .d) 0 false]) then _ else _)=_
  rw[hf,Bool.and_true,Bool.or_true]
  rfl
end
@[go_sem] theorem ren_comp (A:List Blk) (n0:Nat) (ids:List Nat) (n:Nat):(ren A n0 ids (n+1)) ∘ AV.d=AV.d:=rfl
@[go_sem] theorem rowC_nil {α:Type} [Cl α]:rC ([]:List α)=[]:=id rfl
@[go_sem] theorem m_ixL (cs:List DV) (len:Nat) (k:Option Nat) (kk:IntKind) (i:Int) (s:Nat):evIxS (.d (.lst cs len k)) (.d (.v (.int kk i))) s=if 0<=i/\i<len/\i.toNat*s<=cs.length then some (.d (.vptr (cs.drop (i.toNat*s)))) else none:=id rfl
@[go_sem] theorem m_ixR (b ver off len sz:Nat) (k:Option Nat) (kk:IntKind) (i:Int) (s:Nat):evIxS (.sref b ver off len sz k) (.d (.v (.int kk i))) s=if 0<=i/\i<len/\sz=s then some (.ref b ver (off+i.toNat*s)) else none:=id rfl
def callV (E:Env)(call:cT)(tm:List AV)(A:List Blk)(nb:Nat)(args:List Opd)(f:AV):Option Done:=callA E call A nb (target (args.map (look tm)) f)
@[go_sem] theorem o_callT (E:Env) (call:cT) (tm:List AV) (A:List Blk) (nb t:Nat) (args:List Opd):oK (.t t) args E call tm A nb=callV E call tm A nb args (look tm (.t t)):=id rfl
theorem evCall_K (E:Env)(l:Nat->Option (List Nat))(m:Nat)(call:cT)(A:List Blk)(nb:Nat)(g:FuncId)(xs:List AV)(h:memN g E.br=false):
  evCall { br:=E.br,th:=E.th,prim:=E.prim,back:=E.back,lives:=E.lives,live:=l,nb0:=m } call g xs A nb=evOwnK (memN g E.th || isSomeL (l (thKey g))) E call g A nb (fkP (mapD (deep A 8) xs)):=by
 unfold evCall
 show(bif memN g E.br then _ else _)=_
 rw[h,cond_false]
 cases mapD (deep A 8) xs with
 | none=>rfl
 | some p=>
  obtain⟨ds,used⟩:=p
  show evAnswer _ g A nb used _=evAnsB _ A nb used _
  show evAnswer _ g A nb used (evRaw E call g (ds.map (fk 4)))=_
  cases evRaw E call g (ds.map (fk 4))<;>rfl
@[go_sem] theorem o_callVd (E : Env) (l : Nat -> Option (List Nat)) (m : Nat) (call : cT) (tm : List AV) (A : List Blk) (nb : Nat) (g : FuncId) (args : List Opd) (cap : List DV) (h : memN g E.br = false) :
  callV { br:=E.br,th:=E.th,prim:=E.prim,back:=E.back,lives:=E.lives,live:=l,nb0:=m } call tm A nb args (.d (.fn (.func g) cap))=evOwnK (memN g E.th || isSomeL (l (thKey g))) E call g A nb (fkP (mapD (deep A 8) (args.map (look tm)++cap.map .d))):=
 evCall_K E l m call A nb g _ h
@[go_sem] theorem fk_vptr (n:Nat) (cs:List DV):fk n (.vptr cs)=.vptr cs:=by cases n<;>rfl
def setRoK (A:List Blk)(i:Nat)(r:List Nat):Option Blk->List Blk
 | some (.cells cs v _)=>setRo (A.set i (.cells cs v true)) r
 | _=>setRo A r
@[go_sem] theorem ro_nil (A:List Blk):setRo A []=A:=id rfl
@[go_sem] theorem ro_cons (A:List Blk) (i:Nat) (r:List Nat):setRo A (i::r)=setRoK A i r A[i]? :=by
 show(match A[i]? with | some (.cells cs v _)=>setRo (A.set i (.cells cs v true)) r | _=>setRo A r)=_
 cases A[i]? with
 | none=>rfl
 | some b=>cases b<;>rfl
@[go_sem] theorem ro_some (A:List Blk) (i:Nat) (r:List Nat) (cs:List AV) (v:Nat) (ro:Bool):setRoK A i r (some (.cells cs v ro))=setRo (A.set i (.cells cs v true)) r:=id rfl
@[go_sem] theorem c_end (A:List Blk) (cs:List AV) (v w:Nat) (ro:Bool) (o:Nat):cellsAt (A++[.cells cs v ro]) A.length w o=if v=w then some (cs.drop o) else none:=by
 unfold cellsAt
 rw[List.getElem?_append_right (Nat.le_refl _),Nat.sub_self]
 rfl
@[go_sem] theorem g_end (A:List Blk) (b:Blk):(A++[b])[A.length]? =some b:=by
 rw[List.getElem?_append_right (Nat.le_refl _),Nat.sub_self];rfl
@[go_sem] theorem s_end (A:List Blk) (b c:Blk):(A++[b]).set A.length c=A++[c]:=by
 rw[List.set_append_right _ _ (Nat.le_refl _),Nat.sub_self];rfl
@[go_sem] theorem p_put0 (tm xs:List AV):putPs tm [] xs=tm:=by cases xs<;>rfl
@[go_sem] theorem p_put (tm:List AV) (p:Nat) (ps:List Nat) (x:AV) (xs:List AV):putPs tm (p::ps) (x::xs)=putPs (setA tm p x) ps xs:=id rfl
@[go_sem] theorem e_range (f:Opd) (ps:List Nat) (a b:CT) (E:Env) (call:cT) (kn:K) (kx:Nat->K) (kr:K) (tm:List AV) (A:List Blk):cRange f ps a b E call kn kx kr tm A=rangeK a b ps E call kn kx kr tm A (rangeElems E (look tm f)):=id rfl
@[go_sem] theorem e_rangeS (ps:List Nat) (a b:CT) (E:Env) (call:cT) (kn:K) (kx:Nat->K) (kr:K) (tm:List AV) (A:List Blk) (es:List (List AV)):rangeK a b ps E call kn kx kr tm A (some es)=roundsK a b ps E call kn kx kr tm es A:=id rfl
theorem elems_row {α:Type} [Cl α] {E:Env}{g s:Nat}{ag:Bool}(h:E.back g=some (s,ag))(hs:s=Cl.n α)(l:List α)(hl:l.length<=limA)(h0:s≠0)(h1:ag=false->s=1)(r:List DV):rangeElems E (.d (.fn (.func g) [.vptr (rD l::r)]))=backElems (rC l) s ag l.length:=by
 show(match E.back g with | some (s,ag)=>if(rC l).length=l.length*s/\l.length<=limA/\s≠0/\(ag=false->s=1) then backElems (rC l) s ag l.length else none | none=>none)=_
 rw[h]
 exact if_pos ⟨by rw[rowC_len,hs],hl,h0,h1⟩
theorem back_some {α:Type} [Cl α] {s:Nat}(hs:s=Cl.n α)(l:List α):∀ k,k<=l.length->∃ es,backElems (rC l) s true k=some es
 | 0,_=>⟨[],rfl⟩
 | k+1,h=>by
  obtain⟨es,he⟩:=back_some hs l k (by omega)
  subst hs
  have:=take_row (s:=Cl.n α) rfl (l[k]'(by omega)) (rC (l.drop (k+1)))
  rw[<-rowC_at (by omega:k<l.length)] at this
  refine⟨[aI k,.d (.agg (Cl.cells (l[k]'(by omega))))]::es,?_⟩
  show(match takeVarD true (Cl.n α) ((rC l).drop (k*Cl.n α)),backElems (rC l) (Cl.n α) true k with | some x,some r=>some ([aI k,.d x]::r) | _,_=>none)=_
  rw[this,he]
theorem back_succ {α:Type} [Cl α] {s:Nat}(hs:s=Cl.n α){l:List α}{k:Nat}{e:α}(he:l[k]? =some e){es es':List (List AV)}(h:backElems (rC l) s true k=some es)(h':backElems (rC l) s true (k+1)=some es'):es'=[aI k,.d (.agg (Cl.cells e))]::es:=by
 obtain⟨hk,rfl⟩:=List.getElem?_eq_some_iff.1 he
 subst hs
 have:=take_row (s:=Cl.n α) rfl l[k] (rC (l.drop (k+1)))
 rw[<-rowC_at hk] at this
 have h2:backElems (rC l) (Cl.n α) true (k+1)=(match takeVarD true (Cl.n α) ((rC l).drop (k*Cl.n α)),backElems (rC l) (Cl.n α) true k with | some x,some r=>some ([aI k,.d x]::r) | _,_=>none):=rfl
 rw[h2,this,h] at h'
 simp only[Option.some.injEq] at h'
 exact h'.symm
@[go_sem] theorem nc_sref (A:List Blk) (s i v o len sz:Nat) (k:Option Nat):newCells A false s (.sref i v o len sz k)=(cellsAt A i v o).bind fun cs=>if s=sz/\len*sz<=cs.length then some (cs.take (len*sz),len) else none:=by
 show(match cellsAt A i v o with | some cs=>if s=sz/\len*sz<=cs.length then some (cs.take (len*sz),len) else none | none=>none)=_
 cases cellsAt A i v o<;>rfl
@[go_sem] theorem nc_lst0 (A:List Blk) (s:Nat) (k:Option Nat):newCells A false s (.d (.lst [] 0 k))=some ([],0):=by
 show(if([]:List DV).length=0*s then some (([]:List DV).map AV.d,0) else none)=_
 rw[if_pos (by simp)];rfl
@[go_sem] theorem app_same (A:List Blk) (s bytes i v o len sz:Nat) (k:Option Nat) (new:List AV):evApp A s bytes (.sref i v o len sz k) new 0=some .same:=id rfl
@[go_sem] theorem app_sameD (A:List Blk) (s bytes len:Nat) (cs:List DV) (k:Option Nat) (new:List AV):evApp A s bytes (.d (.lst cs len k)) new 0=some .same:=id rfl
def slR (i ver off s:Nat)(k:Option Nat):Option (Nat×Nat×Nat)->Option AV
 | some (l,h,_)=>if l=h/\l≠0 then some (.d (.lst [] 0 none)) else some (.sref i ver (off+l*s) (h-l) s (k.map (·-l)))
 | none=>none
@[go_sem] theorem slR_some (i ver off s l h m:Nat) (k:Option Nat):slR i ver off s k (some (l,h,m))=if l=h/\l≠0 then some (.d (.lst [] 0 none)) else some (.sref i ver (off+l*s) (h-l) s (k.map (·-l))):=id rfl
@[go_sem] theorem w_slR (tm:List AV) (i ver off len s:Nat) (k:Option Nat) (lo hi:Option Opd):evSlS tm (.sref i ver off len s k) lo hi none s=slR i ver off s k (bndsV len (lookO tm lo) (lookO tm hi) none):=by
 show(match evBounds len tm lo hi none with
  | some (l,h,m)=>if s≠s then none else if l=h/\l≠0 then some (AV.d (.lst [] 0 (if(none:Option Opd).isSome=true/\m=l then some 0 else none))) else some (.sref i ver (off+l*s) (h-l) s (capOf none m l k))
  | none=>none)=_
 rw[bounds_V]
 show _=slR i ver off s k (bndsV len (lookO tm lo) (lookO tm hi) none)
 show(match bndsV len (lookO tm lo) (lookO tm hi) none with | some (l,h,m)=>_ | none=>none)=_
 cases bndsV len (lookO tm lo) (lookO tm hi) none with
 | none=>rfl
 | some q=>
  obtain⟨l,h,m⟩:=q
  show(if s≠s then none else if l=h/\l≠0 then _ else _)=if l=h/\l≠0 then _ else _
  rw[if_neg (by simp)]
  rfl
@[go_sem] theorem deep_s0 (A:List Blk) (n i v o sz:Nat) (k:Option Nat):deep A (n+1) (.sref i v o 0 sz k)=some (.lst [] 0 none,[]):=id rfl
@[go_sem] theorem deep_fn (A:List Blk) (n:Nat) (f:Fn) (cs:List AV):deep A (n+1) (.fn f cs)=(mapD (deep A n) cs).map fun r:List DV×List Nat=>(DV.fn f r.1,r.2):=id rfl
theorem deep_ref (A:List Blk)(n i v o:Nat):deep A (n+1) (.ref i v o)=(cellsAt A i v o).bind fun cs=>(mapD (deep A n) cs).map fun r:List DV×List Nat=>(DV.vptr r.1,i::r.2):=by
 show(match cellsAt A i v o with | some cs=>(mapD (deep A n) cs).map (fun r:List DV×List Nat=>(DV.vptr r.1,i::r.2)) | none=>none)=_
 cases cellsAt A i v o<;>rfl
@[go_sem] theorem ren_fn (A:List Blk) (n0:Nat) (ids:List Nat) (n:Nat) (f:Fn) (cs:List AV):ren A n0 ids (n+1) (.fn f cs)=.fn f (cs.map (ren A n0 ids n)):=id rfl
@[go_sem] theorem f_fn (n:Nat) (f:Fn) (cs:List AV):refsOf (n+1) (.fn f cs)=cs.flatMap (refsOf n):=id rfl
@[go_sem] theorem fk_fn (n:Nat) (f:Fn) (cs:List DV):fk n (.fn f cs)=.fn f cs:=by cases n<;>rfl
theorem deep_sr (A:List Blk)(n i v o len sz:Nat)(k:Option Nat):deep A (n+1) (.sref i v o len sz k)=if len=0 then some (.lst [] 0 none,[]) else(cellsAt A i v o).bind fun cs=>if len*sz<=cs.length then(mapD (deep A n) (cs.take (len*sz))).map fun r=>(.lst r.1 len k,i::r.2) else none:=by
 show(if len=0 then some (DV.lst [] 0 none,[]) else match cellsAt A i v o with | some cs=>if len*sz<=cs.length then(mapD (deep A n) (cs.take (len*sz))).map (fun r=>(DV.lst r.1 len k,i::r.2)) else none | none=>none)=_
 cases cellsAt A i v o<;>rfl
theorem deep_junk {α:Type} [Cl α] {i v:Nat}{A:List Blk}{ro:Bool}{l junk:List α}(h0:l≠[])(h:A[i]? =some (.cells ((rC (l++junk)).map .d) v ro))(n sz:Nat)(k:Option Nat)(hs:sz=Cl.n α):deep A (n+2) (.sref i v 0 l.length sz k)=some (.lst (rC l) l.length k,[i]):=by
 subst hs
 have hl:l.length≠0:=by cases l<;>simp_all
 have hc:cellsAt A i v 0=some ((rC (l++junk)).map .d):=by simp[cellsAt,h]
 have hle:l.length*Cl.n α<=((rC (l++junk)).map AV.d).length:=by
  rw[List.length_map,rowC_len,List.length_append,Nat.add_mul];omega
 unfold deep
 simp only[hl,if_false,hc,hle,if_true]
 have ht:((rC (l++junk)).map AV.d).take (l.length*Cl.n α)=(rC l).map .d:=by
  rw[<-List.map_take,rowC_take,List.take_left]
 rw[ht,mapD_dd]
 rfl
theorem deep_pre {α:Type} [Cl α] {i v:Nat}{A:List Blk}{ro:Bool}{pre l junk:List α}(h:A[i]? =some (.cells ((rC (pre++(l++junk))).map .d) v ro))(h0:l≠[])(n off len sz:Nat)(k:Option Nat)(hs:sz=Cl.n α)(ho:off=pre.length*Cl.n α)(hl:len=l.length):deep A (n+2) (.sref i v off len sz k)=some (.lst (rC l) len k,[i]):=by
 subst hs ho hl
 have hl:l.length≠0:=by cases l<;>simp_all
 have e:(rC (pre++(l++junk))).map AV.d=(rC pre).map .d++((rC l).map .d++(rC junk).map .d):=by simp[rC]
 have hp:((rC pre).map AV.d).length=pre.length*Cl.n α:=by rw[List.length_map,rowC_len]
 have hc:cellsAt A i v (pre.length*Cl.n α)=some ((rC l).map .d++(rC junk).map .d):=by
  unfold cellsAt
  rw[h]
  simp only[if_true]
  rw[e,<-hp,List.drop_left]
 have hle:l.length*Cl.n α<=((rC l).map AV.d++(rC junk).map AV.d).length:=by
  rw[List.length_append,List.length_map,rowC_len];omega
 rw[deep_sr,if_neg hl,hc]
 simp only[Option.bind_some]
 have ht:((rC l).map AV.d++(rC junk).map AV.d).take (l.length*Cl.n α)=(rC l).map .d:=by
  have:((rC l).map AV.d).length=l.length*Cl.n α:=by rw[List.length_map,rowC_len]
  rw[<-this,List.take_left]
 rw[if_pos hle,ht,mapD_dd]
 rfl
theorem deep_all {α:Type} [Cl α] {i v:Nat}{A:List Blk}{ro:Bool}{l:List α}(h:A[i]? =some (.cells ((rC l).map .d) v ro))(h0:l≠[])(n len sz:Nat)(k:Option Nat)(hs:sz=Cl.n α)(hl:len=l.length):deep A (n+2) (.sref i v 0 len sz k)=some (.lst (rC l) len k,[i]):=
 deep_pre (pre:=[]) (junk:=[]) (by simpa using h) h0 n 0 len sz k hs (by simp) hl
theorem w_fold {α:Type} [Cl α] (l:List α):DV.lst (rC l) l.length none=rD l:=id rfl
theorem deep_alone {α:Type} [Cl α] (l:List α)(h0:l≠[])(len:Nat)(hl:len=l.length)(n sz:Nat)(k:Option Nat)(hs:sz=Cl.n α):deep [.cells ((rC l).map .d) 0 false] (n+2) (.sref 0 0 0 len sz k)=some (.lst (rC l) l.length k,[0]):=by
 subst hl
 exact deep_all rfl h0 n _ sz k hs rfl
section
variable {α:Type} [Cl α] [Cl1 α]
theorem one_map (x:α):(((Cl.cells x).map AV.d).all AV.one)=true:=by
 rw[List.all_map];exact Cl1.one x
theorem one_row (l:List α):(((rC l).map AV.d).all AV.one)=true:=by
 rw[List.all_map];exact rowC_one l
omit [Cl1 α] in
theorem rowC_app (l m:List α):rC (l++m)=rC l++rC m:=by simp[rC]
omit [Cl1 α] in
theorem rowC_one' (x:α):rC [x]=Cl.cells x:=by simp[rC]
theorem app_end {A:List Blk}{s bytes j v:Nat}{out:List α}{x:α}{new:List AV}(hA:A[j]? =some (.cells ((rC out).map .d) v false))(hs:s=Cl.n α)(h0:0<Cl.n α)(hn:new=(Cl.cells x).map .d)(h1:(out.length+1)*bytes<=limA)(h2:out.length+1<=limA):
  evApp A s bytes (.sref j v 0 out.length s none) new 1=some (.turn j (.cells ((rC (out++[x])).map .d) (v+1) false) (.sref j (v+1) 0 (out.length+1) s none)):=by
 subst hs hn
 have e:(rC (out++[x])).map AV.d=(rC out).map .d++(Cl.cells x).map .d:=by rw[rowC_app,rowC_one',List.map_append]
 rw[evApp_sref,if_neg (by decide),if_neg (by rw[one_map];simp;exact⟨by omega,by omega⟩),hA,e]
 have hl:((rC out).map AV.d).length=out.length*Cl.n α:=by rw[List.length_map,rowC_len]
 have:¬0+(out.length+1)*Cl.n α<=((rC out).map AV.d).length:=by
  rw[hl,Nat.add_mul];omega
 simp only[ne_eq,not_true_eq_false,false_or]
 rw[if_neg (by omega),if_neg (by simp),if_neg this]
 exact if_pos ⟨trivial,hl.symm⟩
theorem app_in {A:List Blk}{s bytes j v:Nat}{out junk:List α}{x y:α}{new:List AV}(hA:A[j]? =some (.cells ((rC (out++y::junk)).map .d) v false))(hs:s=Cl.n α)(hn:new=(Cl.cells x).map .d)(h1:(out.length+1)*bytes<=limA)(h2:out.length+1<=limA):
  evApp A s bytes (.sref j v 0 out.length s none) new 1=some (.turn j (.cells ((rC (out++x::junk)).map .d) v false) (.sref j v 0 (out.length+1) s none)):=by
 subst hs hn
 rw[evApp_sref,if_neg (by decide),if_neg (by rw[one_map];simp;exact⟨by omega,by omega⟩),hA]
 have hl:((rC (out++y::junk)).map AV.d).length=(out.length+1+junk.length)*Cl.n α:=by
  rw[List.length_map,rowC_len,List.length_append,List.length_cons];congr 1;omega
 have h3:0+(out.length+1)*Cl.n α<=((rC (out++y::junk)).map AV.d).length:=by
  rw[hl,Nat.zero_add];exact Nat.mul_le_mul_right _ (by omega)
 have h4:¬((rC (out++y::junk)).map AV.d).length<0+out.length*Cl.n α:=by
  have:out.length*Cl.n α<=(out.length+1+junk.length)*Cl.n α:=Nat.mul_le_mul_right _ (by omega)
  omega
 have e1:(rC (out++y::junk))=rC out++(Cl.cells y++rC junk):=by rw[rowC_app];rfl
 have e2:(rC (out++x::junk))=rC out++(Cl.cells x++rC junk):=by rw[rowC_app];rfl
 have e:splice ((rC (out++y::junk)).map AV.d) (0+out.length*Cl.n α) ((Cl.cells x).map .d)=(rC (out++x::junk)).map .d:=by
  have hc:(rC out).length=out.length*Cl.n α:=rowC_len out
  unfold splice
  rw[e1,e2,Nat.zero_add,List.length_map,Cl.len]
  simp only[List.map_append]
  have hr:((rC out).map AV.d).length=out.length*Cl.n α:=by rw[List.length_map,hc]
  rw[<-hr,List.take_left,<-List.drop_drop,List.drop_left]
  have hy:((Cl.cells y).map AV.d).length=Cl.n α:=by rw[List.length_map,Cl.len]
  rw[<-hy,List.drop_left]
  simp
 simp only[ne_eq,not_true_eq_false,false_or,h4,if_false]
 simp only[Bool.false_eq_true,if_false]
 rw[if_pos h3,e]
theorem app_endI {A:List Blk}{bytes j v:Nat}{out:List Int}{n:Int}(hA:A[j]? =some (.cells ((rC out).map .d) v false))(h1:(out.length+1)*bytes<=limA)(h2:out.length+1<=limA):
  evApp A 1 bytes (.sref j v 0 out.length 1 none) [aI n] 1=some (.turn j (.cells ((rC (out++[n])).map .d) (v+1) false) (.sref j (v+1) 0 (out.length+1) 1 none)):=
 app_end (x:=n) hA rfl (by decide) rfl h1 h2
theorem app_inI {A:List Blk}{bytes j v:Nat}{out junk:List Int}{y n:Int}(hA:A[j]? =some (.cells ((rC (out++y::junk)).map .d) v false))(h1:(out.length+1)*bytes<=limA)(h2:out.length+1<=limA):
  evApp A 1 bytes (.sref j v 0 out.length 1 none) [aI n] 1=some (.turn j (.cells ((rC (out++n::junk)).map .d) v false) (.sref j v 0 (out.length+1) 1 none)):=
 app_in (x:=n) hA rfl rfl h1 h2
theorem app_endE {A:List Blk}{bytes j v:Nat}{out:List Ent}{pc vl ad fr nx:Int}{dn kn ft:Bool}(hA:A[j]? =some (.cells ((rC out).map .d) v false))(h1:(out.length+1)*bytes<=limA)(h2:out.length+1<=limA):
  evApp A 8 bytes (.sref j v 0 out.length 8 none) [.d (vi pc),.d (vi vl),.d (vi ad),.d (vi fr),.d (vi nx),.d (vb dn),.d (vb kn),.d (vb ft)] 1=some (.turn j (.cells ((rC (out++[⟨pc,vl,ad,fr,nx,dn,kn,ft⟩])).map .d) (v+1) false) (.sref j (v+1) 0 (out.length+1) 8 none)):=
 app_end (x:=(⟨pc,vl,ad,fr,nx,dn,kn,ft⟩:Ent)) hA rfl (by decide) rfl h1 h2
@[go_sem] theorem app_lst0 (A:List Blk) (s bytes n:Nat) (new:List AV):evApp A s bytes (.d (.lst [] 0 (some 0))) new (n+1)=if 0<0+(n+1)/\([]:List DV).length=0*s/\(0+(n+1))*bytes<=limA/\0+(n+1)<=limA then some (.fresh (([]:List DV).map .d++new) (0+(n+1))) else none:=id rfl
attribute [-go_sem] m_storeB
attribute [go_sem low] m_storeB
omit [Cl1 α] in
theorem splice_row {l:List α}{k:Nat}{e e':α}(h:l[k]? =some e)(o:Nat)(ys:List DV)(hs:splice (Cl.cells e) o ys=Cl.cells e')(hb:o+ys.length<=Cl.n α):
  splice ((rC l).map AV.d) (k*Cl.n α+o) (ys.map .d)=(rC (l.set k e')).map .d:=by
 obtain⟨hk,rfl⟩:=List.getElem?_eq_some_iff.1 h
 have e0:l=l.take k++l[k]::l.drop (k+1):=by rw[<-List.drop_eq_getElem_cons hk,List.take_append_drop]
 have e1:rC l=rC (l.take k)++(Cl.cells l[k]++rC (l.drop (k+1))):=by
  conv=>lhs;rw[e0]
  rw[rowC_app];rfl
 have e2:l.set k e'=l.take k++e'::l.drop (k+1):=List.set_eq_take_append_cons_drop.trans (if_pos hk)
 have e3:rC (l.set k e')=rC (l.take k)++(Cl.cells e'++rC (l.drop (k+1))):=by rw[e2,rowC_app];rfl
 have hl:(rC (l.take k)).length=k*Cl.n α:=by rw[rowC_len,List.length_take,Nat.min_eq_left (by omega)]
 have hc:=Cl.len l[k]
 rw[e3,<-hs,e1]
 unfold splice
 simp only[List.map_append,List.map_take,List.map_drop,List.length_map]
 have hl':((rC (l.take k)).map AV.d).length=k*Cl.n α:=by rw[List.length_map,hl]
 have hc':((Cl.cells l[k]).map AV.d).length=Cl.n α:=by rw[List.length_map,hc]
 have t1:((rC (l.take k)).map AV.d++((Cl.cells l[k]).map AV.d++(rC (l.drop (k+1))).map AV.d)).take (k*Cl.n α+o)=(rC (l.take k)).map AV.d++((Cl.cells l[k]).map AV.d).take o:=by
  rw[<-hl',List.take_length_add_append,List.take_append_of_le_length (by omega)]
 have t2:((rC (l.take k)).map AV.d++((Cl.cells l[k]).map AV.d++(rC (l.drop (k+1))).map AV.d)).drop (k*Cl.n α+o+ys.length)=((Cl.cells l[k]).map AV.d).drop (o+ys.length)++(rC (l.drop (k+1))).map AV.d:=by
  rw[<-hl',Nat.add_assoc,<-List.drop_drop,List.drop_left,List.drop_append_of_le_length (by omega)]
 rw[t1,t2]
 simp
omit [Cl1 α] in
theorem st_row {A:List Blk}{i v k o n:Nat}{l:List α}{e e':α}{xs:List AV}(ys:List DV)(h:l[k]? =some e)(hx:xs=ys.map .d)(hn:xs.length=n)(h1:xs.all AV.one=true)(hs:splice (Cl.cells e) o ys=Cl.cells e')(hb:o+ys.length<=Cl.n α)(s:Nat)(hz:s=Cl.n α)(off:Nat)(ho:off=k*s+o):
  storeAt A i v off xs n (some (.cells ((rC l).map .d) v false))=some (A.set i (.cells ((rC (l.set k e')).map .d) v false)):=by
 subst hz ho
 have hk:k<l.length:=(List.getElem?_eq_some_iff.1 h).1
 rw[m_storeB]
 have hlen:k*Cl.n α+o+n<=((rC l).map AV.d).length:=by
  rw[List.length_map,rowC_len,<-hn,hx,List.length_map]
  have:(k+1)*Cl.n α<=l.length*Cl.n α:=Nat.mul_le_mul_right _ hk
  rw[Nat.add_mul] at this
  omega
 rw[if_pos ⟨rfl,hn,hlen,h1⟩,hx,splice_row h o ys hs hb]
end
section
variable {α:Type} [Cl α] [Cl1 α]
omit [Cl1 α] in
theorem ownA_ne {l:List α}(h:l.length≠0)(i:Nat):ownA i l=.sref i 0 0 l.length (Cl.n α) none:=by cases l<;>simp_all [ownA]
omit [Cl1 α] in
theorem ownB_ne {l:List α}(h:l.length≠0):ownB l=[.cells ((rC l).map .d) 0 false]:=by cases l<;>simp_all [ownB]
omit [Cl1 α] in
theorem ownA_nil (i:Nat):ownA i ([]:List α)=.d (.lst [] 0 (some 0)):=rfl
omit [Cl1 α] in
theorem ownB_nil:ownB ([]:List α)=[]:=rfl
theorem app_zero {A:List Blk}{s bytes j v:Nat}{cs new:List AV}{n:Nat}(hA:A[j]? =some (.cells cs v false))(h0:n≠0)(h1:n*bytes<=limA)(h2:n<=limA)(h3:new.all AV.one=true):
  evApp A s bytes (.sref j v 0 0 s (some 0)) new n=some (.fresh new n):=by
 have:=app_new A s bytes j 0 n cs new v hA h0 rfl h1 h2 h3
 exact this
end
end Go.Aug
