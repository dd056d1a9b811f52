import Derived.Test.YthnhboimcidhgaaGreatDoorEvTy
namespace Go.Aug
open Go
def ansOf:Option (AV×List Blk)->Option DV
 | some (x,A)=>(deep A 8 x).map fun r=>fk 4 r.1
 | none=>none
@[go_sem] theorem ansOf_some (x:AV) (A:List Blk):ansOf (some (x,A))=(deep A 8 x).map fun r=>fk 4 r.1:=id rfl
@[go_sem] theorem ansOf_cond (b:Bool) (x y:Option (AV×List Blk)):ansOf (bif b then x else y)=bif b then ansOf x else ansOf y:=by cases b<;>rfl
@[go_sem] theorem ansOf_ite (c:Prop) [Decidable c] (x y:Option (AV×List Blk)):ansOf (if c then x else y)=if c then ansOf x else ansOf y:=by split<;>rfl
def tupP:Option (List DV×List Nat)->Option (DV×List Nat)
 | some (l,u)=>some (.tup l,u)
 | none=>none
@[go_sem] theorem tupP_some (l:List DV) (u:List Nat):tupP (some (l,u))=some (.tup l,u):=id rfl
@[go_sem] theorem deep_tup (A:List Blk) (n:Nat) (cs:List AV):deep A (n+1) (.tup cs)=tupP (mapD (deep A n) cs):=by
 show(mapD (deep A n) cs).map (fun r=>(DV.tup r.1,r.2))=_
 cases mapD (deep A n) cs<;>rfl
def Says (E:Env)(fn:FuncId->Option (Env->cT->cT))(n:Nat)(g:FuncId)(ds:List DV)(D:DV):Prop:=
 ansOf (evC E fn n g (ds.map .d) [])=some D
theorem all_congr' {α:Type}{p q:α->Bool}:∀ {l:List α},(∀ x ∈ l,p x=q x)->l.all p=l.all q
 | [],_=>rfl
 | x::l,h=>by rw[List.all_cons,List.all_cons,h x (by simp),all_congr' (fun y hy=>h y (by simp[hy]))]
theorem flat_fk:∀(n m:Nat) (x:DV),DV.flat n (fk m x)=DV.flat n x
 | 0,_,_=>rfl
 | n+1,0,_=>rfl
 | n+1,m+1,.agg cs=>by
  show(cs.map (fk m)).all (DV.flat n)=cs.all (DV.flat n)
  rw[List.all_map]
  exact all_congr' fun x _=>flat_fk n m x
 | n+1,m+1,.tup cs=>by
  show(cs.map (fk m)).all (DV.flat n)=cs.all (DV.flat n)
  rw[List.all_map]
  exact all_congr' fun x _=>flat_fk n m x
 | n+1,m+1,.lst cs len k=>by
  cases cs with
  | nil=>cases len<;>rfl
  | cons _ _=>rfl
 | n+1,m+1,.v _=>rfl
 | n+1,m+1,.vptr _=>rfl
 | n+1,m+1,.fn _ _=>rfl
 | n+1,m+1,.ifc _ _=>rfl
 | n+1,m+1,.nel=>rfl
section
variable {E:Env} {fn:FuncId->Option (Env->cT->cT)} {n:Nat} {g:FuncId} {ds:List DV} {D:DV}
theorem Says.raw (h:Says E fn n g ds D)(hp:E.prim g=none):∃ x Ac u D0,evRaw E (evC E fn n) g ds=some (x,Ac)/\deep Ac 8 x=some (D0,u)/\fk 4 D0=D:=by
 unfold Says at h
 unfold evRaw
 rw[hp]
 show ∃ x Ac u D0,evC E fn n g (ds.map .d) []=some (x,Ac)/\_
 cases hc:evC E fn n g (ds.map .d) [] with
 | none=>rw[hc] at h;cases h
 | some p=>
  obtain⟨x,Ac⟩:=p
  rw[hc,ansOf_some] at h
  cases hd:deep Ac 8 x with
  | none=>rw[hd] at h;cases h
  | some q=>
   obtain⟨D0,u⟩:=q
   rw[hd] at h
   simp only[Option.map_some,Option.some.injEq] at h
   exact⟨x,Ac,u,D0,rfl,hd,h⟩
theorem Says.flat (h:Says E fn n g ds D)(hp:E.prim g=none)(hf:D.flat 8=true)(A:List Blk)(nb:Nat)(us:List Nat):evOwnK false E (evC E fn n) g A nb (some (ds,us))=some (.made (.d D) []):=by
 obtain⟨x,Ac,u,D0,h1,h2,h3⟩:=h.raw hp
 simp only[evOwnK,h1,evAnsB,cond_false,h2,deeped]
 rw[<-h3,flat_fk] at hf
 rw[hf,Bool.or_true,cond_true,h3]
theorem Says.deep (h:Says E fn n g ds D)(hp:E.prim g=none)(A:List Blk)(nb:Nat):evOwnK false E (evC E fn n) g A nb (some (ds,[]))=some (.made (.d D) []):=by
 obtain⟨x,Ac,u,D0,h1,h2,h3⟩:=h.raw hp
 simp only[evOwnK,h1,evAnsB,cond_false,h2,deeped,isEmptyL,Bool.true_or,cond_true,h3]
theorem Says.used (h:Says E fn n g ds D)(hp:E.prim g=none)(hf:D.flat 8=false)(A:List Blk)(nb i:Nat)(us:List Nat):evOwnK false E (evC E fn n) g A nb (some (ds,i::us))=some (.turned (.d D) (setRo A (i::us))):=by
 obtain⟨x,Ac,u,D0,h1,h2,h3⟩:=h.raw hp
 simp only[evOwnK,h1,evAnsB,cond_false,h2,deeped]
 rw[<-h3,flat_fk] at hf
 rw[hf]
 show(bif isEmptyL (i::us) || false then _ else _)=_
 simp only[isEmptyL,Bool.or_false,cond_false,h3]
end
section
variable {α:Type} [Cl α]
@[go_sem] theorem w_len (l:List α):evLenS (.d (rD l))=some (aI l.length):=id rfl
@[go_sem] theorem w_fk (n:Nat) (l:List α):fk (n+1) (rD l)=rD l:=id rfl
@[go_sem] theorem w_one (l:List α):AV.one (.d (rD l))=true:=id rfl
@[go_sem] theorem w_cells (l:List α):AV.cells (.d (rD l))=[.d (rD l)]:=id rfl
theorem w_new (A:List Blk)(s:Nat)(l:List α)(hs:s=Cl.n α):newCells A false s (.d (rD l))=some ((rC l).map .d,l.length):=by
 subst hs
 show(if(rC l).length=l.length*Cl.n α then some ((rC l).map AV.d,l.length) else none)=_
 rw[if_pos (rowC_len l)]
theorem w_ix {l:List α}{i:Nat}{e:α}(h:l[i]? =some e)(kk:IntKind)(s:Nat)(hs:s=Cl.n α):evIxS (.d (rD l)) (.d (.v (.int kk (i:Int)))) s=some (.d (.vptr (Cl.cells e++rC (l.drop (i+1))))):=by
 obtain⟨hi,rfl⟩:=List.getElem?_eq_some_iff.1 h
 exact ix_row hi hs none kk
theorem w_ixI {l:List α}{i:Int}{e:α}(h0:0<=i)(h:l[i.toNat]? =some e)(kk:IntKind)(s:Nat)(hs:s=Cl.n α):evIxS (.d (rD l)) (.d (.v (.int kk i))) s=some (.d (.vptr (Cl.cells e++rC (l.drop (i.toNat+1))))):=by
 obtain⟨i,rfl⟩:=Int.eq_ofNat_of_zero_le h0
 exact w_ix (by simpa using h) kk s hs
end
theorem eG (x:AV)(A:List Blk):endN 0 (some (x,A))=some (ren A 0 (reach A 0 100000 (refsOf 8 x) []) 8 x,renH A 0 (reach A 0 100000 (refsOf 8 x) [])):=by
 show some (ren A 0 (reach A 0 100000 (refsOf 8 x++[]) []) 8 x,renH A 0 (reach A 0 100000 (refsOf 8 x++[]) []))=_
 rw[List.append_nil]
def lookO (tm:List AV):Option Opd->Option AV
 | some o=>some (look tm o)
 | none=>none
@[go_sem] theorem lookO_none (tm:List AV):lookO tm none=none:=id rfl
@[go_sem] theorem lookO_some (tm:List AV) (o:Opd):lookO tm (some o)=some (look tm o):=id rfl
def bndV (len:Nat)(x:Option AV)(dflt:Nat):Option Nat:=
 match x with
 | none=>some dflt
 | some x=>match x with
  | .d (.v (.int _ n))=>if 0<=n/\n<=len then some n.toNat else none
  | _=>none
theorem bnd_V (len:Nat)(tm:List AV)(x:Option Opd)(d:Nat):bnd len tm x d=bndV len (lookO tm x) d:=by cases x<;>rfl
@[go_sem] theorem bndV_none (len d:Nat):bndV len none d=some d:=id rfl
theorem bndV_some (len d:Nat)(k:IntKind)(n:Int)(h:0<=n/\n<=len):bndV len (some (.d (.v (.int k n)))) d=some n.toNat:=if_pos h
def bndsV (len:Nat)(lo hi mx:Option AV):Option (Nat×Nat×Nat):=
 match bndV len mx len,bndV len hi len,bndV len lo 0 with
 | some m,some h,some l=>if l<=h/\h<=m/\(mx.isSome->hi.isSome) then some (l,h,m) else none
 | _,_,_=>none
theorem bounds_V (len:Nat)(tm:List AV)(lo hi mx:Option Opd):evBounds len tm lo hi mx=bndsV len (lookO tm lo) (lookO tm hi) (lookO tm mx):=by
 unfold evBounds bndsV
 rw[bnd_V,bnd_V,bnd_V]
 cases bndV len (lookO tm mx) len<;>cases bndV len (lookO tm hi) len<;>cases bndV len (lookO tm lo) 0<;>cases mx<;>cases hi<;>rfl
def slRow {α:Type} [Cl α] (l:List α):Option (Nat×Nat×Nat)->Option AV
 | some (lo,hi,_)=>some (.d (rD ((l.drop lo).take (hi-lo))))
 | none=>none
@[go_sem] theorem slRow_some {α:Type} [Cl α] (l:List α) (lo hi m:Nat):slRow l (some (lo,hi,m))=some (.d (rD ((l.drop lo).take (hi-lo)))):=id rfl
theorem w_sl {α:Type} [Cl α] (tm:List AV)(l:List α)(lo hi:Option Opd)(s:Nat)(hs:s=Cl.n α):evSlS tm (.d (rD l)) lo hi none s=slRow l (bndsV l.length (lookO tm lo) (lookO tm hi) none):=by
 subst hs
 show(match evBounds l.length tm lo hi none with
  | some (a,b,m)=>if a=b then some (AV.d (.lst [] 0 (if(none:Option Opd).isSome=true/\m=a then some 0 else none))) else if b*Cl.n α<=(rC l).length then some (.d (.lst (((rC l).drop (a*Cl.n α)).take ((b-a)*Cl.n α)) (b-a) (capOf none m a none))) else none
  | none=>none)=_
 rw[bounds_V]
 show _=slRow l (bndsV l.length (lookO tm lo) (lookO tm hi) none)
 have hbd:∀ {a b m},bndsV l.length (lookO tm lo) (lookO tm hi) none=some (a,b,m)->a<=b/\b<=l.length:=by
  intro a b m h
  unfold bndsV at h
  split at h
  ·rename_i m' h' l' e1 e2 e3
   split at h
   ·rename_i hc
    simp only[Option.some.injEq,Prod.mk.injEq] at h
    obtain⟨rfl,rfl,rfl⟩:=h
    simp only[bndV,Option.some.injEq] at e1
    omega
   ·cases h
  ·cases h
 show(match bndsV l.length (lookO tm lo) (lookO tm hi) none with | some (a,b,m)=>_ | none=>none)=_
 cases hb:bndsV l.length (lookO tm lo) (lookO tm hi) none with
 | none=>rfl
 | some p=>
  obtain⟨a,b,m⟩:=p
  obtain⟨h1,h2⟩:=hbd hb
  show(if a=b then _ else _)=some (AV.d (rD ((l.drop a).take (b-a))))
  by_cases hab:a=b
  ·subst hab
   rw[if_pos rfl,Nat.sub_self];rfl
  ·rw [if_neg hab, if_pos (by rw [rowC_len]; exact Nat.mul_le_mul_right _ h2)]
   rw[rowC_drop,rowC_take]
   have:((l.drop a).take (b-a)).length=b-a:=by simp;omega
   unfold rD
   rw[this];rfl
theorem bndsV_hi (len:Nat)(k:IntKind)(h:Int)(h0:0<=h)(h1:h<=len):bndsV len none (some (.d (.v (.int k h)))) none=some (0,h.toNat,len):=by
 have e:bndV len (some (.d (.v (.int k h)))) len=some h.toNat:=bndV_some _ _ _ _ ⟨h0,h1⟩
 simp only[bndsV,bndV_none,e,Nat.zero_le,true_and]
 rw[if_pos ⟨by omega,by simp⟩]
theorem bndsV_lo (len:Nat)(k:IntKind)(l:Int)(h0:0<=l)(h1:l<=len):bndsV len (some (.d (.v (.int k l)))) none none=some (l.toNat,len,len):=by
 have e:bndV len (some (.d (.v (.int k l)))) 0=some l.toNat:=bndV_some _ _ _ _ ⟨h0,h1⟩
 simp only[bndsV,bndV_none,e,Nat.le_refl,true_and]
 rw[if_pos ⟨by omega,by simp⟩]
def ownA {α:Type} [Cl α] (i:Nat):List α->AV
 | []=>.d (.lst [] 0 (some 0))
 | l=>.sref i 0 0 l.length (Cl.n α) none
def ownB {α:Type} [Cl α]:List α->List Blk
 | []=>[]
 | l=>[.cells ((rC l).map .d) 0 false]
section
variable (E:Env) (call:cT) (tm:List AV) (A:List Blk) (nb:Nat)
@[go_sem] theorem o_slS (x:Opd) (lo hi mx:Option Opd) (s:Nat):oSlS x lo hi mx s E call tm A nb=one? (evSlS tm (look tm x) lo hi mx s):=id rfl
@[go_sem] theorem o_nilck (x:Opd):oNilck x E call tm A nb=one? (evNilck (look tm x)):=id rfl
@[go_sem] theorem o_nilckR (i v o:Nat):evNilck (.ref i v o)=some (.ref i v o):=id rfl
@[go_sem] theorem o_nilckD (cs:List DV):evNilck (.d (.vptr cs))=some (.d (.vptr cs)):=id rfl
end
@[go_sem] theorem w_rnil {α:Type} [Cl α]:rD ([]:List α)=.lst [] 0 none:=id rfl
section
variable (E:Env) (call:cT) (tm:List AV) (A:List Blk)
@[go_sem] theorem d_consG (fg:Fl) (d:Option Nat) (t:Nat) (b:Bool) (op:OpF) (l:List (Fl×Stp)) (k:K):dsteps E call ((fg,⟨d,some (t,b),op⟩)::l) k tm A=stepF E call fg ⟨d,some (t,b),op⟩ (dsteps E call l k) tm A (wantIs b (nthA tm t)):=id rfl
@[go_sem] theorem d_stepT (fg:Fl) (s:Stp) (k:K):stepF E call fg s k tm A (some true)=goOnF fg s.dst k tm A (s.op E call tm A A.length):=id rfl
@[go_sem] theorem d_stepF (fg:Fl) (s:Stp) (k:K):stepF E call fg s k tm A (some false)=k (setO tm s.dst aundef) A:=id rfl
end
@[go_sem] theorem m_ext (vs:List AV) (i:Nat):evExt (.tup vs) i=vs[i]? :=id rfl
@[go_sem] theorem m_extD (vs:List DV) (i:Nat):evExt (.d (.tup vs)) i=(vs[i]?).map .d:=id rfl
@[go_sem] theorem m_part (cs:List AV) (off:Nat) (ag:Bool) (n:Nat):evPart (.agg cs) off ag n=if off+n<=cs.length then takeVar ag n (cs.drop off) else none:=id rfl
@[go_sem] theorem m_partD (cs:List DV) (off:Nat) (ag:Bool) (n:Nat):evPart (.d (.agg cs)) off ag n=if off+n<=cs.length then(takeVarD ag n (cs.drop off)).map .d else none:=id rfl
@[go_sem] theorem m_ixA (x:AV) (k:IntKind) (i:Int) (len s:Nat):evIxA x (.d (.v (.int k i))) len s=if 0<=i/\i<len then ptrAdd x (i.toNat*s) else none:=id rfl
@[go_sem] theorem m_ixP (x:AV) (k:IntKind) (i:Int) (len s:Nat) (ag:Bool) (n:Nat):evIxP x (.d (.v (.int k i))) len s ag n=if 0<=i/\i<len then evPart x (i.toNat*s) ag n else none:=id rfl
section
variable (E:Env) (call:cT) (tm:List AV) (A:List Blk) (nb:Nat)
@[go_sem] theorem o_ixA (x ix:Opd) (len s:Nat):oIxA x ix len s E call tm A nb=one? (evIxA (look tm x) (look tm ix) len s):=id rfl
@[go_sem] theorem o_ixP (x ix:Opd) (len s:Nat) (ag:Bool) (n:Nat):oIxP x ix len s ag n E call tm A nb=one? (evIxP (look tm x) (look tm ix) len s ag n):=id rfl
@[go_sem] theorem o_lenA (n:Nat):oLenA n E call tm A nb=some (.made (aI n) []):=id rfl
@[go_sem] theorem o_lenT (x:Opd):oLenT x E call tm A nb=lenTA (look tm x):=id rfl
@[go_sem] theorem o_lenTA (s:ByteArray):lenTA (.d (.v (.string s)))=some (.made (aI s.size) []):=id rfl
@[go_sem] theorem o_ixB (x ix:Opd):oIxB x ix E call tm A nb=one? (evIxB (look tm x) (look tm ix)):=id rfl
@[go_sem] theorem o_slT (x:Opd) (lo hi:Option Opd):oSlT x lo hi E call tm A nb=one? (evSlT tm (look tm x) lo hi):=id rfl
@[go_sem] theorem o_fnc (f:Fn) (cap:List Opd):oFnc f cap E call tm A nb=some (.made (.fn f (cap.map (look tm))) []):=id rfl
@[go_sem] theorem o_mki (t:TypeId) (x:Opd):oMki t x E call tm A nb=some (.made (.ifc t (look tm x)) []):=id rfl
end
@[go_sem] theorem q_bool (a b:Bool):eqV (.leaf .bool) (.d (.v (.bool a))) (.d (.v (.bool b)))=some (a==b):=id rfl
@[go_sem] theorem q_str (a b:ByteArray):eqV (.leaf .str) (.d (.v (.string a))) (.d (.v (.string b)))=some (a.toList==b.toList):=id rfl
@[go_sem] theorem q_flds (n:Nat) (l:List (Nat×Lf)) (x y:AV):eqV (.flds n l) x y=eqAgg n l (aggCells x) (aggCells y):=id rfl
@[go_sem] theorem q_cells (cs:List AV):aggCells (.agg cs)=some cs:=id rfl
@[go_sem] theorem q_cellsD (cs:List DV):aggCells (.d (.agg cs))=some (cs.map .d):=id rfl
@[go_sem] theorem q_agg (n:Nat) (l:List (Nat×Lf)) (xs ys:List AV):eqAgg n l (some xs) (some ys)=if xs.length=n/\ys.length=n then eqLfs xs ys l else none:=id rfl
def and2:Option Bool->Option Bool->Option Bool
 | some a,some b=>some (a&&b)
 | _,_=>none
@[go_sem] theorem q_and2 (a b:Bool):and2 (some a) (some b)=some (a&&b):=id rfl
@[go_sem] theorem q_nil (xs ys:List AV):eqLfs xs ys []=some true:=id rfl
@[go_sem] theorem q_cons (xs ys:List AV) (o:Nat) (f:Lf) (l:List (Nat×Lf)):eqLfs xs ys ((o,f)::l)=and2 (eqLf f (nthA xs o) (nthA ys o)) (eqLfs xs ys l):=by
 show(match eqLf f (nthA xs o) (nthA ys o),eqLfs xs ys l with | some a,some b=>some (a&&b) | _,_=>none)=_
 cases eqLf f (nthA xs o) (nthA ys o)<;>cases eqLfs xs ys l<;>rfl
@[go_sem] theorem q_lfB (a b:Bool):eqLf .bool (.d (.v (.bool a))) (.d (.v (.bool b)))=some (a==b):=id rfl
@[go_sem] theorem q_lfI (k:IntKind) (a b:Int):eqLf .int (.d (.v (.int k a))) (.d (.v (.int k b)))=some (a==b):=if_pos rfl
@[go_sem] theorem q_lfT (a b:ByteArray):eqLf .str (.d (.v (.string a))) (.d (.v (.string b)))=some (a.toList==b.toList):=id rfl
@[go_sem] theorem q_nth0 (x:AV) (l:List AV):nthA (x::l) 0=x:=id rfl
@[go_sem] theorem q_nthS (x:AV) (l:List AV) (n:Nat):nthA (x::l) (n+1)=nthA l n:=id rfl
abbrev inn (E:Env)(f:FuncId):Env:={ br:=E.br,th:=E.th,prim:=E.prim,back:=E.back,lives:=E.lives,live:=E.lives f,nb0:=0 }
def nrmTo (k:K)(N:Nat)(l:List Nat)(d:AV)(S:List (Nat×AV))(A:List Blk)(ids:List Nat):Ans:=
 k (mk .bot N (l.map fun t=>(t,ren A 0 ids 8 (getS d S t)))) (renH A 0 ids)
@[go_sem] theorem nrmTo_eq (k:K) (N:Nat) (l:List Nat) (d:AV) (S:List (Nat×AV)) (A:List Blk) (ids:List Nat):nrmTo k N l d S A ids=k (mk .bot N (l.map fun t=>(t,ren A 0 ids 8 (getS d S t)))) (renH A 0 ids):=id rfl
theorem loop_in {E:Env}{f:FuncId}{key:Nat}{l:List Nat}(hl:E.lives f key=some l)(ha:ascN 0 l=true)(c:CT)(call:cT)(kx:Nat->K)(kr:K)(n:Nat)(d:AV)(N:Nat)(S:List (Nat×AV))(A:List Blk)(hN:(l.all fun t=>Nat.blt t N)=true):
  loopK key c (inn E f) call kx kr (n+1) (mk d N S) A=
   nrmTo (c (inn E f) call (loopK key c (inn E f) call kx kr n) kx kr) N l d S A (reach A 0 100000 (l.flatMap fun t=>refsOf 8 (getS d S t)) []):=by
 rw[e_loopS]
 refine nrm_gen E f key l hl ha _ d N S A fun t ht=> ?_
 have:=List.all_eq_true.1 hN t ht
 exact Nat.le_of_ble_eq_true this
theorem big_eq:(1000000000000000000000000000000:Nat)=999999999999999999999999999999+1:=rfl
attribute [go_sem] reach_none
@[go_sem] theorem n_int:Cl.n Int=1:=id rfl
@[go_sem] theorem n_ent:Cl.n Ent=8:=id rfl
@[go_sem] theorem n_ins:Cl.n Ins=9:=id rfl
@[go_sem] theorem n_mem:Cl.n MemT=3:=id rfl
@[go_sem] theorem n_label:Cl.n Label=2:=id rfl
@[go_sem] theorem n_place:Cl.n Place=3:=id rfl
@[go_sem] theorem n_obs:Cl.n Obs=2:=id rfl
@[go_sem] theorem n_dir:Cl.n Dir=2:=id rfl
@[go_sem] theorem n_val:Cl.n Val=2:=id rfl
attribute [go_sem] w_sl w_new
attribute [go_sem] progD progC stateD stateC confD confC regsC cl_int cl_ins cl_mem cl_label cl_place cl_obs cl_ent cl_dir
theorem cl_val (v:Val):Cl.cells v=[vb v.reg,vi v.n]:=id rfl
attribute [go_sem] cl_val
@[go_sem] theorem et_val (v:Val):Val.mk v.reg v.n=v:=rfl
@[go_sem] theorem et_ins (i:Ins):Ins.mk i.kind i.op i.d i.a i.b i.name i.target=i:=rfl
@[go_sem] theorem et_regs (r:Regs):Regs.mk r.r0 r.r1 r.r2 r.r3=r:=rfl
@[go_sem] theorem et_prog (p:Prog):Prog.mk p.w p.window p.fuel p.regs p.mems p.labels p.ins=p:=rfl
@[go_sem] theorem et_state (s:State):State.mk s.regs s.mem s.stack s.pc=s:=rfl
@[go_sem] theorem et_conf (c:Conf):Conf.mk c.state c.buf c.rsb c.end_=c:=rfl
@[go_sem] theorem et_ent (e:Ent):Ent.mk e.pc e.val e.addr e.frm e.next e.done e.known e.fault=e:=rfl
@[go_sem] theorem et_dir (d:Dir):Dir.mk d.kind d.n=d:=rfl
@[go_sem] theorem et_obs (o:Obs):Obs.mk o.kind o.at_=o:=rfl
@[go_sem] theorem et_mem (m:MemT):MemT.mk m.name m.secret m.n=m:=rfl
@[go_sem] theorem et_label (l:Label):Label.mk l.name l.at_=l:=rfl
end Go.Aug
