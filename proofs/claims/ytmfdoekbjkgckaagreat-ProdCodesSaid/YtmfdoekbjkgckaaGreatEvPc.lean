import Derived.Test.YtmfdoekbjkgckaaGreatEvP
import Derived.Test.YtmfdoekbjkgckaaGreatEvV
namespace Go.Aug
open Go
class Cl1 (α:Type) [Cl α]:Prop where
 one:∀ a:α,((Cl.cells a).all fun x=>(AV.d x).one)=true
 flat:∀ a:α,((Cl.cells a).all fun x=>DV.flat 6 x)=true
instance:Cl1 Int:=⟨fun _=>rfl,fun _=>rfl⟩
instance:Cl1 Ent:=⟨fun _=>rfl,fun _=>rfl⟩
instance:Cl1 Dir:=⟨fun _=>rfl,fun _=>rfl⟩
instance:Cl1 Obs:=⟨fun _=>rfl,fun _=>rfl⟩
instance:Cl1 Ins:=⟨fun _=>rfl,fun _=>rfl⟩
instance:Cl1 MemT:=⟨fun _=>rfl,fun _=>rfl⟩
instance:Cl1 Label:=⟨fun _=>rfl,fun _=>rfl⟩
instance:Cl1 Place:=⟨fun _=>rfl,fun _=>rfl⟩
theorem Z0w {α:Type} [Cl α] [Cl1 α]:∀ l:List α,((rC l).all fun x=>(AV.d x).one)=true
 | []=>rfl
 | a::l=>by
  show((Cl.cells a++rC l).all _)=true
  rw[List.all_append,Cl1.one,Z0w l];rfl
section
variable {α:Type} [Cl α] [Cl1 α] {s bytes:Nat}
theorem FY (A:List Blk)(n:Nat):∀ cs:List DV,Y8 (deep A (n+1)) (cs.map .d)=some (cs,[])
 | []=>rfl
 | x::cs=>by
  rw[List.map_cons,Zej,FY A n cs,Zh9];rfl
omit [Cl1 α] in
theorem Z62 {i v:Nat}{A:List Blk}{ro:Bool}{l:List α}(h0:l≠[])(h:A[i]? =some (.cells ((rC l).map .d) v ro))(n:Nat)(k:Option Nat):deep A (n+2) (.sref i v 0 l.length (Cl.n α) k)=some (.lst (rC l) l.length k,[i]):=by
 have hl:l.length≠0:=by cases l<;>simp_all
 have hc:cellsAt A i v 0=some ((rC l).map .d):=by simp[cellsAt,h]
 unfold deep
 simp only[hl,if_false,hc,List.length_map,QH,Nat.le_refl,if_true]
 rw[List.take_of_length_le (by simp[QH]),FY]
 rfl
variable {E:Env} {call:cT} {g:FuncId}
theorem Z0x:∀ l:List α,((rC l).all fun x=>DV.flat 6 x)=true
 | []=>rfl
 | a::l=>by
  show((Cl.cells a++rC l).all _)=true
  rw[List.all_append,Cl1.flat,Z0x l];rfl
end
@[go_sem] theorem Zk1 (A:List Blk) (n0:Nat) (ids:List Nat) (n:Nat):(YA A n0 ids (n+1)) ∘ AV.d=AV.d:=rfl
@[go_sem] theorem Zjs {α:Type} [Cl α]:rC ([]:List α)=[]:=id rfl
@[go_sem] theorem Zmz (cs:List DV) (len:Nat) (k:Option Nat) (kk:IntKind) (i:Int) (s:Nat):BE (.d (.lst cs len k)) (.d (.v (.int kk i))) s=if 0<=i/\i<len/\i.toNat*s<=cs.length then some (.d (.vptr (cs.drop (i.toNat*s)))) else none:=id rfl
@[go_sem] theorem Zmx (b ver off len sz:Nat) (k:Option Nat) (kk:IntKind) (i:Int) (s:Nat):BE (.sref b ver off len sz k) (.d (.v (.int kk i))) s=if 0<=i/\i<len/\sz=s then some (.ref b ver (off+i.toNat*s)) else none:=id rfl
def WN (E:Env)(call:cT)(tm:List AV)(A:List Blk)(nb:Nat)(args:List Opd)(f:AV):Option Done:=Gz E call A nb (target (args.map (look tm)) f)
@[go_sem] theorem Zlq (E:Env) (call:cT) (tm:List AV) (A:List Blk) (nb t:Nat) (args:List Opd):oK (.t t) args E call tm A nb=WN E call tm A nb args (look tm (.t t)):=id rfl
theorem Z5m (E:Env)(l:Nat->Option (List Nat))(m:Nat)(call:cT)(A:List Blk)(nb:Nat)(g:FuncId)(xs:List AV)(h:ZW g E.br=false):
  DS { br:=E.br,th:=E.th,prim:=E.prim,back:=E.back,lives:=E.lives,live:=l,nb0:=m } call g xs A nb=ZX (ZW g E.th || G3 (l (CU g))) E call g A nb (R2 (Y8 (deep A 8) xs)):=by
 unfold DS
 show(bif ZW g E.br then _ else _)=_
 rw[h,cond_false]
 cases Y8 (deep A 8) xs with
 | none=>rfl
 | some p=>
  obtain⟨ds,used⟩:=p
  show G8 _ g A nb used _=G9 _ A nb used _
  show G8 _ g A nb used (Jz E call g (ds.map (fk 4)))=_
  cases Jz E call g (ds.map (fk 4))<;>rfl
@[go_sem] theorem Zlp (E : Env) (l : Nat -> Option (List Nat)) (m : Nat) (call : cT) (tm : List AV) (A : List Blk) (nb : Nat) (g : FuncId) (args : List Opd) (cap : List DV) (h : ZW g E.br = false) :
  WN { br:=E.br,th:=E.th,prim:=E.prim,back:=E.back,lives:=E.lives,live:=l,nb0:=m } call tm A nb args (.d (.fn (.func g) cap))=ZX (ZW g E.th || G3 (l (CU g))) E call g A nb (R2 (Y8 (deep A 8) (args.map (look tm)++cap.map .d))):=
 Z5m E l m call A nb g _ h
@[go_sem] theorem Znn (n:Nat) (cs:List DV):fk n (.vptr cs)=.vptr cs:=by cases n<;>rfl
def Z0h (A:List Blk)(i:Nat)(r:List Nat):Option Blk->List Blk
 | some (.cells cs v _)=>Yv (A.set i (.cells cs v true)) r
 | _=>Yv A r
@[go_sem] theorem Zju (A:List Blk):Yv A []=A:=id rfl
@[go_sem] theorem Zjv (A:List Blk) (i:Nat) (r:List Nat):Yv A (i::r)=Z0h A i r A[i]? :=by
 show(match A[i]? with | some (.cells cs v _)=>Yv (A.set i (.cells cs v true)) r | _=>Yv A r)=_
 cases A[i]? with
 | none=>rfl
 | some b=>cases b<;>rfl
@[go_sem] theorem Zjt (A:List Blk) (i:Nat) (r:List Nat) (cs:List AV) (v:Nat) (ro:Bool):Z0h A i r (some (.cells cs v ro))=Yv (A.set i (.cells cs v true)) r:=id rfl
@[go_sem] theorem Zpl (A:List Blk) (cs:List AV) (v w:Nat) (ro:Bool) (o:Nat):cellsAt (A++[.cells cs v ro]) A.length w o=if v=w then some (cs.drop o) else none:=by
 unfold cellsAt
 rw[List.getElem?_append_right (Nat.le_refl _),Nat.sub_self]
 rfl
@[go_sem] theorem Znm (A:List Blk) (b:Blk):(A++[b])[A.length]? =some b:=by
 rw[List.getElem?_append_right (Nat.le_refl _),Nat.sub_self];rfl
@[go_sem] theorem Zjr (A:List Blk) (b c:Blk):(A++[b]).set A.length c=A++[c]:=by
 rw[List.set_append_right _ _ (Nat.le_refl _),Nat.sub_self];rfl
@[go_sem] theorem Zkl (tm xs:List AV):FS tm [] xs=tm:=by cases xs<;>rfl
@[go_sem] theorem Zkm (tm:List AV) (p:Nat) (ps:List Nat) (x:AV) (xs:List AV):FS tm (p::ps) (x::xs)=FS (Bk tm p x) ps xs:=id rfl
@[go_sem] theorem Zov (f:Opd) (ps:List Nat) (a b:CT) (E:Env) (call:cT) (kn:K) (kx:Nat->K) (kr:K) (tm:List AV) (A:List Blk):RC f ps a b E call kn kx kr tm A=PB a b ps E call kn kx kr tm A (PC E (look tm f)):=id rfl
@[go_sem] theorem Zou (ps:List Nat) (a b:CT) (E:Env) (call:cT) (kn:K) (kx:Nat->K) (kr:K) (tm:List AV) (A:List Blk) (es:List (List AV)):PB a b ps E call kn kx kr tm A (some es)=N2 a b ps E call kn kx kr tm es A:=id rfl
@[go_sem] theorem Zm2 (A:List Blk) (s i v o len sz:Nat) (k:Option Nat):CH A false s (.sref i v o len sz k)=(cellsAt A i v o).bind fun cs=>if s=sz/\len*sz<=cs.length then some (cs.take (len*sz),len) else none:=by
 show(match cellsAt A i v o with | some cs=>if s=sz/\len*sz<=cs.length then some (cs.take (len*sz),len) else none | none=>none)=_
 cases cellsAt A i v o<;>rfl
@[go_sem] theorem Zm3 (A:List Blk) (s:Nat) (k:Option Nat):CH A false s (.d (.lst [] 0 k))=some ([],0):=by
 show(if([]:List DV).length=0*s then some (([]:List DV).map AV.d,0) else none)=_
 rw[if_pos (by simp)];rfl
@[go_sem] theorem RJ (A:List Blk) (s bytes i v o len sz:Nat) (k:Option Nat) (new:List AV):ZS A s bytes (.sref i v o len sz k) new 0=some .same:=id rfl
@[go_sem] theorem Zj0 (A:List Blk) (s bytes len:Nat) (cs:List DV) (k:Option Nat) (new:List AV):ZS A s bytes (.d (.lst cs len k)) new 0=some .same:=id rfl
def UG (i ver off s:Nat)(k:Option Nat):Option (Nat×Nat×Nat)->Option AV
 | some (l,h,_)=>if l=h/\l≠0 then some (.d (.lst [] 0 none)) else some (.sref i ver (off+l*s) (h-l) s (k.map (·-l)))
 | none=>none
@[go_sem] theorem Zjq (i ver off s l h m:Nat) (k:Option Nat):UG i ver off s k (some (l,h,m))=if l=h/\l≠0 then some (.d (.lst [] 0 none)) else some (.sref i ver (off+l*s) (h-l) s (k.map (·-l))):=id rfl
@[go_sem] theorem Zjj (tm:List AV) (i ver off len s:Nat) (k:Option Nat) (lo hi:Option Opd):NG tm (.sref i ver off len s k) lo hi none s=UG i ver off s k (Cv len (QW tm lo) (QW tm hi) none):=by
 show(match JX len tm lo hi none with
  | some (l,h,m)=>if s≠s then none else if l=h/\l≠0 then some (AV.d (.lst [] 0 (if(none:Option Opd).isSome=true/\m=l then some 0 else none))) else some (.sref i ver (off+l*s) (h-l) s (Kz none m l k))
  | none=>none)=_
 rw[Z6w]
 show _=UG i ver off s k (Cv len (QW tm lo) (QW tm hi) none)
 show(match Cv len (QW tm lo) (QW tm hi) none with | some (l,h,m)=>_ | none=>none)=_
 cases Cv len (QW tm lo) (QW tm hi) none with
 | none=>rfl
 | some q=>
  obtain⟨l,h,m⟩:=q
  show(if s≠s then none else if l=h/\l≠0 then _ else _)=if l=h/\l≠0 then _ else _
  rw[if_neg (by simp)]
  rfl
@[go_sem] theorem Zp5 (A:List Blk) (n i v o sz:Nat) (k:Option Nat):deep A (n+1) (.sref i v o 0 sz k)=some (.lst [] 0 none,[]):=id rfl
@[go_sem] theorem Zp6 (A:List Blk) (n:Nat) (f:Fn) (cs:List AV):deep A (n+1) (.fn f cs)=(Y8 (deep A n) cs).map fun r:List DV×List Nat=>(DV.fn f r.1,r.2):=id rfl
theorem YU (A:List Blk)(n i v o:Nat):deep A (n+1) (.ref i v o)=(cellsAt A i v o).bind fun cs=>(Y8 (deep A n) cs).map fun r:List DV×List Nat=>(DV.vptr r.1,i::r.2):=by
 show(match cellsAt A i v o with | some cs=>(Y8 (deep A n) cs).map (fun r:List DV×List Nat=>(DV.vptr r.1,i::r.2)) | none=>none)=_
 cases cellsAt A i v o<;>rfl
@[go_sem] theorem Zjz (A:List Blk) (n0:Nat) (ids:List Nat) (n:Nat) (f:Fn) (cs:List AV):YA A n0 ids (n+1) (.fn f cs)=.fn f (cs.map (YA A n0 ids n)):=id rfl
@[go_sem] theorem Zo6 (n:Nat) (f:Fn) (cs:List AV):YT (n+1) (.fn f cs)=cs.flatMap (YT n):=id rfl
@[go_sem] theorem Znr (n:Nat) (f:Fn) (cs:List DV):fk n (.fn f cs)=.fn f cs:=by cases n<;>rfl
theorem YJ (A:List Blk)(n i v o len sz:Nat)(k:Option Nat):deep A (n+1) (.sref i v o len sz k)=if len=0 then some (.lst [] 0 none,[]) else(cellsAt A i v o).bind fun cs=>if len*sz<=cs.length then(Y8 (deep A n) (cs.take (len*sz))).map fun r=>(.lst r.1 len k,i::r.2) else none:=by
 show(if len=0 then some (DV.lst [] 0 none,[]) else match cellsAt A i v o with | some cs=>if len*sz<=cs.length then(Y8 (deep A n) (cs.take (len*sz))).map (fun r=>(DV.lst r.1 len k,i::r.2)) else none | none=>none)=_
 cases cellsAt A i v o<;>rfl
theorem Zh8 {α:Type} [Cl α] {i v:Nat}{A:List Blk}{ro:Bool}{l junk:List α}(h0:l≠[])(h:A[i]? =some (.cells ((rC (l++junk)).map .d) v ro))(n sz:Nat)(k:Option Nat)(hs:sz=Cl.n α):deep A (n+2) (.sref i v 0 l.length sz k)=some (.lst (rC l) l.length k,[i]):=by
 subst hs
 have hl:l.length≠0:=by cases l<;>simp_all
 have hc:cellsAt A i v 0=some ((rC (l++junk)).map .d):=by simp[cellsAt,h]
 have hle:l.length*Cl.n α<=((rC (l++junk)).map AV.d).length:=by
  rw[List.length_map,QH,List.length_append,Nat.add_mul];omega
 unfold deep
 simp only[hl,if_false,hc,hle,if_true]
 have ht:((rC (l++junk)).map AV.d).take (l.length*Cl.n α)=(rC l).map .d:=by
  rw[<-List.map_take,Px,List.take_left]
 rw[ht,FY]
 rfl
theorem WF {α:Type} [Cl α] {i v:Nat}{A:List Blk}{ro:Bool}{pre l junk:List α}(h:A[i]? =some (.cells ((rC (pre++(l++junk))).map .d) v ro))(h0:l≠[])(n off len sz:Nat)(k:Option Nat)(hs:sz=Cl.n α)(ho:off=pre.length*Cl.n α)(hl:len=l.length):deep A (n+2) (.sref i v off len sz k)=some (.lst (rC l) len k,[i]):=by
 subst hs ho hl
 have hl:l.length≠0:=by cases l<;>simp_all
 have e:(rC (pre++(l++junk))).map AV.d=(rC pre).map .d++((rC l).map .d++(rC junk).map .d):=by simp[rC]
 have hp:((rC pre).map AV.d).length=pre.length*Cl.n α:=by rw[List.length_map,QH]
 have hc:cellsAt A i v (pre.length*Cl.n α)=some ((rC l).map .d++(rC junk).map .d):=by
  unfold cellsAt
  rw[h]
  simp only[if_true]
  rw[e,<-hp,List.drop_left]
 have hle:l.length*Cl.n α<=((rC l).map AV.d++(rC junk).map AV.d).length:=by
  rw[List.length_append,List.length_map,QH];omega
 rw[YJ,if_neg hl,hc]
 simp only[Option.bind_some]
 have ht:((rC l).map AV.d++(rC junk).map AV.d).take (l.length*Cl.n α)=(rC l).map .d:=by
  have:((rC l).map AV.d).length=l.length*Cl.n α:=by rw[List.length_map,QH]
  rw[<-this,List.take_left]
 rw[if_pos hle,ht,FY]
 rfl
theorem Cq {α:Type} [Cl α] {i v:Nat}{A:List Blk}{ro:Bool}{l:List α}(h:A[i]? =some (.cells ((rC l).map .d) v ro))(h0:l≠[])(n len sz:Nat)(k:Option Nat)(hs:sz=Cl.n α)(hl:len=l.length):deep A (n+2) (.sref i v 0 len sz k)=some (.lst (rC l) len k,[i]):=
 WF (pre:=[]) (junk:=[]) (by simpa using h) h0 n 0 len sz k hs (by simp) hl
theorem CD {α:Type} [Cl α] (l:List α):DV.lst (rC l) l.length none=rD l:=id rfl
theorem Ck {α:Type} [Cl α] (l:List α)(h0:l≠[])(len:Nat)(hl:len=l.length)(n sz:Nat)(k:Option Nat)(hs:sz=Cl.n α):deep [.cells ((rC l).map .d) 0 false] (n+2) (.sref 0 0 0 len sz k)=some (.lst (rC l) l.length k,[0]):=by
 subst hl
 exact Cq rfl h0 n _ sz k hs rfl
section
variable {α:Type} [Cl α] [Cl1 α]
theorem Z1z (x:α):(((Cl.cells x).map AV.d).all AV.one)=true:=by
 rw[List.all_map];exact Cl1.one x
theorem HR (l:List α):(((rC l).map AV.d).all AV.one)=true:=by
 rw[List.all_map];exact Z0w l
omit [Cl1 α] in
theorem DB (l m:List α):rC (l++m)=rC l++rC m:=by simp[rC]
omit [Cl1 α] in
theorem Za7 (x:α):rC [x]=Cl.cells x:=by simp[rC]
theorem MJ {A:List Blk}{s bytes j v:Nat}{out:List α}{x:α}{new:List AV}(hA:A[j]? =some (.cells ((rC out).map .d) v false))(hs:s=Cl.n α)(h0:0<Cl.n α)(hn:new=(Cl.cells x).map .d)(h1:(out.length+1)*bytes<=Z4)(h2:out.length+1<=Z4):
  ZS A s bytes (.sref j v 0 out.length s none) new 1=some (.turn j (.cells ((rC (out++[x])).map .d) (v+1) false) (.sref j (v+1) 0 (out.length+1) s none)):=by
 subst hs hn
 have e:(rC (out++[x])).map AV.d=(rC out).map .d++(Cl.cells x).map .d:=by rw[DB,Za7,List.map_append]
 rw[R9,if_neg (by decide),if_neg (by rw[Z1z];simp;exact⟨by omega,by omega⟩),hA,e]
 have hl:((rC out).map AV.d).length=out.length*Cl.n α:=by rw[List.length_map,QH]
 have:¬0+(out.length+1)*Cl.n α<=((rC out).map AV.d).length:=by
  rw[hl,Nat.add_mul];omega
 simp only[ne_eq,not_true_eq_false,false_or]
 rw[if_neg (by omega),if_neg (by simp),if_neg this]
 exact if_pos ⟨trivial,hl.symm⟩
theorem Zj3 {A:List Blk}{s bytes j v:Nat}{out junk:List α}{x y:α}{new:List AV}(hA:A[j]? =some (.cells ((rC (out++y::junk)).map .d) v false))(hs:s=Cl.n α)(hn:new=(Cl.cells x).map .d)(h1:(out.length+1)*bytes<=Z4)(h2:out.length+1<=Z4):
  ZS A s bytes (.sref j v 0 out.length s none) new 1=some (.turn j (.cells ((rC (out++x::junk)).map .d) v false) (.sref j v 0 (out.length+1) s none)):=by
 subst hs hn
 rw[R9,if_neg (by decide),if_neg (by rw[Z1z];simp;exact⟨by omega,by omega⟩),hA]
 have hl:((rC (out++y::junk)).map AV.d).length=(out.length+1+junk.length)*Cl.n α:=by
  rw[List.length_map,QH,List.length_append,List.length_cons];congr 1;omega
 have h3:0+(out.length+1)*Cl.n α<=((rC (out++y::junk)).map AV.d).length:=by
  rw[hl,Nat.zero_add];exact Nat.mul_le_mul_right _ (by omega)
 have h4:¬((rC (out++y::junk)).map AV.d).length<0+out.length*Cl.n α:=by
  have:out.length*Cl.n α<=(out.length+1+junk.length)*Cl.n α:=Nat.mul_le_mul_right _ (by omega)
  omega
 have e1:(rC (out++y::junk))=rC out++(Cl.cells y++rC junk):=by rw[DB];rfl
 have e2:(rC (out++x::junk))=rC out++(Cl.cells x++rC junk):=by rw[DB];rfl
 have e:splice ((rC (out++y::junk)).map AV.d) (0+out.length*Cl.n α) ((Cl.cells x).map .d)=(rC (out++x::junk)).map .d:=by
  have hc:(rC out).length=out.length*Cl.n α:=QH out
  unfold splice
  rw[e1,e2,Nat.zero_add,List.length_map,Cl.len]
  simp only[List.map_append]
  have hr:((rC out).map AV.d).length=out.length*Cl.n α:=by rw[List.length_map,hc]
  rw[<-hr,List.take_left,<-List.drop_drop,List.drop_left]
  have hy:((Cl.cells y).map AV.d).length=Cl.n α:=by rw[List.length_map,Cl.len]
  rw[<-hy,List.drop_left]
  simp
 simp only[ne_eq,not_true_eq_false,false_or,h4,if_false]
 simp only[Bool.false_eq_true,if_false]
 rw[if_pos h3,e]
theorem RK {A:List Blk}{bytes j v:Nat}{out:List Int}{n:Int}(hA:A[j]? =some (.cells ((rC out).map .d) v false))(h1:(out.length+1)*bytes<=Z4)(h2:out.length+1<=Z4):
  ZS A 1 bytes (.sref j v 0 out.length 1 none) [aI n] 1=some (.turn j (.cells ((rC (out++[n])).map .d) (v+1) false) (.sref j (v+1) 0 (out.length+1) 1 none)):=
 MJ (x:=n) hA rfl (by decide) rfl h1 h2
theorem Z7e {A:List Blk}{bytes j v:Nat}{out junk:List Int}{y n:Int}(hA:A[j]? =some (.cells ((rC (out++y::junk)).map .d) v false))(h1:(out.length+1)*bytes<=Z4)(h2:out.length+1<=Z4):
  ZS A 1 bytes (.sref j v 0 out.length 1 none) [aI n] 1=some (.turn j (.cells ((rC (out++n::junk)).map .d) v false) (.sref j v 0 (out.length+1) 1 none)):=
 Zj3 (x:=n) hA rfl rfl h1 h2
theorem EC {A:List Blk}{bytes j v:Nat}{out:List Ent}{pc vl ad fr nx:Int}{dn kn ft:Bool}(hA:A[j]? =some (.cells ((rC out).map .d) v false))(h1:(out.length+1)*bytes<=Z4)(h2:out.length+1<=Z4):
  ZS A 8 bytes (.sref j v 0 out.length 8 none) [.d (vi pc),.d (vi vl),.d (vi ad),.d (vi fr),.d (vi nx),.d (vb dn),.d (vb kn),.d (vb ft)] 1=some (.turn j (.cells ((rC (out++[⟨pc,vl,ad,fr,nx,dn,kn,ft⟩])).map .d) (v+1) false) (.sref j (v+1) 0 (out.length+1) 8 none)):=
 MJ (x:=(⟨pc,vl,ad,fr,nx,dn,kn,ft⟩:Ent)) hA rfl (by decide) rfl h1 h2
@[go_sem] theorem Z7c (A:List Blk) (s bytes n:Nat) (new:List AV):ZS A s bytes (.d (.lst [] 0 (some 0))) new (n+1)=if 0<0+(n+1)/\([]:List DV).length=0*s/\(0+(n+1))*bytes<=Z4/\0+(n+1)<=Z4 then some (.fresh (([]:List DV).map .d++new) (0+(n+1))) else none:=id rfl
attribute [-go_sem] VF
attribute [go_sem low] VF
omit [Cl1 α] in
theorem Z9t {l:List α}{k:Nat}{e e':α}(h:l[k]? =some e)(o:Nat)(ys:List DV)(hs:splice (Cl.cells e) o ys=Cl.cells e')(hb:o+ys.length<=Cl.n α):
  splice ((rC l).map AV.d) (k*Cl.n α+o) (ys.map .d)=(rC (l.set k e')).map .d:=by
 obtain⟨hk,rfl⟩:=List.getElem?_eq_some_iff.1 h
 have e0:l=l.take k++l[k]::l.drop (k+1):=by rw[<-List.drop_eq_getElem_cons hk,List.take_append_drop]
 have e1:rC l=rC (l.take k)++(Cl.cells l[k]++rC (l.drop (k+1))):=by
  conv=>lhs;rw[e0]
  rw[DB];rfl
 have e2:l.set k e'=l.take k++e'::l.drop (k+1):=List.set_eq_take_append_cons_drop.trans (if_pos hk)
 have e3:rC (l.set k e')=rC (l.take k)++(Cl.cells e'++rC (l.drop (k+1))):=by rw[e2,DB];rfl
 have hl:(rC (l.take k)).length=k*Cl.n α:=by rw[QH,List.length_take,Nat.min_eq_left (by omega)]
 have hc:=Cl.len l[k]
 rw[e3,<-hs,e1]
 unfold splice
 simp only[List.map_append,List.map_take,List.map_drop,List.length_map]
 have hl':((rC (l.take k)).map AV.d).length=k*Cl.n α:=by rw[List.length_map,hl]
 have hc':((Cl.cells l[k]).map AV.d).length=Cl.n α:=by rw[List.length_map,hc]
 have t1:((rC (l.take k)).map AV.d++((Cl.cells l[k]).map AV.d++(rC (l.drop (k+1))).map AV.d)).take (k*Cl.n α+o)=(rC (l.take k)).map AV.d++((Cl.cells l[k]).map AV.d).take o:=by
  rw[<-hl',List.take_length_add_append,List.take_append_of_le_length (by omega)]
 have t2:((rC (l.take k)).map AV.d++((Cl.cells l[k]).map AV.d++(rC (l.drop (k+1))).map AV.d)).drop (k*Cl.n α+o+ys.length)=((Cl.cells l[k]).map AV.d).drop (o+ys.length)++(rC (l.drop (k+1))).map AV.d:=by
  rw[<-hl',Nat.add_assoc,<-List.drop_drop,List.drop_left,List.drop_append_of_le_length (by omega)]
 rw[t1,t2]
 simp
omit [Cl1 α] in
theorem MX {A:List Blk}{i v k o n:Nat}{l:List α}{e e':α}{xs:List AV}(ys:List DV)(h:l[k]? =some e)(hx:xs=ys.map .d)(hn:xs.length=n)(h1:xs.all AV.one=true)(hs:splice (Cl.cells e) o ys=Cl.cells e')(hb:o+ys.length<=Cl.n α)(s:Nat)(hz:s=Cl.n α)(off:Nat)(ho:off=k*s+o):
  storeAt A i v off xs n (some (.cells ((rC l).map .d) v false))=some (A.set i (.cells ((rC (l.set k e')).map .d) v false)):=by
 subst hz ho
 have hk:k<l.length:=(List.getElem?_eq_some_iff.1 h).1
 rw[VF]
 have hlen:k*Cl.n α+o+n<=((rC l).map AV.d).length:=by
  rw[List.length_map,QH,<-hn,hx,List.length_map]
  have:(k+1)*Cl.n α<=l.length*Cl.n α:=Nat.mul_le_mul_right _ hk
  rw[Nat.add_mul] at this
  omega
 rw[if_pos ⟨rfl,hn,hlen,h1⟩,hx,Z9t h o ys hs hb]
end
section
variable {α:Type} [Cl α] [Cl1 α]
omit [Cl1 α] in
theorem Yk {l:List α}(h:l.length≠0)(i:Nat):Bw i l=.sref i 0 0 l.length (Cl.n α) none:=by cases l<;>simp_all [Bw]
omit [Cl1 α] in
theorem Yj {l:List α}(h:l.length≠0):Bz l=[.cells ((rC l).map .d) 0 false]:=by cases l<;>simp_all [Bz]
omit [Cl1 α] in
theorem QK (i:Nat):Bw i ([]:List α)=.d (.lst [] 0 (some 0)):=rfl
omit [Cl1 α] in
theorem QJ:Bz ([]:List α)=[]:=rfl
theorem CA {A:List Blk}{s bytes j v:Nat}{cs new:List AV}{n:Nat}(hA:A[j]? =some (.cells cs v false))(h0:n≠0)(h1:n*bytes<=Z4)(h2:n<=Z4)(h3:new.all AV.one=true):
  ZS A s bytes (.sref j v 0 0 s (some 0)) new n=some (.fresh new n):=by
 have:=Z7b A s bytes j 0 n cs new v hA h0 rfl h1 h2 h3
 exact this
end
end Go.Aug
