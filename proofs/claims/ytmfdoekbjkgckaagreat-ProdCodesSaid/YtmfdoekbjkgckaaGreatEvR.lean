import Derived.Test.YtmfdoekbjkgckaaGreatEvA
namespace Go.Aug
open Go
section
variable (I:Nat->Prop) (w:World)
mutual
inductive DR:DV->Value->Prop
 | v (x:Value) (h:x.oneCell'=true):DR (.v x) x
 | agg {cs:List DV} {X:Array Value} (h:DRs cs X.toList):DR (.agg cs) (.agg X)
 | tup {cs:List DV} {X:Array Value} (h:DRs cs X.toList):DR (.tup cs) (.tuple X)
 | emp {k:Option Nat} (hk:∀ c,k=some c->0=c):DR (.lst [] 0 k) (.slice none 0 0)
 | nil {k:Option Nat} {a:Addr} {cap:Nat} (hk:∀ c,k=some c->cap=c):DR (.lst [] 0 k) (.slice (some a) 0 cap)
 | lst {cs : List DV} {len cap b o : Nat} {k : Option Nat} (hI : I b) (hl : len <= cap) (hk : ∀ c, k = some c -> cap = c) (h : DRm cs b o) :
   DR (.lst cs len k) (.slice (some ⟨b,o,none⟩) len cap)
 | vptr {cs:List DV} {b o:Nat} (hI:I b) (h:DRm cs b o):DR (.vptr cs) (.pointer (some ⟨b,o,none⟩))
 | fn {f:Fn} {cs:List DV} {X:Array Value} (h:DRs cs X.toList):DR (.fn f cs) (.func f #[] X)
 | ifc {t:TypeId} {x:DV} {X:Value} (h:DR x X):DR (.ifc t x) (.iface t X)
 | nel {a:Addr} {cap:Nat}:DR .nel (.slice (some a) 0 cap)
inductive DRs:List DV->List Value->Prop
 | nil:DRs [] []
 | cons {x:DV} {X:Value} {cs:List DV} {Xs:List Value} (h:DR x X) (hs:DRs cs Xs):DRs (x::cs) (X::Xs)
inductive DRm:List DV->Nat->Nat->Prop
 | nil {b o:Nat}:DRm [] b o
 | cons {x:DV} {X:Value} {cs:List DV} {b o:Nat} (hc:w.cell? ⟨b,o,none⟩=some X) (h:DR x X) (hs:DRm cs b (o+1)):DRm (x::cs) b o
end
end
theorem Rv {w w':World}{b:Nat}(h:w'.heap[b]? =w.heap[b]?)(o:Nat)(s:Option Nat):w'.cell? ⟨b,o,s⟩=w.cell? ⟨b,o,s⟩:=by
 unfold World.cell?
 simp only[h]
mutual
theorem DR.mono {I I':Nat->Prop}{w w':World}(hI:∀ b,I b->I' b)(hb:∀ b,I b->w'.heap[b]? =w.heap[b]?){x:DV}{X:Value}:DR I w x X->DR I' w' x X
 | .v x h=>.v x h
 | .agg h=>.agg (DRs.mono hI hb h)
 | .tup h=>.tup (DRs.mono hI hb h)
 | .emp hk=>.emp hk
 | .nil hk=>.nil hk
 | .lst hi hl hk h=>.lst (hI _ hi) hl hk (DRm.mono hI hb hi h)
 | .vptr hi h=>.vptr (hI _ hi) (DRm.mono hI hb hi h)
 | .fn h=>.fn (DRs.mono hI hb h)
 | .ifc h=>.ifc (DR.mono hI hb h)
 | .nel=>.nel
theorem DRs.mono {I I':Nat->Prop}{w w':World}(hI:∀ b,I b->I' b)(hb:∀ b,I b->w'.heap[b]? =w.heap[b]?){cs:List DV}{Xs:List Value}:DRs I w cs Xs->DRs I' w' cs Xs
 | .nil=>.nil
 | .cons h hs=>.cons (DR.mono hI hb h) (DRs.mono hI hb hs)
theorem DRm.mono {I I':Nat->Prop}{w w':World}(hI:∀ b,I b->I' b)(hb:∀ b,I b->w'.heap[b]? =w.heap[b]?){cs:List DV}{b o:Nat}(hi:I b):DRm I w cs b o->DRm I' w' cs b o
 | .nil=>.nil
 | .cons hc h hs=>.cons ((Rv (hb _ hi) _ _).trans hc) (DR.mono hI hb h) (DRm.mono hI hb hi hs)
end
structure Cx where
 I:Nat->Prop
 ρ:Nat->Nat
 w:World
 A:List Blk
 Pr:Nat->Prop
def Blk.ver:Blk->Option Nat
 | .cells _ v _=>some v
 | .iter _ _=>some 0
 | .free=>none
def Zk (A:List Blk)(i:Nat):Option Nat:=(A[i]?).bind Blk.ver
def Yz (w:World)(b:Nat):Nat:=
 match w.heap[b]? with
 | some (.cells C _ _)=>C.size
 | _=>0
section
variable (c:Cx)
mutual
inductive VR:AV->Value->Prop
 | bot {X:Value}:VR .bot X
 | d {x:DV} {X:Value} (h:DR c.I c.w x X):VR (.d x) X
 | agg {cs:List AV} {X:Array Value} (h:VRs cs X.toList):VR (.agg cs) (.agg X)
 | tup {cs:List AV} {X:Array Value} (h:VRs cs X.toList):VR (.tup cs) (.tuple X)
 | ref {i ver off:Nat} (hp:c.Pr i) (hv:Zk c.A i=some ver):VR (.ref i ver off) (.pointer (some ⟨c.ρ i,off,none⟩))
 | refS {i ver off v b o:Nat} (hv:Zk c.A i=some v) (hl:ver<v):VR (.ref i ver off) (.pointer (some ⟨b,o,none⟩))
 | sref {i ver off len cap sz : Nat} {k : Option Nat} (hp : c.Pr i) (hv : Zk c.A i = some ver) (hl : len <= cap) (hk : ∀ n, k = some n -> cap = n)
   (hs:off+cap*sz<=Yz c.w (c.ρ i)) (hn:k=none->off+cap*sz=Yz c.w (c.ρ i)):VR (.sref i ver off len sz k) (.slice (some ⟨c.ρ i,off,none⟩) len cap)
 | srefS {i ver off len sz v cap b o:Nat} {k:Option Nat} (hv:Zk c.A i=some v) (hl:ver<v) (hc:len<=cap) (hk:∀ n,k=some n->cap=n):VR (.sref i ver off len sz k) (.slice (some ⟨b,o,none⟩) len cap)
 | fn {f:Fn} {cs:List AV} {X:Array Value} (h:VRs cs X.toList):VR (.fn f cs) (.func f #[] X)
 | ifc {t:TypeId} {x:AV} {X:Value} (h:VR x X):VR (.ifc t x) (.iface t X)
inductive VRs:List AV->List Value->Prop
 | nil:VRs [] []
 | cons {x:AV} {X:Value} {cs:List AV} {Xs:List Value} (h:VR x X) (hs:VRs cs Xs):VRs (x::cs) (X::Xs)
end
end
structure Ext (c c':Cx):Prop where
 I:∀ b,c.I b->c'.I b
 im:∀ b,c.I b->c'.w.heap[b]? =c.w.heap[b]?
 pr:∀ i,c.Pr i->c'.Pr i
 ver:∀ i v,Zk c.A i=some v->∃ v',Zk c'.A i=some v'/\v<=v'/\(c.Pr i->v'=v->c'.ρ i=c.ρ i/\Yz c'.w (c.ρ i)=Yz c.w (c.ρ i))
theorem Ext.refl (c:Cx):Ext c c:=⟨fun _ h=>h,fun _ _=>rfl,fun _ h=>h,fun _ v h=>⟨v,h,Nat.le_refl _,fun _ _=>⟨rfl,rfl⟩⟩⟩
theorem Ext.trans {a b c:Cx}(h:Ext a b)(k:Ext b c):Ext a c where
 I:=fun x hx=>k.I _ (h.I _ hx)
 im:=fun x hx=>(k.im _ (h.I _ hx)).trans (h.im _ hx)
 pr:=fun i hi=>k.pr _ (h.pr _ hi)
 ver:=fun _ v hv=>by
  obtain⟨v1,h1,l1,e1⟩:=h.ver _ v hv
  obtain⟨v2,h2,l2,e2⟩:=k.ver _ v1 h1
  refine⟨v2,h2,Nat.le_trans l1 l2,fun hp he=> ?_⟩
  have e:v1=v:=by omega
  obtain⟨r1,s1⟩:=e1 hp e
  obtain⟨r2,s2⟩:=e2 (h.pr _ hp) (by omega)
  refine⟨r2.trans r1,?_⟩
  rw[<-r1,s2,r1,s1]
mutual
theorem VR.mono {c c':Cx}(e:Ext c c'){x:AV}{X:Value}:VR c x X->VR c' x X
 | .bot=>.bot
 | .d h=>.d (h.mono e.I e.im)
 | .agg h=>.agg (VRs.mono e h)
 | .tup h=>.tup (VRs.mono e h)
 | .ref hp hv=>by
  obtain⟨v',h1,l,h2⟩:=e.ver _ _ hv
  rcases Nat.lt_or_eq_of_le l with l | l
  ·exact .refS h1 l
  ·obtain ⟨r, _⟩ := h2 hp l.symm
   rw[<-r];exact .ref (e.pr _ hp) (by rw[h1,l])
 | .refS hv hl=>by
  obtain⟨v',h1,l,_⟩:=e.ver _ _ hv
  exact .refS h1 (by omega)
 | .sref hp hv hl hk hs hn=>by
  obtain⟨v',h1,l,h2⟩:=e.ver _ _ hv
  rcases Nat.lt_or_eq_of_le l with l | l
  ·exact .srefS h1 l hl hk
  ·obtain ⟨r, s⟩ := h2 hp l.symm
   rw[<-s,<-r] at hs hn
   rw[<-r];exact .sref (e.pr _ hp) (by rw[h1,l]) hl hk hs hn
 | .srefS hv hl hc hk=>by
  obtain⟨v',h1,l,_⟩:=e.ver _ _ hv
  exact .srefS h1 (by omega) hc hk
 | .fn h=>.fn (VRs.mono e h)
 | .ifc h=>.ifc (VR.mono e h)
theorem VRs.mono {c c':Cx}(e:Ext c c'){cs:List AV}{Xs:List Value}:VRs c cs Xs->VRs c' cs Xs
 | .nil=>.nil
 | .cons h hs=>.cons (VR.mono e h) (VRs.mono e hs)
end
theorem DRs.length {I:Nat->Prop}{w:World}:∀ {cs:List DV} {Xs:List Value},DRs I w cs Xs->cs.length=Xs.length
 | _,_,.nil=>rfl
 | _,_,.cons _ hs=>by simp[DRs.length hs]
theorem VRs.length {c:Cx}:∀ {cs:List AV} {Xs:List Value},VRs c cs Xs->cs.length=Xs.length
 | _,_,.nil=>rfl
 | _,_,.cons _ hs=>by simp[VRs.length hs]
theorem DRs.get {I:Nat->Prop}{w:World}:∀ {cs:List DV} {Xs:List Value},DRs I w cs Xs->∀ {i:Nat} {x:DV},cs[i]? =some x->∃ X,Xs[i]? =some X/\DR I w x X
 | _,_,.cons h _,0,x,e=>by simp at e;subst e;exact⟨_,rfl,h⟩
 | _,_,.cons _ hs,i+1,x,e=>by simpa using DRs.get hs (by simpa using e)
theorem VRs.get {c:Cx}:∀ {cs:List AV} {Xs:List Value},VRs c cs Xs->∀ {i:Nat} {x:AV},cs[i]? =some x->∃ X,Xs[i]? =some X/\VR c x X
 | _,_,.cons h _,0,x,e=>by simp at e;subst e;exact⟨_,rfl,h⟩
 | _,_,.cons _ hs,i+1,x,e=>by simpa using VRs.get hs (by simpa using e)
theorem DRs.drop {I:Nat->Prop}{w:World}:∀ {cs:List DV} {Xs:List Value},DRs I w cs Xs->∀ n,DRs I w (cs.drop n) (Xs.drop n)
 | _,_,h,0=>h
 | _,_,.nil,_+1=>.nil
 | _,_,.cons _ hs,n+1=>DRs.drop hs n
theorem VRs.drop {c:Cx}:∀ {cs:List AV} {Xs:List Value},VRs c cs Xs->∀ n,VRs c (cs.drop n) (Xs.drop n)
 | _,_,h,0=>h
 | _,_,.nil,_+1=>.nil
 | _,_,.cons _ hs,n+1=>VRs.drop hs n
theorem DRs.take {I:Nat->Prop}{w:World}:∀ {cs:List DV} {Xs:List Value},DRs I w cs Xs->∀ n,DRs I w (cs.take n) (Xs.take n)
 | _,_,_,0=>.nil
 | _,_,.nil,_+1=>.nil
 | _,_,.cons h hs,n+1=>.cons h (DRs.take hs n)
theorem VRs.take {c:Cx}:∀ {cs:List AV} {Xs:List Value},VRs c cs Xs->∀ n,VRs c (cs.take n) (Xs.take n)
 | _,_,_,0=>.nil
 | _,_,.nil,_+1=>.nil
 | _,_,.cons h hs,n+1=>.cons h (VRs.take hs n)
theorem VRs.append {c:Cx}:∀ {cs ds:List AV} {Xs Ys:List Value},VRs c cs Xs->VRs c ds Ys->VRs c (cs++ds) (Xs++Ys)
 | _,_,_,_,.nil,k=>k
 | _,_,_,_,.cons h hs,k=>.cons h (VRs.append hs k)
theorem VRs.ofD {c:Cx}:∀ {cs:List DV} {Xs:List Value},DRs c.I c.w cs Xs->VRs c (cs.map .d) Xs
 | _,_,.nil=>.nil
 | _,_,.cons h hs=>.cons (.d h) (VRs.ofD hs)
theorem VRs.toD {c:Cx}:∀ {cs:List DV} {Xs:List Value},VRs c (cs.map .d) Xs->DRs c.I c.w cs Xs
 | [],_,.nil=>.nil
 | _::_,_,.cons (.d h) hs=>.cons h (VRs.toD hs)
theorem DRs.ofV {I:Nat->Prop}{w:World}:∀(l:List Value),(∀ x ∈ l,x.oneCell'=true)->DRs I w (l.map .v) l
 | [],_=>.nil
 | x::l,h=>.cons (.v x (h x (by simp))) (DRs.ofV l fun y hy=>h y (by simp[hy]))
theorem VRs.splice {c:Cx}{cs ds:List AV}{Xs Ys:List Value}(h:VRs c cs Xs)(k:VRs c ds Ys)(off:Nat):VRs c (splice cs off ds) (splice Xs off Ys):=by
 unfold Aug.splice
 rw[k.length]
 exact((h.take off).append k).append (h.drop _)
theorem VRs.set {c:Cx}:∀ {cs:List AV} {Xs:List Value},VRs c cs Xs->∀(n:Nat) {x:AV} {X:Value},VR c x X->VRs c (Bk cs n x) (Xs.set n X)
 | _,_,.nil,n,_,_,_=>by cases n<;>exact .nil
 | _,_,.cons _ hs,0,_,_,k=>.cons k hs
 | _,_,.cons h hs,n+1,_,_,k=>.cons h (VRs.set hs n k)
theorem Nz (l:List AV):∀ n,ZM l n=l.getD n AR:=by
 induction l with
 | nil=>intro n;cases n<;>rfl
 | cons x l ih=>intro n;cases n with
  | zero=>rfl
  | succ n=>simpa [ZM] using ih n
theorem Sj (l:List AV):∀ n x,Bk l n x=l.set n x:=by
 induction l with
 | nil=>intro n x;cases n<;>rfl
 | cons y l ih=>intro n x;cases n with
  | zero=>rfl
  | succ n=>simp[Bk,ih n x]
theorem VR.undef {c:Cx}:VR c AR undef:=.d (.tup .nil)
theorem VRs.nth {c:Cx}:∀ {cs:List AV} {Xs:List Value},VRs c cs Xs->∀ n,VR c (ZM cs n) (Xs.getD n undef)
 | _,_,.nil,n=>by cases n<;>exact VR.undef
 | _,_,.cons h _,0=>h
 | _,_,.cons _ hs,n+1=>by simpa [ZM] using VRs.nth hs n
theorem VR.cells {c:Cx}{x:AV}{X:Value}(h:VR c x X)(hb:x.isBot=false):VRs c x.cells X.cells.toList:=by
 cases h with
 | bot=>simp[AV.isBot] at hb
 | d h=>
  cases h with
  | agg h=>exact VRs.ofD h
  | v X h1=>
   cases X<;>first | (simp[Value.oneCell'] at h1;done) | exact VRs.cons (.d (.v _ h1)) .nil
  | tup h=>exact .cons (.d (.tup h)) .nil
  | emp hk=>exact .cons (.d (.emp hk)) .nil
  | nil hk=>exact .cons (.d (.nil hk)) .nil
  | lst a b d e=>exact .cons (.d (.lst a b d e)) .nil
  | vptr a b=>exact .cons (.d (.vptr a b)) .nil
  | fn h=>exact .cons (.d (.fn h)) .nil
  | ifc h=>exact .cons (.d (.ifc h)) .nil
  | nel=>exact .cons (.d .nel) .nil
 | agg h=>exact h
 | tup h=>exact .cons (.tup h) .nil
 | ref a b=>exact .cons (.ref a b) .nil
 | refS a b=>exact .cons (.refS a b) .nil
 | sref a b d e f g=>exact .cons (.sref a b d e f g) .nil
 | srefS a b d e=>exact .cons (.srefS a b d e) .nil
 | fn h=>exact .cons (.fn h) .nil
 | ifc h=>exact .cons (.ifc h) .nil
end Go.Aug
