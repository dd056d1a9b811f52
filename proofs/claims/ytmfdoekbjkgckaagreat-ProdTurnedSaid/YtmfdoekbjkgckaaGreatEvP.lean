import Derived.Test.YtmfdoekbjkgckaaGreatEvTy
namespace Go.Aug
open Go
def Zk:Option (AV×List Blk)->Option DV
 | some (x,A)=>(deep A 8 x).map fun r=>fk 4 r.1
 | none=>none
@[go_sem] theorem Zt1 (x:AV) (A:List Blk):Zk (some (x,A))=(deep A 8 x).map fun r=>fk 4 r.1:=id rfl
@[go_sem] theorem Zzp (b:Bool) (x y:Option (AV×List Blk)):Zk (bif b then x else y)=bif b then Zk x else Zk y:=by cases b<;>rfl
@[go_sem] theorem Zzo (c:Prop) [Decidable c] (x y:Option (AV×List Blk)):Zk (if c then x else y)=if c then Zk x else Zk y:=by split<;>rfl
def Z3v:Option (List DV×List Nat)->Option (DV×List Nat)
 | some (l,u)=>some (.tup l,u)
 | none=>none
@[go_sem] theorem Ztj (l:List DV) (u:List Nat):Z3v (some (l,u))=some (.tup l,u):=id rfl
@[go_sem] theorem Zyw (A:List Blk) (n:Nat) (cs:List AV):deep A (n+1) (.tup cs)=Z3v (YQ (deep A n) cs):=by
 show(YQ (deep A n) cs).map (fun r=>(DV.tup r.1,r.2))=_
 cases YQ (deep A n) cs<;>rfl
def Z6 (E:Env)(fn:FuncId->Option (Env->cT->cT))(n:Nat)(g:FuncId)(ds:List DV)(D:DV):Prop:=
 Zk (Z4 E fn n g (ds.map .d) [])=some D
theorem Z38 {α:Type}{p q:α->Bool}:∀ {l:List α},(∀ x ∈ l,p x=q x)->l.all p=l.all q
 | [],_=>rfl
 | x::l,h=>by rw[List.all_cons,List.all_cons,h x (by simp),Z38 (fun y hy=>h y (by simp[hy]))]
theorem Wk:∀(n m:Nat) (x:DV),DV.flat n (fk m x)=DV.flat n x
 | 0,_,_=>rfl
 | n+1,0,_=>rfl
 | n+1,m+1,.agg cs=>by
  show(cs.map (fk m)).all (DV.flat n)=cs.all (DV.flat n)
  rw[List.all_map]
  exact Z38 fun x _=>Wk n m x
 | n+1,m+1,.tup cs=>by
  show(cs.map (fk m)).all (DV.flat n)=cs.all (DV.flat n)
  rw[List.all_map]
  exact Z38 fun x _=>Wk n m x
 | n+1,m+1,.lst cs len k=>by
  cases cs with
  | nil=>cases len<;>rfl
  | cons _ _=>rfl
 | n+1,m+1,.v _=>rfl
 | n+1,m+1,.vptr _=>rfl
 | n+1,m+1,.fn _ _=>rfl
 | n+1,m+1,.ifc _ _=>rfl
 | n+1,m+1,.nel=>rfl
section
variable {E:Env} {fn:FuncId->Option (Env->cT->cT)} {n:Nat} {g:FuncId} {ds:List DV} {D:DV}
theorem Z6.raw (h:Z6 E fn n g ds D)(hp:E.prim g=none):∃ x Ac u D0,JN E (Z4 E fn n) g ds=some (x,Ac)/\deep Ac 8 x=some (D0,u)/\fk 4 D0=D:=by
 unfold Z6 at h
 unfold JN
 rw[hp]
 show ∃ x Ac u D0,Z4 E fn n g (ds.map .d) []=some (x,Ac)/\_
 cases hc:Z4 E fn n g (ds.map .d) [] with
 | none=>rw[hc] at h;cases h
 | some p=>
  obtain⟨x,Ac⟩:=p
  rw[hc,Zt1] at h
  cases hd:deep Ac 8 x with
  | none=>rw[hd] at h;cases h
  | some q=>
   obtain⟨D0,u⟩:=q
   rw[hd] at h
   simp only[Option.map_some,Option.some.injEq] at h
   exact⟨x,Ac,u,D0,rfl,hd,h⟩
theorem Z6.flat (h:Z6 E fn n g ds D)(hp:E.prim g=none)(hf:D.flat 8=true)(A:List Blk)(nb:Nat)(us:List Nat):ZH false E (Z4 E fn n) g A nb (some (ds,us))=some (.made (.d D) []):=by
 obtain⟨x,Ac,u,D0,h1,h2,h3⟩:=h.raw hp
 simp only[ZH,h1,F0,cond_false,h2,HY]
 rw[<-h3,Wk] at hf
 rw[hf,Bool.or_true,cond_true,h3]
theorem Z6.deep (h:Z6 E fn n g ds D)(hp:E.prim g=none)(A:List Blk)(nb:Nat):ZH false E (Z4 E fn n) g A nb (some (ds,[]))=some (.made (.d D) []):=by
 obtain⟨x,Ac,u,D0,h1,h2,h3⟩:=h.raw hp
 simp only[ZH,h1,F0,cond_false,h2,HY,B5,Bool.true_or,cond_true,h3]
theorem Z6.used (h:Z6 E fn n g ds D)(hp:E.prim g=none)(hf:D.flat 8=false)(A:List Blk)(nb i:Nat)(us:List Nat):ZH false E (Z4 E fn n) g A nb (some (ds,i::us))=some (.turned (.d D) (YT A (i::us))):=by
 obtain⟨x,Ac,u,D0,h1,h2,h3⟩:=h.raw hp
 simp only[ZH,h1,F0,cond_false,h2,HY]
 rw[<-h3,Wk] at hf
 rw[hf]
 show(bif B5 (i::us) || false then _ else _)=_
 simp only[B5,Bool.or_false,cond_false,h3]
end
section
variable {α:Type} [Cl α]
@[go_sem] theorem Ztg (l:List α):RV (.d (rD l))=some (aI l.length):=id rfl
@[go_sem] theorem Zth (n:Nat) (l:List α):fk (n+1) (rD l)=rD l:=id rfl
@[go_sem] theorem Ztf (l:List α):AV.one (.d (rD l))=true:=id rfl
@[go_sem] theorem Zti (l:List α):AV.cells (.d (rD l))=[.d (rD l)]:=id rfl
theorem Zgl (A:List Blk)(s:Nat)(l:List α)(hs:s=Cl.n α):Ek A false s (.d (rD l))=some ((rC l).map .d,l.length):=by
 subst hs
 show(if(rC l).length=l.length*Cl.n α then some ((rC l).map AV.d,l.length) else none)=_
 rw[if_pos (QX l)]
theorem Zz {l:List α}{i:Nat}{e:α}(h:l[i]? =some e)(kk:IntKind)(s:Nat)(hs:s=Cl.n α):EY (.d (rD l)) (.d (.v (.int kk (i:Int)))) s=some (.d (.vptr (Cl.cells e++rC (l.drop (i+1))))):=by
 obtain⟨hi,rfl⟩:=List.getElem?_eq_some_iff.1 h
 exact Z7g hi hs none kk
theorem E5 {l:List α}{i:Int}{e:α}(h0:0<=i)(h:l[i.toNat]? =some e)(kk:IntKind)(s:Nat)(hs:s=Cl.n α):EY (.d (rD l)) (.d (.v (.int kk i))) s=some (.d (.vptr (Cl.cells e++rC (l.drop (i.toNat+1))))):=by
 obtain⟨i,rfl⟩:=Int.eq_ofNat_of_zero_le h0
 exact Zz (by simpa using h) kk s hs
end
theorem eG (x:AV)(A:List Blk):DE 0 (some (x,A))=some (Yz A 0 (QD A 0 100000 (Q2 8 x) []) 8 x,Yq A 0 (QD A 0 100000 (Q2 8 x) [])):=by
 show some (Yz A 0 (QD A 0 100000 (Q2 8 x++[]) []) 8 x,Yq A 0 (QD A 0 100000 (Q2 8 x++[]) []))=_
 rw[List.append_nil]
def A4 (tm:List AV):Option Opd->Option AV
 | some o=>some (look tm o)
 | none=>none
@[go_sem] theorem Zxe (tm:List AV):A4 tm none=none:=id rfl
@[go_sem] theorem Zxd (tm:List AV) (o:Opd):A4 tm (some o)=some (look tm o):=id rfl
def F2 (len:Nat)(x:Option AV)(dflt:Nat):Option Nat:=
 match x with
 | none=>some dflt
 | some x=>match x with
  | .d (.v (.int _ n))=>if 0<=n/\n<=len then some n.toNat else none
  | _=>none
theorem Z2y (len:Nat)(tm:List AV)(x:Option Opd)(d:Nat):EE len tm x d=F2 len (A4 tm x) d:=by cases x<;>rfl
@[go_sem] theorem Zcu (len d:Nat):F2 len none d=some d:=id rfl
theorem Zct (len d:Nat)(k:IntKind)(n:Int)(h:0<=n/\n<=len):F2 len (some (.d (.v (.int k n)))) d=some n.toNat:=if_pos h
def BV (len:Nat)(lo hi mx:Option AV):Option (Nat×Nat×Nat):=
 match F2 len mx len,F2 len hi len,F2 len lo 0 with
 | some m,some h,some l=>if l<=h/\h<=m/\(mx.isSome->hi.isSome) then some (l,h,m) else none
 | _,_,_=>none
theorem WW (len:Nat)(tm:List AV)(lo hi mx:Option Opd):B9 len tm lo hi mx=BV len (A4 tm lo) (A4 tm hi) (A4 tm mx):=by
 unfold B9 BV
 rw[Z2y,Z2y,Z2y]
 cases F2 len (A4 tm mx) len<;>cases F2 len (A4 tm hi) len<;>cases F2 len (A4 tm lo) 0<;>cases mx<;>cases hi<;>rfl
def XQ {α:Type} [Cl α] (l:List α):Option (Nat×Nat×Nat)->Option AV
 | some (lo,hi,_)=>some (.d (rD ((l.drop lo).take (hi-lo))))
 | none=>none
@[go_sem] theorem Ztk {α:Type} [Cl α] (l:List α) (lo hi m:Nat):XQ l (some (lo,hi,m))=some (.d (rD ((l.drop lo).take (hi-lo)))):=id rfl
theorem Zgk {α:Type} [Cl α] (tm:List AV)(l:List α)(lo hi:Option Opd)(s:Nat)(hs:s=Cl.n α):HR tm (.d (rD l)) lo hi none s=XQ l (BV l.length (A4 tm lo) (A4 tm hi) none):=by
 subst hs
 show(match B9 l.length tm lo hi none with
  | some (a,b,m)=>if a=b then some (AV.d (.lst [] 0 (if(none:Option Opd).isSome=true/\m=a then some 0 else none))) else if b*Cl.n α<=(rC l).length then some (.d (.lst (((rC l).drop (a*Cl.n α)).take ((b-a)*Cl.n α)) (b-a) (KM none m a none))) else none
  | none=>none)=_
 rw[WW]
 show _=XQ l (BV l.length (A4 tm lo) (A4 tm hi) none)
 have hbd:∀ {a b m},BV l.length (A4 tm lo) (A4 tm hi) none=some (a,b,m)->a<=b/\b<=l.length:=by
  intro a b m h
  unfold BV at h
  split at h
  ·rename_i m' h' l' e1 e2 e3
   split at h
   ·rename_i hc
    simp only[Option.some.injEq,Prod.mk.injEq] at h
    obtain⟨rfl,rfl,rfl⟩:=h
    simp only[F2,Option.some.injEq] at e1
    omega
   ·cases h
  ·cases h
 show(match BV l.length (A4 tm lo) (A4 tm hi) none with | some (a,b,m)=>_ | none=>none)=_
 cases hb:BV l.length (A4 tm lo) (A4 tm hi) none with
 | none=>rfl
 | some p=>
  obtain⟨a,b,m⟩:=p
  obtain⟨h1,h2⟩:=hbd hb
  show(if a=b then _ else _)=some (AV.d (rD ((l.drop a).take (b-a))))
  by_cases hab:a=b
  ·subst hab
   rw[if_pos rfl,Nat.sub_self];rfl
  ·rw [if_neg hab, if_pos (by rw [QX]; exact Nat.mul_le_mul_right _ h2)]
   rw[XW,SM]
   have:((l.drop a).take (b-a)).length=b-a:=by simp;omega
   unfold rD
   rw[this];rfl
theorem H3 (len:Nat)(k:IntKind)(h:Int)(h0:0<=h)(h1:h<=len):BV len none (some (.d (.v (.int k h)))) none=some (0,h.toNat,len):=by
 have e:F2 len (some (.d (.v (.int k h)))) len=some h.toNat:=Zct _ _ _ _ ⟨h0,h1⟩
 simp only[BV,Zcu,e,Nat.zero_le,true_and]
 rw[if_pos ⟨by omega,by simp⟩]
theorem PF (len:Nat)(k:IntKind)(l:Int)(h0:0<=l)(h1:l<=len):BV len (some (.d (.v (.int k l)))) none none=some (l.toNat,len,len):=by
 have e:F2 len (some (.d (.v (.int k l)))) 0=some l.toNat:=Zct _ _ _ _ ⟨h0,h1⟩
 simp only[BV,Zcu,e,Nat.le_refl,true_and]
 rw[if_pos ⟨by omega,by simp⟩]
def YJ {α:Type} [Cl α] (i:Nat):List α->AV
 | []=>.d (.lst [] 0 (some 0))
 | l=>.sref i 0 0 l.length (Cl.n α) none
def Yw {α:Type} [Cl α]:List α->List Blk
 | []=>[]
 | l=>[.cells ((rC l).map .d) 0 false]
section
variable (E:Env) (call:cT) (tm:List AV) (A:List Blk) (nb:Nat)
@[go_sem] theorem Zul (x:Opd) (lo hi mx:Option Opd) (s:Nat):CZ x lo hi mx s E call tm A nb=one? (HR tm (look tm x) lo hi mx s):=id rfl
@[go_sem] theorem Zut (x:Opd):QT x E call tm A nb=one? (TG (look tm x)):=id rfl
@[go_sem] theorem Zur (i v o:Nat):TG (.ref i v o)=some (.ref i v o):=id rfl
@[go_sem] theorem Zus (cs:List DV):TG (.d (.vptr cs))=some (.d (.vptr cs)):=id rfl
end
@[go_sem] theorem Xz {α:Type} [Cl α]:rD ([]:List α)=.lst [] 0 none:=id rfl
section
variable (E:Env) (call:cT) (tm:List AV) (A:List Blk)
@[go_sem] theorem Zzb (fg:Fl) (d:Option Nat) (t:Nat) (b:Bool) (op:ZU) (l:List (Fl×Stp)) (k:K):HX E call ((fg,⟨d,some (t,b),op⟩)::l) k tm A=Mz E call fg ⟨d,some (t,b),op⟩ (HX E call l k) tm A (NM b (Y6 tm t)):=id rfl
@[go_sem] theorem Zz2 (fg:Fl) (s:Stp) (k:K):Mz E call fg s k tm A (some true)=FM fg s.dst k tm A (s.op E call tm A A.length):=id rfl
@[go_sem] theorem Zz3 (fg:Fl) (s:Stp) (k:K):Mz E call fg s k tm A (some false)=k (QF tm s.dst JX) A:=id rfl
end
@[go_sem] theorem Zww (vs:List AV) (i:Nat):TK (.tup vs) i=vs[i]? :=id rfl
@[go_sem] theorem Zwv (vs:List DV) (i:Nat):TK (.d (.tup vs)) i=(vs[i]?).map .d:=id rfl
@[go_sem] theorem Zwh (cs:List AV) (off:Nat) (ag:Bool) (n:Nat):HT (.agg cs) off ag n=if off+n<=cs.length then BH ag n (cs.drop off) else none:=id rfl
@[go_sem] theorem Zwg (cs:List DV) (off:Nat) (ag:Bool) (n:Nat):HT (.d (.agg cs)) off ag n=if off+n<=cs.length then(C2 ag n (cs.drop off)).map .d else none:=id rfl
@[go_sem] theorem Zwt (x:AV) (k:IntKind) (i:Int) (len s:Nat):TJ x (.d (.v (.int k i))) len s=if 0<=i/\i<len then GG x (i.toNat*s) else none:=id rfl
@[go_sem] theorem Zwr (x:AV) (k:IntKind) (i:Int) (len s:Nat) (ag:Bool) (n:Nat):Wv x (.d (.v (.int k i))) len s ag n=if 0<=i/\i<len then HT x (i.toNat*s) ag n else none:=id rfl
section
variable (E:Env) (call:cT) (tm:List AV) (A:List Blk) (nb:Nat)
@[go_sem] theorem Zvc (x ix:Opd) (len s:Nat):D1 x ix len s E call tm A nb=one? (TJ (look tm x) (look tm ix) len s):=id rfl
@[go_sem] theorem Zva (x ix:Opd) (len s:Nat) (ag:Bool) (n:Nat):Z0d x ix len s ag n E call tm A nb=one? (Wv (look tm x) (look tm ix) len s ag n):=id rfl
@[go_sem] theorem Zv8 (n:Nat):Z0c n E call tm A nb=some (.made (aI n) []):=id rfl
@[go_sem] theorem Zv4 (x:Opd):VE x E call tm A nb=W3 (look tm x):=id rfl
@[go_sem] theorem Zv3 (s:ByteArray):W3 (.d (.v (.string s)))=some (.made (aI s.size) []):=id rfl
@[go_sem] theorem Zvb (x ix:Opd):Z0e x ix E call tm A nb=one? (Z1u (look tm x) (look tm ix)):=id rfl
@[go_sem] theorem Zuk (x:Opd) (lo hi:Option Opd):Z0a x lo hi E call tm A nb=one? (Wz tm (look tm x) lo hi):=id rfl
@[go_sem] theorem Zvd (f:Fn) (cap:List Opd):NY f cap E call tm A nb=some (.made (.fn f (cap.map (look tm))) []):=id rfl
@[go_sem] theorem Zuw (t:TypeId) (x:Opd):VD t x E call tm A nb=some (.made (.ifc t (look tm x)) []):=id rfl
end
@[go_sem] theorem Zuc (a b:Bool):GX (.leaf .bool) (.d (.v (.bool a))) (.d (.v (.bool b)))=some (a==b):=id rfl
@[go_sem] theorem Zu1 (a b:ByteArray):GX (.leaf .str) (.d (.v (.string a))) (.d (.v (.string b)))=some (a.toList==b.toList):=id rfl
@[go_sem] theorem Zu8 (n:Nat) (l:List (Nat×Lf)) (x y:AV):GX (.flds n l) x y=WB n l (NE x) (NE y):=id rfl
@[go_sem] theorem Zub (cs:List AV):NE (.agg cs)=some cs:=id rfl
@[go_sem] theorem Zua (cs:List DV):NE (.d (.agg cs))=some (cs.map .d):=id rfl
@[go_sem] theorem Zue (n:Nat) (l:List (Nat×Lf)) (xs ys:List AV):WB n l (some xs) (some ys)=if xs.length=n/\ys.length=n then D4 xs ys l else none:=id rfl
def Zda:Option Bool->Option Bool->Option Bool
 | some a,some b=>some (a&&b)
 | _,_=>none
@[go_sem] theorem Zud (a b:Bool):Zda (some a) (some b)=some (a&&b):=id rfl
@[go_sem] theorem Zu4 (xs ys:List AV):D4 xs ys []=some true:=id rfl
@[go_sem] theorem Zu9 (xs ys:List AV) (o:Nat) (f:Lf) (l:List (Nat×Lf)):D4 xs ys ((o,f)::l)=Zda (E1 f (Y6 xs o) (Y6 ys o)) (D4 xs ys l):=by
 show(match E1 f (Y6 xs o) (Y6 ys o),D4 xs ys l with | some a,some b=>some (a&&b) | _,_=>none)=_
 cases E1 f (Y6 xs o) (Y6 ys o)<;>cases D4 xs ys l<;>rfl
@[go_sem] theorem Zu7 (a b:Bool):E1 .bool (.d (.v (.bool a))) (.d (.v (.bool b)))=some (a==b):=id rfl
@[go_sem] theorem Zu6 (k:IntKind) (a b:Int):E1 .int (.d (.v (.int k a))) (.d (.v (.int k b)))=some (a==b):=if_pos rfl
@[go_sem] theorem Zu5 (a b:ByteArray):E1 .str (.d (.v (.string a))) (.d (.v (.string b)))=some (a.toList==b.toList):=id rfl
@[go_sem] theorem Zu3 (x:AV) (l:List AV):Y6 (x::l) 0=x:=id rfl
@[go_sem] theorem Zu2 (x:AV) (l:List AV) (n:Nat):Y6 (x::l) (n+1)=Y6 l n:=id rfl
abbrev Zq (E:Env)(f:FuncId):Env:={ br:=E.br,th:=E.th,prim:=E.prim,back:=E.back,lives:=E.lives,live:=E.lives f,nb0:=0 }
def Z0t (k:K)(N:Nat)(l:List Nat)(d:AV)(S:List (Nat×AV))(A:List Blk)(ids:List Nat):F6:=
 k (mk .bot N (l.map fun t=>(t,Yz A 0 ids 8 (ZT d S t)))) (Yq A 0 ids)
@[go_sem] theorem Zvv (k:K) (N:Nat) (l:List Nat) (d:AV) (S:List (Nat×AV)) (A:List Blk) (ids:List Nat):Z0t k N l d S A ids=k (mk .bot N (l.map fun t=>(t,Yz A 0 ids 8 (ZT d S t)))) (Yq A 0 ids):=id rfl
theorem Z8 {E:Env}{f:FuncId}{key:Nat}{l:List Nat}(hl:E.lives f key=some l)(ha:Gj 0 l=true)(c:CT)(call:cT)(kx:Nat->K)(kr:K)(n:Nat)(d:AV)(N:Nat)(S:List (Nat×AV))(A:List Blk)(hN:(l.all fun t=>Nat.blt t N)=true):
  Zj key c (Zq E f) call kx kr (n+1) (mk d N S) A=
   Z0t (c (Zq E f) call (Zj key c (Zq E f) call kx kr n) kx kr) N l d S A (QD A 0 100000 (l.flatMap fun t=>Q2 8 (ZT d S t)) []):=by
 rw[Zbn]
 refine Zn9 E f key l hl ha _ d N S A fun t ht=> ?_
 have:=List.all_eq_true.1 hN t ht
 exact Nat.le_of_ble_eq_true this
theorem Y9:(1000000000000000000000000000000:Nat)=999999999999999999999999999999+1:=rfl
attribute [go_sem] Zia
@[go_sem] theorem Z6g:Cl.n Int=1:=id rfl
@[go_sem] theorem Zw4:Cl.n Ent=8:=id rfl
@[go_sem] theorem Zw3:Cl.n Ins=9:=id rfl
@[go_sem] theorem Zw1:Cl.n MemT=3:=id rfl
@[go_sem] theorem Zw2:Cl.n Label=2:=id rfl
@[go_sem] theorem Zvz:Cl.n Place=3:=id rfl
@[go_sem] theorem Zw0:Cl.n Obs=2:=id rfl
@[go_sem] theorem Zw5:Cl.n Dir=2:=id rfl
@[go_sem] theorem Zvy:Cl.n Val=2:=id rfl
attribute [go_sem] Zgk Zgl
attribute [go_sem] Zw ZZ B8 H8 ZA QB CX Zrb Zrc Zr9 Zra Zr7 Zr8 Z2b WF
theorem Zr6 (v:Val):Cl.cells v=[vb v.reg,vi v.n]:=id rfl
attribute [go_sem] Zr6
@[go_sem] theorem Zy3 (v:Val):Val.mk v.reg v.n=v:=rfl
@[go_sem] theorem Zya (i:Ins):Ins.mk i.kind i.op i.d i.a i.b i.name i.target=i:=rfl
@[go_sem] theorem Zy5 (r:Regs):Regs.mk r.r0 r.r1 r.r2 r.r3=r:=rfl
@[go_sem] theorem Zy6 (p:Prog):Prog.mk p.w p.window p.fuel p.regs p.mems p.labels p.ins=p:=rfl
@[go_sem] theorem Zy4 (s:State):State.mk s.regs s.mem s.stack s.pc=s:=rfl
@[go_sem] theorem Zyd (c:Conf):Conf.mk c.state c.buf c.rsb c.end_=c:=rfl
@[go_sem] theorem Zyb (e:Ent):Ent.mk e.pc e.val e.addr e.frm e.next e.done e.known e.fault=e:=rfl
@[go_sem] theorem Zyc (d:Dir):Dir.mk d.kind d.n=d:=rfl
@[go_sem] theorem Zy7 (o:Obs):Obs.mk o.kind o.at_=o:=rfl
@[go_sem] theorem Zy8 (m:MemT):MemT.mk m.name m.secret m.n=m:=rfl
@[go_sem] theorem Zy9 (l:Label):Label.mk l.name l.at_=l:=rfl
end Go.Aug
