import Derived.Test.YthnhboimcidhgaaGreatDoorEvTy
namespace Go.Aug
open Go
def Zh:Option (AV×List Blk)->Option DV
 | some (x,A)=>(deep A 8 x).map fun r=>fk 4 r.1
 | none=>none
@[go_sem] theorem Zrm (x:AV) (A:List Blk):Zh (some (x,A))=(deep A 8 x).map fun r=>fk 4 r.1:=id rfl
@[go_sem] theorem Y0l (b:Bool) (x y:Option (AV×List Blk)):Zh (bif b then x else y)=bif b then Zh x else Zh y:=by cases b<;>rfl
@[go_sem] theorem Y2r (c:Prop) [Decidable c] (x y:Option (AV×List Blk)):Zh (if c then x else y)=if c then Zh x else Zh y:=by split<;>rfl
def Y6g:Option (List DV×List Nat)->Option (DV×List Nat)
 | some (l,u)=>some (.tup l,u)
 | none=>none
@[go_sem] theorem Y0o (l:List DV) (u:List Nat):Y6g (some (l,u))=some (.tup l,u):=id rfl
@[go_sem] theorem Y3x (A:List Blk) (n:Nat) (cs:List AV):deep A (n+1) (.tup cs)=Y6g (Z2e (deep A n) cs):=by
 show(Z2e (deep A n) cs).map (fun r=>(DV.tup r.1,r.2))=_
 cases Z2e (deep A n) cs<;>rfl
def Zk (E:Env)(fn:FuncId->Option (Env->cT->cT))(n:Nat)(g:FuncId)(ds:List DV)(D:DV):Prop:=
 Zh (evC E fn n g (ds.map .d) [])=some D
theorem Za3 {α:Type}{p q:α->Bool}:∀ {l:List α},(∀ x ∈ l,p x=q x)->l.all p=l.all q
 | [],_=>rfl
 | x::l,h=>by rw[List.all_cons,List.all_cons,h x (by simp),Za3 (fun y hy=>h y (by simp[hy]))]
theorem Zi6:∀(n m:Nat) (x:DV),DV.flat n (fk m x)=DV.flat n x
 | 0,_,_=>rfl
 | n+1,0,_=>rfl
 | n+1,m+1,.agg cs=>by
  show(cs.map (fk m)).all (DV.flat n)=cs.all (DV.flat n)
  rw[List.all_map]
  exact Za3 fun x _=>Zi6 n m x
 | n+1,m+1,.tup cs=>by
  show(cs.map (fk m)).all (DV.flat n)=cs.all (DV.flat n)
  rw[List.all_map]
  exact Za3 fun x _=>Zi6 n m x
 | n+1,m+1,.lst cs len k=>by
  cases cs with
  | nil=>cases len<;>rfl
  | cons _ _=>rfl
 | n+1,m+1,.v _=>rfl
 | n+1,m+1,.vptr _=>rfl
 | n+1,m+1,.fn _ _=>rfl
 | n+1,m+1,.ifc _ _=>rfl
 | n+1,m+1,.nel=>rfl
section
variable {E:Env} {fn:FuncId->Option (Env->cT->cT)} {n:Nat} {g:FuncId} {ds:List DV} {D:DV}
theorem Zk.raw (h:Zk E fn n g ds D)(hp:E.prim g=none):∃ x Ac u D0,Z2c E (evC E fn n) g ds=some (x,Ac)/\deep Ac 8 x=some (D0,u)/\fk 4 D0=D:=by
 unfold Zk at h
 unfold Z2c
 rw[hp]
 show ∃ x Ac u D0,evC E fn n g (ds.map .d) []=some (x,Ac)/\_
 cases hc:evC E fn n g (ds.map .d) [] with
 | none=>rw[hc] at h;cases h
 | some p=>
  obtain⟨x,Ac⟩:=p
  rw[hc,Zrm] at h
  cases hd:deep Ac 8 x with
  | none=>rw[hd] at h;cases h
  | some q=>
   obtain⟨D0,u⟩:=q
   rw[hd] at h
   simp only[Option.map_some,Option.some.injEq] at h
   exact⟨x,Ac,u,D0,rfl,hd,h⟩
theorem Zk.flat (h:Zk E fn n g ds D)(hp:E.prim g=none)(hf:D.flat 8=true)(A:List Blk)(nb:Nat)(us:List Nat):Zb false E (evC E fn n) g A nb (some (ds,us))=some (.made (.d D) []):=by
 obtain⟨x,Ac,u,D0,h1,h2,h3⟩:=h.raw hp
 simp only[Zb,h1,Z4r,cond_false,h2,Z7k]
 rw[<-h3,Zi6] at hf
 rw[hf,Bool.or_true,cond_true,h3]
theorem Zk.deep (h:Zk E fn n g ds D)(hp:E.prim g=none)(A:List Blk)(nb:Nat):Zb false E (evC E fn n) g A nb (some (ds,[]))=some (.made (.d D) []):=by
 obtain⟨x,Ac,u,D0,h1,h2,h3⟩:=h.raw hp
 simp only[Zb,h1,Z4r,cond_false,h2,Z7k,Qg,Bool.true_or,cond_true,h3]
theorem Zk.used (h:Zk E fn n g ds D)(hp:E.prim g=none)(hf:D.flat 8=false)(A:List Blk)(nb i:Nat)(us:List Nat):Zb false E (evC E fn n) g A nb (some (ds,i::us))=some (.turned (.d D) (Qn A (i::us))):=by
 obtain⟨x,Ac,u,D0,h1,h2,h3⟩:=h.raw hp
 simp only[Zb,h1,Z4r,cond_false,h2,Z7k]
 rw[<-h3,Zi6] at hf
 rw[hf]
 show(bif Qg (i::us) || false then _ else _)=_
 simp only[Qg,Bool.or_false,cond_false,h3]
end
section
variable {α:Type} [Cl α]
@[go_sem] theorem Y8o (l:List α):Zg9 (.d (rD l))=some (aI l.length):=id rfl
@[go_sem] theorem Yb0 (n:Nat) (l:List α):fk (n+1) (rD l)=rD l:=id rfl
@[go_sem] theorem Y8n (l:List α):AV.one (.d (rD l))=true:=id rfl
@[go_sem] theorem Y43 (l:List α):AV.cells (.d (rD l))=[.d (rD l)]:=id rfl
theorem Y42 (A:List Blk)(s:Nat)(l:List α)(hs:s=Cl.n α):Z0g A false s (.d (rD l))=some ((rC l).map .d,l.length):=by
 subst hs
 show(if(rC l).length=l.length*Cl.n α then some ((rC l).map AV.d,l.length) else none)=_
 rw[if_pos (Yc l)]
theorem Q4 {l:List α}{i:Nat}{e:α}(h:l[i]? =some e)(kk:IntKind)(s:Nat)(hs:s=Cl.n α):Z93 (.d (rD l)) (.d (.v (.int kk (i:Int)))) s=some (.d (.vptr (Cl.cells e++rC (l.drop (i+1))))):=by
 obtain⟨hi,rfl⟩:=List.getElem?_eq_some_iff.1 h
 exact Zxf hi hs none kk
theorem Z7r {l:List α}{i:Int}{e:α}(h0:0<=i)(h:l[i.toNat]? =some e)(kk:IntKind)(s:Nat)(hs:s=Cl.n α):Z93 (.d (rD l)) (.d (.v (.int kk i))) s=some (.d (.vptr (Cl.cells e++rC (l.drop (i.toNat+1))))):=by
 obtain⟨i,rfl⟩:=Int.eq_ofNat_of_zero_le h0
 exact Q4 (by simpa using h) kk s hs
end
theorem eG (x:AV)(A:List Blk):Zl7 0 (some (x,A))=some (ren A 0 (Z0t A 0 100000 (Q5 8 x) []) 8 x,Z1r A 0 (Z0t A 0 100000 (Q5 8 x) [])):=by
 show some (ren A 0 (Z0t A 0 100000 (Q5 8 x++[]) []) 8 x,Z1r A 0 (Z0t A 0 100000 (Q5 8 x++[]) []))=_
 rw[List.append_nil]
def Z2k (tm:List AV):Option Opd->Option AV
 | some o=>some (look tm o)
 | none=>none
@[go_sem] theorem Y0i (tm:List AV):Z2k tm none=none:=id rfl
@[go_sem] theorem Y0h (tm:List AV) (o:Opd):Z2k tm (some o)=some (look tm o):=id rfl
def Zrp (len:Nat)(x:Option AV)(dflt:Nat):Option Nat:=
 match x with
 | none=>some dflt
 | some x=>match x with
  | .d (.v (.int _ n))=>if 0<=n/\n<=len then some n.toNat else none
  | _=>none
theorem Y01 (len:Nat)(tm:List AV)(x:Option Opd)(d:Nat):bnd len tm x d=Zrp len (Z2k tm x) d:=by cases x<;>rfl
@[go_sem] theorem Zls (len d:Nat):Zrp len none d=some d:=id rfl
theorem Zlr (len d:Nat)(k:IntKind)(n:Int)(h:0<=n/\n<=len):Zrp len (some (.d (.v (.int k n)))) d=some n.toNat:=if_pos h
def Z6j (len:Nat)(lo hi mx:Option AV):Option (Nat×Nat×Nat):=
 match Zrp len mx len,Zrp len hi len,Zrp len lo 0 with
 | some m,some h,some l=>if l<=h/\h<=m/\(mx.isSome->hi.isSome) then some (l,h,m) else none
 | _,_,_=>none
theorem Zpw (len:Nat)(tm:List AV)(lo hi mx:Option Opd):Qo len tm lo hi mx=Z6j len (Z2k tm lo) (Z2k tm hi) (Z2k tm mx):=by
 unfold Qo Z6j
 rw[Y01,Y01,Y01]
 cases Zrp len (Z2k tm mx) len<;>cases Zrp len (Z2k tm hi) len<;>cases Zrp len (Z2k tm lo) 0<;>cases mx<;>cases hi<;>rfl
def Zy0 {α:Type} [Cl α] (l:List α):Option (Nat×Nat×Nat)->Option AV
 | some (lo,hi,_)=>some (.d (rD ((l.drop lo).take (hi-lo))))
 | none=>none
@[go_sem] theorem Y0e {α:Type} [Cl α] (l:List α) (lo hi m:Nat):Zy0 l (some (lo,hi,m))=some (.d (rD ((l.drop lo).take (hi-lo)))):=id rfl
theorem Y8m {α:Type} [Cl α] (tm:List AV)(l:List α)(lo hi:Option Opd)(s:Nat)(hs:s=Cl.n α):Zr6 tm (.d (rD l)) lo hi none s=Zy0 l (Z6j l.length (Z2k tm lo) (Z2k tm hi) none):=by
 subst hs
 show(match Qo l.length tm lo hi none with
  | some (a,b,m)=>if a=b then some (AV.d (.lst [] 0 (if(none:Option Opd).isSome=true/\m=a then some 0 else none))) else if b*Cl.n α<=(rC l).length then some (.d (.lst (((rC l).drop (a*Cl.n α)).take ((b-a)*Cl.n α)) (b-a) (Zlg none m a none))) else none
  | none=>none)=_
 rw[Zpw]
 show _=Zy0 l (Z6j l.length (Z2k tm lo) (Z2k tm hi) none)
 have hbd:∀ {a b m},Z6j l.length (Z2k tm lo) (Z2k tm hi) none=some (a,b,m)->a<=b/\b<=l.length:=by
  intro a b m h
  unfold Z6j at h
  split at h
  ·rename_i m' h' l' e1 e2 e3
   split at h
   ·rename_i hc
    simp only[Option.some.injEq,Prod.mk.injEq] at h
    obtain⟨rfl,rfl,rfl⟩:=h
    simp only[Zrp,Option.some.injEq] at e1
    omega
   ·cases h
  ·cases h
 show(match Z6j l.length (Z2k tm lo) (Z2k tm hi) none with | some (a,b,m)=>_ | none=>none)=_
 cases hb:Z6j l.length (Z2k tm lo) (Z2k tm hi) none with
 | none=>rfl
 | some p=>
  obtain⟨a,b,m⟩:=p
  obtain⟨h1,h2⟩:=hbd hb
  show(if a=b then _ else _)=some (AV.d (rD ((l.drop a).take (b-a))))
  by_cases hab:a=b
  ·subst hab
   rw[if_pos rfl,Nat.sub_self];rfl
  ·rw [if_neg hab, if_pos (by rw [Yc]; exact Nat.mul_le_mul_right _ h2)]
   rw[Zcd,Z60]
   have:((l.drop a).take (b-a)).length=b-a:=by simp;omega
   unfold rD
   rw[this];rfl
theorem Z2w (len:Nat)(k:IntKind)(h:Int)(h0:0<=h)(h1:h<=len):Z6j len none (some (.d (.v (.int k h)))) none=some (0,h.toNat,len):=by
 have e:Zrp len (some (.d (.v (.int k h)))) len=some h.toNat:=Zlr _ _ _ _ ⟨h0,h1⟩
 simp only[Z6j,Zls,e,Nat.zero_le,true_and]
 rw[if_pos ⟨by omega,by simp⟩]
theorem Z9e (len:Nat)(k:IntKind)(l:Int)(h0:0<=l)(h1:l<=len):Z6j len (some (.d (.v (.int k l)))) none none=some (l.toNat,len,len):=by
 have e:Zrp len (some (.d (.v (.int k l)))) 0=some l.toNat:=Zlr _ _ _ _ ⟨h0,h1⟩
 simp only[Z6j,Zls,e,Nat.le_refl,true_and]
 rw[if_pos ⟨by omega,by simp⟩]
def Z3m {α:Type} [Cl α] (i:Nat):List α->AV
 | []=>.d (.lst [] 0 (some 0))
 | l=>.sref i 0 0 l.length (Cl.n α) none
def Z30 {α:Type} [Cl α]:List α->List Blk
 | []=>[]
 | l=>[.cells ((rC l).map .d) 0 false]
section
variable (E:Env) (call:cT) (tm:List AV) (A:List Blk) (nb:Nat)
@[go_sem] theorem Y99 (x:Opd) (lo hi mx:Option Opd) (s:Nat):Zp2 x lo hi mx s E call tm A nb=one? (Zr6 tm (look tm x) lo hi mx s):=id rfl
@[go_sem] theorem Y4m (x:Opd):Q6 x E call tm A nb=one? (Zdo (look tm x)):=id rfl
@[go_sem] theorem Y36 (i v o:Nat):Zdo (.ref i v o)=some (.ref i v o):=id rfl
@[go_sem] theorem Y37 (cs:List DV):Zdo (.d (.vptr cs))=some (.d (.vptr cs)):=id rfl
end
@[go_sem] theorem Zj0 {α:Type} [Cl α]:rD ([]:List α)=.lst [] 0 none:=id rfl
section
variable (E:Env) (call:cT) (tm:List AV) (A:List Blk)
@[go_sem] theorem Y67 (fg:Fl) (d:Option Nat) (t:Nat) (b:Bool) (op:OpF) (l:List (Fl×Stp)) (k:K):Z7j E call ((fg,⟨d,some (t,b),op⟩)::l) k tm A=Zj7 E call fg ⟨d,some (t,b),op⟩ (Z7j E call l k) tm A (Zc0 b (Z0r tm t)):=id rfl
@[go_sem] theorem Y5z (fg:Fl) (s:Stp) (k:K):Zj7 E call fg s k tm A (some true)=Z8y fg s.dst k tm A (s.op E call tm A A.length):=id rfl
@[go_sem] theorem Y60 (fg:Fl) (s:Stp) (k:K):Zj7 E call fg s k tm A (some false)=k (Z44 tm s.dst Z26) A:=id rfl
end
@[go_sem] theorem Ya3 (vs:List AV) (i:Nat):Ztn (.tup vs) i=vs[i]? :=id rfl
@[go_sem] theorem Y7n (vs:List DV) (i:Nat):Ztn (.d (.tup vs)) i=(vs[i]?).map .d:=id rfl
@[go_sem] theorem Y7e (cs:List AV) (off:Nat) (ag:Bool) (n:Nat):Z7i (.agg cs) off ag n=if off+n<=cs.length then Jw ag n (cs.drop off) else none:=id rfl
@[go_sem] theorem Y5b (cs:List DV) (off:Nat) (ag:Bool) (n:Nat):Z7i (.d (.agg cs)) off ag n=if off+n<=cs.length then(Qt ag n (cs.drop off)).map .d else none:=id rfl
@[go_sem] theorem Ya2 (x:AV) (k:IntKind) (i:Int) (len s:Nat):Ztk x (.d (.v (.int k i))) len s=if 0<=i/\i<len then Z63 x (i.toNat*s) else none:=id rfl
@[go_sem] theorem Ya0 (x:AV) (k:IntKind) (i:Int) (len s:Nat) (ag:Bool) (n:Nat):Zw1 x (.d (.v (.int k i))) len s ag n=if 0<=i/\i<len then Z7i x (i.toNat*s) ag n else none:=id rfl
section
variable (E:Env) (call:cT) (tm:List AV) (A:List Blk) (nb:Nat)
@[go_sem] theorem Y9k (x ix:Opd) (len s:Nat):Zis x ix len s E call tm A nb=one? (Ztk (look tm x) (look tm ix) len s):=id rfl
@[go_sem] theorem Y9i (x ix:Opd) (len s:Nat) (ag:Bool) (n:Nat):Y4w x ix len s ag n E call tm A nb=one? (Zw1 (look tm x) (look tm ix) len s ag n):=id rfl
@[go_sem] theorem Y73 (n:Nat):Zyb n E call tm A nb=some (.made (aI n) []):=id rfl
@[go_sem] theorem Y6z (x:Opd):Zvg x E call tm A nb=Zvr (look tm x):=id rfl
@[go_sem] theorem Y4n (s:ByteArray):Zvr (.d (.v (.string s)))=some (.made (aI s.size) []):=id rfl
@[go_sem] theorem Y9j (x ix:Opd):Y4x x ix E call tm A nb=one? (Zze (look tm x) (look tm ix)):=id rfl
@[go_sem] theorem Y98 (x:Opd) (lo hi:Option Opd):Y4u x lo hi E call tm A nb=one? (Zw0 tm (look tm x) lo hi):=id rfl
@[go_sem] theorem Y9l (f:Fn) (cap:List Opd):Zyc f cap E call tm A nb=some (.made (.fn f (cap.map (look tm))) []):=id rfl
@[go_sem] theorem Y9d (t:TypeId) (x:Opd):Y3b t x E call tm A nb=some (.made (.ifc t (look tm x)) []):=id rfl
end
@[go_sem] theorem Y6q (a b:Bool):eqV (.leaf .bool) (.d (.v (.bool a))) (.d (.v (.bool b)))=some (a==b):=id rfl
@[go_sem] theorem Y90 (a b:ByteArray):eqV (.leaf .str) (.d (.v (.string a))) (.d (.v (.string b)))=some (a.toList==b.toList):=id rfl
@[go_sem] theorem Y6o (n:Nat) (l:List (Nat×Lf)) (x y:AV):eqV (.flds n l) x y=Zw5 n l (Z43 x) (Z43 y):=id rfl
@[go_sem] theorem Y4g (cs:List AV):Z43 (.agg cs)=some cs:=id rfl
@[go_sem] theorem Y35 (cs:List DV):Z43 (.d (.agg cs))=some (cs.map .d):=id rfl
@[go_sem] theorem Y95 (n:Nat) (l:List (Nat×Lf)) (xs ys:List AV):Zw5 n l (some xs) (some ys)=if xs.length=n/\ys.length=n then Z5w xs ys l else none:=id rfl
def Y8j:Option Bool->Option Bool->Option Bool
 | some a,some b=>some (a&&b)
 | _,_=>none
@[go_sem] theorem Y6r (a b:Bool):Y8j (some a) (some b)=some (a&&b):=id rfl
@[go_sem] theorem Y91 (xs ys:List AV):Z5w xs ys []=some true:=id rfl
@[go_sem] theorem Y6p (xs ys:List AV) (o:Nat) (f:Lf) (l:List (Nat×Lf)):Z5w xs ys ((o,f)::l)=Y8j (Zmm f (Z0r xs o) (Z0r ys o)) (Z5w xs ys l):=by
 show(match Zmm f (Z0r xs o) (Z0r ys o),Z5w xs ys l with | some a,some b=>some (a&&b) | _,_=>none)=_
 cases Zmm f (Z0r xs o) (Z0r ys o)<;>cases Z5w xs ys l<;>rfl
@[go_sem] theorem Y94 (a b:Bool):Zmm .bool (.d (.v (.bool a))) (.d (.v (.bool b)))=some (a==b):=id rfl
@[go_sem] theorem Y93 (k:IntKind) (a b:Int):Zmm .int (.d (.v (.int k a))) (.d (.v (.int k b)))=some (a==b):=if_pos rfl
@[go_sem] theorem Y92 (a b:ByteArray):Zmm .str (.d (.v (.string a))) (.d (.v (.string b)))=some (a.toList==b.toList):=id rfl
@[go_sem] theorem Y6n (x:AV) (l:List AV):Z0r (x::l) 0=x:=id rfl
@[go_sem] theorem Y6m (x:AV) (l:List AV) (n:Nat):Z0r (x::l) (n+1)=Z0r l n:=id rfl
abbrev inn (E:Env)(f:FuncId):Env:={ br:=E.br,th:=E.th,prim:=E.prim,back:=E.back,lives:=E.lives,live:=E.lives f,nb0:=0 }
def Zyn (k:K)(N:Nat)(l:List Nat)(d:AV)(S:List (Nat×AV))(A:List Blk)(ids:List Nat):Ans:=
 k (mk .bot N (l.map fun t=>(t,ren A 0 ids 8 (Z01 d S t)))) (Z1r A 0 ids)
@[go_sem] theorem Y3d (k:K) (N:Nat) (l:List Nat) (d:AV) (S:List (Nat×AV)) (A:List Blk) (ids:List Nat):Zyn k N l d S A ids=k (mk .bot N (l.map fun t=>(t,ren A 0 ids 8 (Z01 d S t)))) (Z1r A 0 ids):=id rfl
theorem Z1 {E:Env}{f:FuncId}{key:Nat}{l:List Nat}(hl:E.lives f key=some l)(ha:Zut 0 l=true)(c:CT)(call:cT)(kx:Nat->K)(kr:K)(n:Nat)(d:AV)(N:Nat)(S:List (Nat×AV))(A:List Blk)(hN:(l.all fun t=>Nat.blt t N)=true):
  Zi key c (inn E f) call kx kr (n+1) (mk d N S) A=
   Zyn (c (inn E f) call (Zi key c (inn E f) call kx kr n) kx kr) N l d S A (Z0t A 0 100000 (l.flatMap fun t=>Q5 8 (Z01 d S t)) []):=by
 rw[Zzl]
 refine Zym E f key l hl ha _ d N S A fun t ht=> ?_
 have:=List.all_eq_true.1 hN t ht
 exact Nat.le_of_ble_eq_true this
theorem Y2:(1000000000000000000000000000000:Nat)=999999999999999999999999999999+1:=rfl
attribute [go_sem] Zqo
@[go_sem] theorem Y1i:Cl.n Int=1:=id rfl
@[go_sem] theorem Y9v:Cl.n Ent=8:=id rfl
@[go_sem] theorem Y9u:Cl.n Ins=9:=id rfl
@[go_sem] theorem Y9t:Cl.n MemT=3:=id rfl
@[go_sem] theorem Y52:Cl.n Label=2:=id rfl
@[go_sem] theorem Y51:Cl.n Place=3:=id rfl
@[go_sem] theorem Y9s:Cl.n Obs=2:=id rfl
@[go_sem] theorem Y9w:Cl.n Dir=2:=id rfl
@[go_sem] theorem Y9r:Cl.n Val=2:=id rfl
attribute [go_sem] Y8m Y42
attribute [go_sem] Zn Yd Z0y Z5y Zv Z22 Z5u Y2d Y2e Y2c Zwe Zwd Y2b Zu0 Zu1
theorem Y2a (v:Val):Cl.cells v=[vb v.reg,vi v.n]:=id rfl
attribute [go_sem] Y2a
@[go_sem] theorem Y84 (v:Val):Val.mk v.reg v.n=v:=rfl
@[go_sem] theorem Y87 (i:Ins):Ins.mk i.kind i.op i.d i.a i.b i.name i.target=i:=rfl
@[go_sem] theorem Y5l (r:Regs):Regs.mk r.r0 r.r1 r.r2 r.r3=r:=rfl
@[go_sem] theorem Y5m (p:Prog):Prog.mk p.w p.window p.fuel p.regs p.mems p.labels p.ins=p:=rfl
@[go_sem] theorem Y3s (s:State):State.mk s.regs s.mem s.stack s.pc=s:=rfl
@[go_sem] theorem Y5n (c:Conf):Conf.mk c.state c.buf c.rsb c.end_=c:=rfl
@[go_sem] theorem Y88 (e:Ent):Ent.mk e.pc e.val e.addr e.frm e.next e.done e.known e.fault=e:=rfl
@[go_sem] theorem Y89 (d:Dir):Dir.mk d.kind d.n=d:=rfl
@[go_sem] theorem Y85 (o:Obs):Obs.mk o.kind o.at_=o:=rfl
@[go_sem] theorem Y86 (m:MemT):MemT.mk m.name m.secret m.n=m:=rfl
@[go_sem] theorem Y3t (l:Label):Label.mk l.name l.at_=l:=rfl
end Go.Aug
