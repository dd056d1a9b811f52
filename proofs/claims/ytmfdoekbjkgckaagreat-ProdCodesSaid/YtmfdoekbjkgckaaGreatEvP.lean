import Derived.Test.YtmfdoekbjkgckaaGreatEvTy
namespace Go.Aug
open Go
def Zz:Option (AV×List Blk)->Option DV
 | some (x,A)=>(deep A 8 x).map fun r=>fk 4 r.1
 | none=>none
@[go_sem] theorem Zj7 (x:AV) (A:List Blk):Zz (some (x,A))=(deep A 8 x).map fun r=>fk 4 r.1:=id rfl
@[go_sem] theorem Zpx (b:Bool) (x y:Option (AV×List Blk)):Zz (bif b then x else y)=bif b then Zz x else Zz y:=by cases b<;>rfl
@[go_sem] theorem Zpw (c:Prop) [Decidable c] (x y:Option (AV×List Blk)):Zz (if c then x else y)=if c then Zz x else Zz y:=by split<;>rfl
def XW:Option (List DV×List Nat)->Option (DV×List Nat)
 | some (l,u)=>some (.tup l,u)
 | none=>none
@[go_sem] theorem Zjo (l:List DV) (u:List Nat):XW (some (l,u))=some (.tup l,u):=id rfl
@[go_sem] theorem Zp4 (A:List Blk) (n:Nat) (cs:List AV):deep A (n+1) (.tup cs)=XW (Y8 (deep A n) cs):=by
 show(Y8 (deep A n) cs).map (fun r=>(DV.tup r.1,r.2))=_
 cases Y8 (deep A n) cs<;>rfl
def Z7 (E:Env)(fn:FuncId->Option (Env->cT->cT))(n:Nat)(g:FuncId)(ds:List DV)(D:DV):Prop:=
 Zz (Z5 E fn n g (ds.map .d) [])=some D
theorem Xq {α:Type}{p q:α->Bool}:∀ {l:List α},(∀ x ∈ l,p x=q x)->l.all p=l.all q
 | [],_=>rfl
 | x::l,h=>by rw[List.all_cons,List.all_cons,h x (by simp),Xq (fun y hy=>h y (by simp[hy]))]
theorem TA:∀(n m:Nat) (x:DV),DV.flat n (fk m x)=DV.flat n x
 | 0,_,_=>rfl
 | n+1,0,_=>rfl
 | n+1,m+1,.agg cs=>by
  show(cs.map (fk m)).all (DV.flat n)=cs.all (DV.flat n)
  rw[List.all_map]
  exact Xq fun x _=>TA n m x
 | n+1,m+1,.tup cs=>by
  show(cs.map (fk m)).all (DV.flat n)=cs.all (DV.flat n)
  rw[List.all_map]
  exact Xq fun x _=>TA n m x
 | n+1,m+1,.lst cs len k=>by
  cases cs with
  | nil=>cases len<;>rfl
  | cons _ _=>rfl
 | n+1,m+1,.v _=>rfl
 | n+1,m+1,.vptr _=>rfl
 | n+1,m+1,.fn _ _=>rfl
 | n+1,m+1,.ifc _ _=>rfl
 | n+1,m+1,.nel=>rfl
section
variable {E:Env} {fn:FuncId->Option (Env->cT->cT)} {n:Nat} {g:FuncId} {ds:List DV} {D:DV}
theorem Z7.raw (h:Z7 E fn n g ds D)(hp:E.prim g=none):∃ x Ac u D0,Jz E (Z5 E fn n) g ds=some (x,Ac)/\deep Ac 8 x=some (D0,u)/\fk 4 D0=D:=by
 unfold Z7 at h
 unfold Jz
 rw[hp]
 show ∃ x Ac u D0,Z5 E fn n g (ds.map .d) []=some (x,Ac)/\_
 cases hc:Z5 E fn n g (ds.map .d) [] with
 | none=>rw[hc] at h;cases h
 | some p=>
  obtain⟨x,Ac⟩:=p
  rw[hc,Zj7] at h
  cases hd:deep Ac 8 x with
  | none=>rw[hd] at h;cases h
  | some q=>
   obtain⟨D0,u⟩:=q
   rw[hd] at h
   simp only[Option.map_some,Option.some.injEq] at h
   exact⟨x,Ac,u,D0,rfl,hd,h⟩
theorem Z7.flat (h:Z7 E fn n g ds D)(hp:E.prim g=none)(hf:D.flat 8=true)(A:List Blk)(nb:Nat)(us:List Nat):ZX false E (Z5 E fn n) g A nb (some (ds,us))=some (.made (.d D) []):=by
 obtain⟨x,Ac,u,D0,h1,h2,h3⟩:=h.raw hp
 simp only[ZX,h1,G9,cond_false,h2,GZ]
 rw[<-h3,TA] at hf
 rw[hf,Bool.or_true,cond_true,h3]
theorem Z7.deep (h:Z7 E fn n g ds D)(hp:E.prim g=none)(A:List Blk)(nb:Nat):ZX false E (Z5 E fn n) g A nb (some (ds,[]))=some (.made (.d D) []):=by
 obtain⟨x,Ac,u,D0,h1,h2,h3⟩:=h.raw hp
 simp only[ZX,h1,G9,cond_false,h2,GZ,CJ,Bool.true_or,cond_true,h3]
theorem Z7.used (h:Z7 E fn n g ds D)(hp:E.prim g=none)(hf:D.flat 8=false)(A:List Blk)(nb i:Nat)(us:List Nat):ZX false E (Z5 E fn n) g A nb (some (ds,i::us))=some (.turned (.d D) (Yv A (i::us))):=by
 obtain⟨x,Ac,u,D0,h1,h2,h3⟩:=h.raw hp
 simp only[ZX,h1,G9,cond_false,h2,GZ]
 rw[<-h3,TA] at hf
 rw[hf]
 show(bif CJ (i::us) || false then _ else _)=_
 simp only[CJ,Bool.or_false,cond_false,h3]
end
section
variable {α:Type} [Cl α]
@[go_sem] theorem Zjl (l:List α):NJ (.d (rD l))=some (aI l.length):=id rfl
@[go_sem] theorem Zjm (n:Nat) (l:List α):fk (n+1) (rD l)=rD l:=id rfl
@[go_sem] theorem Zjk (l:List α):AV.one (.d (rD l))=true:=id rfl
@[go_sem] theorem Zjn (l:List α):AV.cells (.d (rD l))=[.d (rD l)]:=id rfl
theorem XF (A:List Blk)(s:Nat)(l:List α)(hs:s=Cl.n α):CH A false s (.d (rD l))=some ((rC l).map .d,l.length):=by
 subst hs
 show(if(rC l).length=l.length*Cl.n α then some ((rC l).map AV.d,l.length) else none)=_
 rw[if_pos (QH l)]
theorem ZF {l:List α}{i:Nat}{e:α}(h:l[i]? =some e)(kk:IntKind)(s:Nat)(hs:s=Cl.n α):BE (.d (rD l)) (.d (.v (.int kk (i:Int)))) s=some (.d (.vptr (Cl.cells e++rC (l.drop (i+1))))):=by
 obtain⟨hi,rfl⟩:=List.getElem?_eq_some_iff.1 h
 exact VS hi hs none kk
theorem EK {l:List α}{i:Int}{e:α}(h0:0<=i)(h:l[i.toNat]? =some e)(kk:IntKind)(s:Nat)(hs:s=Cl.n α):BE (.d (rD l)) (.d (.v (.int kk i))) s=some (.d (.vptr (Cl.cells e++rC (l.drop (i.toNat+1))))):=by
 obtain⟨i,rfl⟩:=Int.eq_ofNat_of_zero_le h0
 exact ZF (by simpa using h) kk s hs
end
theorem eG (x:AV)(A:List Blk):Cj 0 (some (x,A))=some (YA A 0 (Q1 A 0 100000 (YT 8 x) []) 8 x,ZV A 0 (Q1 A 0 100000 (YT 8 x) [])):=by
 show some (YA A 0 (Q1 A 0 100000 (YT 8 x++[]) []) 8 x,ZV A 0 (Q1 A 0 100000 (YT 8 x++[]) []))=_
 rw[List.append_nil]
def QW (tm:List AV):Option Opd->Option AV
 | some o=>some (look tm o)
 | none=>none
@[go_sem] theorem Znl (tm:List AV):QW tm none=none:=id rfl
@[go_sem] theorem Znk (tm:List AV) (o:Opd):QW tm (some o)=some (look tm o):=id rfl
def EA (len:Nat)(x:Option AV)(dflt:Nat):Option Nat:=
 match x with
 | none=>some dflt
 | some x=>match x with
  | .d (.v (.int _ n))=>if 0<=n/\n<=len then some n.toNat else none
  | _=>none
theorem X4 (len:Nat)(tm:List AV)(x:Option Opd)(d:Nat):CP len tm x d=EA len (QW tm x) d:=by cases x<;>rfl
@[go_sem] theorem Z70 (len d:Nat):EA len none d=some d:=id rfl
theorem Z6z (len d:Nat)(k:IntKind)(n:Int)(h:0<=n/\n<=len):EA len (some (.d (.v (.int k n)))) d=some n.toNat:=if_pos h
def Cv (len:Nat)(lo hi mx:Option AV):Option (Nat×Nat×Nat):=
 match EA len mx len,EA len hi len,EA len lo 0 with
 | some m,some h,some l=>if l<=h/\h<=m/\(mx.isSome->hi.isSome) then some (l,h,m) else none
 | _,_,_=>none
theorem Z6w (len:Nat)(tm:List AV)(lo hi mx:Option Opd):JX len tm lo hi mx=Cv len (QW tm lo) (QW tm hi) (QW tm mx):=by
 unfold JX Cv
 rw[X4,X4,X4]
 cases EA len (QW tm mx) len<;>cases EA len (QW tm hi) len<;>cases EA len (QW tm lo) 0<;>cases mx<;>cases hi<;>rfl
def UF {α:Type} [Cl α] (l:List α):Option (Nat×Nat×Nat)->Option AV
 | some (lo,hi,_)=>some (.d (rD ((l.drop lo).take (hi-lo))))
 | none=>none
@[go_sem] theorem Zjp {α:Type} [Cl α] (l:List α) (lo hi m:Nat):UF l (some (lo,hi,m))=some (.d (rD ((l.drop lo).take (hi-lo)))):=id rfl
theorem Z97 {α:Type} [Cl α] (tm:List AV)(l:List α)(lo hi:Option Opd)(s:Nat)(hs:s=Cl.n α):NG tm (.d (rD l)) lo hi none s=UF l (Cv l.length (QW tm lo) (QW tm hi) none):=by
 subst hs
 show(match JX l.length tm lo hi none with
  | some (a,b,m)=>if a=b then some (AV.d (.lst [] 0 (if(none:Option Opd).isSome=true/\m=a then some 0 else none))) else if b*Cl.n α<=(rC l).length then some (.d (.lst (((rC l).drop (a*Cl.n α)).take ((b-a)*Cl.n α)) (b-a) (Kz none m a none))) else none
  | none=>none)=_
 rw[Z6w]
 show _=UF l (Cv l.length (QW tm lo) (QW tm hi) none)
 have hbd:∀ {a b m},Cv l.length (QW tm lo) (QW tm hi) none=some (a,b,m)->a<=b/\b<=l.length:=by
  intro a b m h
  unfold Cv at h
  split at h
  ·rename_i m' h' l' e1 e2 e3
   split at h
   ·rename_i hc
    simp only[Option.some.injEq,Prod.mk.injEq] at h
    obtain⟨rfl,rfl,rfl⟩:=h
    simp only[EA,Option.some.injEq] at e1
    omega
   ·cases h
  ·cases h
 show(match Cv l.length (QW tm lo) (QW tm hi) none with | some (a,b,m)=>_ | none=>none)=_
 cases hb:Cv l.length (QW tm lo) (QW tm hi) none with
 | none=>rfl
 | some p=>
  obtain⟨a,b,m⟩:=p
  obtain⟨h1,h2⟩:=hbd hb
  show(if a=b then _ else _)=some (AV.d (rD ((l.drop a).take (b-a))))
  by_cases hab:a=b
  ·subst hab
   rw[if_pos rfl,Nat.sub_self];rfl
  ·rw [if_neg hab, if_pos (by rw [QH]; exact Nat.mul_le_mul_right _ h2)]
   rw[UN,Px]
   have:((l.drop a).take (b-a)).length=b-a:=by simp;omega
   unfold rD
   rw[this];rfl
theorem MG (len:Nat)(k:IntKind)(h:Int)(h0:0<=h)(h1:h<=len):Cv len none (some (.d (.v (.int k h)))) none=some (0,h.toNat,len):=by
 have e:EA len (some (.d (.v (.int k h)))) len=some h.toNat:=Z6z _ _ _ _ ⟨h0,h1⟩
 simp only[Cv,Z70,e,Nat.zero_le,true_and]
 rw[if_pos ⟨by omega,by simp⟩]
theorem Z6y (len:Nat)(k:IntKind)(l:Int)(h0:0<=l)(h1:l<=len):Cv len (some (.d (.v (.int k l)))) none none=some (l.toNat,len,len):=by
 have e:EA len (some (.d (.v (.int k l)))) 0=some l.toNat:=Z6z _ _ _ _ ⟨h0,h1⟩
 simp only[Cv,Z70,e,Nat.le_refl,true_and]
 rw[if_pos ⟨by omega,by simp⟩]
def Bw {α:Type} [Cl α] (i:Nat):List α->AV
 | []=>.d (.lst [] 0 (some 0))
 | l=>.sref i 0 0 l.length (Cl.n α) none
def Bz {α:Type} [Cl α]:List α->List Blk
 | []=>[]
 | l=>[.cells ((rC l).map .d) 0 false]
section
variable (E:Env) (call:cT) (tm:List AV) (A:List Blk) (nb:Nat)
@[go_sem] theorem Zkr (x:Opd) (lo hi mx:Option Opd) (s:Nat):GN x lo hi mx s E call tm A nb=one? (NG tm (look tm x) lo hi mx s):=id rfl
@[go_sem] theorem Zkz (x:Opd):Jq x E call tm A nb=one? (R6 (look tm x)):=id rfl
@[go_sem] theorem Zkx (i v o:Nat):R6 (.ref i v o)=some (.ref i v o):=id rfl
@[go_sem] theorem Zky (cs:List DV):R6 (.d (.vptr cs))=some (.d (.vptr cs)):=id rfl
end
@[go_sem] theorem Z98 {α:Type} [Cl α]:rD ([]:List α)=.lst [] 0 none:=id rfl
section
variable (E:Env) (call:cT) (tm:List AV) (A:List Blk)
@[go_sem] theorem Zpj (fg:Fl) (d:Option Nat) (t:Nat) (b:Bool) (op:Zw) (l:List (Fl×Stp)) (k:K):Gk E call ((fg,⟨d,some (t,b),op⟩)::l) k tm A=HK E call fg ⟨d,some (t,b),op⟩ (Gk E call l k) tm A (KR b (ZM tm t)):=id rfl
@[go_sem] theorem Zpa (fg:Fl) (s:Stp) (k:K):HK E call fg s k tm A (some true)=DN fg s.dst k tm A (s.op E call tm A A.length):=id rfl
@[go_sem] theorem Zpb (fg:Fl) (s:Stp) (k:K):HK E call fg s k tm A (some false)=k (YN tm s.dst AR) A:=id rfl
end
@[go_sem] theorem Zn3 (vs:List AV) (i:Nat):R8 (.tup vs) i=vs[i]? :=id rfl
@[go_sem] theorem Zn2 (vs:List DV) (i:Nat):R8 (.d (.tup vs)) i=(vs[i]?).map .d:=id rfl
@[go_sem] theorem Zmo (cs:List AV) (off:Nat) (ag:Bool) (n:Nat):G7 (.agg cs) off ag n=if off+n<=cs.length then AY ag n (cs.drop off) else none:=id rfl
@[go_sem] theorem Zmn (cs:List DV) (off:Nat) (ag:Bool) (n:Nat):G7 (.d (.agg cs)) off ag n=if off+n<=cs.length then(BQ ag n (cs.drop off)).map .d else none:=id rfl
@[go_sem] theorem Zn0 (x:AV) (k:IntKind) (i:Int) (len s:Nat):R7 x (.d (.v (.int k i))) len s=if 0<=i/\i<len then ET x (i.toNat*s) else none:=id rfl
@[go_sem] theorem Zmy (x:AV) (k:IntKind) (i:Int) (len s:Nat) (ag:Bool) (n:Nat):TF x (.d (.v (.int k i))) len s ag n=if 0<=i/\i<len then G7 x (i.toNat*s) ag n else none:=id rfl
section
variable (E:Env) (call:cT) (tm:List AV) (A:List Blk) (nb:Nat)
@[go_sem] theorem Zli (x ix:Opd) (len s:Nat):C5 x ix len s E call tm A nb=one? (R7 (look tm x) (look tm ix) len s):=id rfl
@[go_sem] theorem Zlg (x ix:Opd) (len s:Nat) (ag:Bool) (n:Nat):V8 x ix len s ag n E call tm A nb=one? (TF (look tm x) (look tm ix) len s ag n):=id rfl
@[go_sem] theorem Zle (n:Nat):V7 n E call tm A nb=some (.made (aI n) []):=id rfl
@[go_sem] theorem Zla (x:Opd):SU x E call tm A nb=T8 (look tm x):=id rfl
@[go_sem] theorem Zl9 (s:ByteArray):T8 (.d (.v (.string s)))=some (.made (aI s.size) []):=id rfl
@[go_sem] theorem Zlh (x ix:Opd):V9 x ix E call tm A nb=one? (W7 (look tm x) (look tm ix)):=id rfl
@[go_sem] theorem Zkq (x:Opd) (lo hi:Option Opd):V6 x lo hi E call tm A nb=one? (TD tm (look tm x) lo hi):=id rfl
@[go_sem] theorem Zlj (f:Fn) (cap:List Opd):PS f cap E call tm A nb=some (.made (.fn f (cap.map (look tm))) []):=id rfl
@[go_sem] theorem Zl2 (t:TypeId) (x:Opd):Nq t x E call tm A nb=some (.made (.ifc t (look tm x)) []):=id rfl
end
@[go_sem] theorem Zki (a b:Bool):F3 (.leaf .bool) (.d (.v (.bool a))) (.d (.v (.bool b)))=some (a==b):=id rfl
@[go_sem] theorem Zk7 (a b:ByteArray):F3 (.leaf .str) (.d (.v (.string a))) (.d (.v (.string b)))=some (a.toList==b.toList):=id rfl
@[go_sem] theorem Zke (n:Nat) (l:List (Nat×Lf)) (x y:AV):F3 (.flds n l) x y=TG n l (KG x) (KG y):=id rfl
@[go_sem] theorem Zkh (cs:List AV):KG (.agg cs)=some cs:=id rfl
@[go_sem] theorem Zkg (cs:List DV):KG (.d (.agg cs))=some (cs.map .d):=id rfl
@[go_sem] theorem Zkk (n:Nat) (l:List (Nat×Lf)) (xs ys:List AV):TG n l (some xs) (some ys)=if xs.length=n/\ys.length=n then BF xs ys l else none:=id rfl
def Z7i:Option Bool->Option Bool->Option Bool
 | some a,some b=>some (a&&b)
 | _,_=>none
@[go_sem] theorem Zkj (a b:Bool):Z7i (some a) (some b)=some (a&&b):=id rfl
@[go_sem] theorem Zka (xs ys:List AV):BF xs ys []=some true:=id rfl
@[go_sem] theorem Zkf (xs ys:List AV) (o:Nat) (f:Lf) (l:List (Nat×Lf)):BF xs ys ((o,f)::l)=Z7i (C9 f (ZM xs o) (ZM ys o)) (BF xs ys l):=by
 show(match C9 f (ZM xs o) (ZM ys o),BF xs ys l with | some a,some b=>some (a&&b) | _,_=>none)=_
 cases C9 f (ZM xs o) (ZM ys o)<;>cases BF xs ys l<;>rfl
@[go_sem] theorem Zkd (a b:Bool):C9 .bool (.d (.v (.bool a))) (.d (.v (.bool b)))=some (a==b):=id rfl
@[go_sem] theorem Zkc (k:IntKind) (a b:Int):C9 .int (.d (.v (.int k a))) (.d (.v (.int k b)))=some (a==b):=if_pos rfl
@[go_sem] theorem Zkb (a b:ByteArray):C9 .str (.d (.v (.string a))) (.d (.v (.string b)))=some (a.toList==b.toList):=id rfl
@[go_sem] theorem Zk9 (x:AV) (l:List AV):ZM (x::l) 0=x:=id rfl
@[go_sem] theorem Zk8 (x:AV) (l:List AV) (n:Nat):ZM (x::l) (n+1)=ZM l n:=id rfl
abbrev Zj (E:Env)(f:FuncId):Env:={ br:=E.br,th:=E.th,prim:=E.prim,back:=E.back,lives:=E.lives,live:=E.lives f,nb0:=0 }
def PV (k:K)(N:Nat)(l:List Nat)(d:AV)(S:List (Nat×AV))(A:List Blk)(ids:List Nat):DZ:=
 k (mk .bot N (l.map fun t=>(t,YA A 0 ids 8 (ZG d S t)))) (ZV A 0 ids)
@[go_sem] theorem Zm1 (k:K) (N:Nat) (l:List Nat) (d:AV) (S:List (Nat×AV)) (A:List Blk) (ids:List Nat):PV k N l d S A ids=k (mk .bot N (l.map fun t=>(t,YA A 0 ids 8 (ZG d S t)))) (ZV A 0 ids):=id rfl
theorem Z6 {E:Env}{f:FuncId}{key:Nat}{l:List Nat}(hl:E.lives f key=some l)(ha:GF 0 l=true)(c:CT)(call:cT)(kx:Nat->K)(kr:K)(n:Nat)(d:AV)(N:Nat)(S:List (Nat×AV))(A:List Blk)(hN:(l.all fun t=>Nat.blt t N)=true):
  Z9 key c (Zj E f) call kx kr (n+1) (mk d N S) A=
   PV (c (Zj E f) call (Z9 key c (Zj E f) call kx kr n) kx kr) N l d S A (Q1 A 0 100000 (l.flatMap fun t=>YT 8 (ZG d S t)) []):=by
 rw[Zgz]
 refine Zdy E f key l hl ha _ d N S A fun t ht=> ?_
 have:=List.all_eq_true.1 hN t ht
 exact Nat.le_of_ble_eq_true this
theorem ZU:(1000000000000000000000000000000:Nat)=999999999999999999999999999999+1:=rfl
attribute [go_sem] Zal
@[go_sem] theorem Ze3:Cl.n Int=1:=id rfl
@[go_sem] theorem Zma:Cl.n Ent=8:=id rfl
@[go_sem] theorem Zm9:Cl.n Ins=9:=id rfl
@[go_sem] theorem Zm7:Cl.n MemT=3:=id rfl
@[go_sem] theorem Zm8:Cl.n Label=2:=id rfl
@[go_sem] theorem Zm5:Cl.n Place=3:=id rfl
@[go_sem] theorem Zm6:Cl.n Obs=2:=id rfl
@[go_sem] theorem Zmb:Cl.n Dir=2:=id rfl
@[go_sem] theorem Zm4:Cl.n Val=2:=id rfl
attribute [go_sem] Z97 XF
attribute [go_sem] ZP YH JD P8 ZY QU KY Zhr Zhs Zhp Zhq Zhn Zho Z6k Zht
theorem Zhm (v:Val):Cl.cells v=[vb v.reg,vi v.n]:=id rfl
attribute [go_sem] Zhm
@[go_sem] theorem Zob (v:Val):Val.mk v.reg v.n=v:=rfl
@[go_sem] theorem Zoi (i:Ins):Ins.mk i.kind i.op i.d i.a i.b i.name i.target=i:=rfl
@[go_sem] theorem Zod (r:Regs):Regs.mk r.r0 r.r1 r.r2 r.r3=r:=rfl
@[go_sem] theorem Zoe (p:Prog):Prog.mk p.w p.window p.fuel p.regs p.mems p.labels p.ins=p:=rfl
@[go_sem] theorem Zoc (s:State):State.mk s.regs s.mem s.stack s.pc=s:=rfl
@[go_sem] theorem Zol (c:Conf):Conf.mk c.state c.buf c.rsb c.end_=c:=rfl
@[go_sem] theorem Zoj (e:Ent):Ent.mk e.pc e.val e.addr e.frm e.next e.done e.known e.fault=e:=rfl
@[go_sem] theorem Zok (d:Dir):Dir.mk d.kind d.n=d:=rfl
@[go_sem] theorem Zof (o:Obs):Obs.mk o.kind o.at_=o:=rfl
@[go_sem] theorem Zog (m:MemT):MemT.mk m.name m.secret m.n=m:=rfl
@[go_sem] theorem Zoh (l:Label):Label.mk l.name l.at_=l:=rfl
end Go.Aug
