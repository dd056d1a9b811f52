import Derived.Test.YtmfdoekbjkgckaaGreatEvTy
namespace Go.Aug
open Go
def Zj:Option (AV×List Blk)->Option DV
 | some (x,A)=>(deep A 8 x).map fun r=>fk 4 r.1
 | none=>none
@[go_sem] theorem Zs5 (x:AV) (A:List Blk):Zj (some (x,A))=(deep A 8 x).map fun r=>fk 4 r.1:=id rfl
@[go_sem] theorem Zyu (b:Bool) (x y:Option (AV×List Blk)):Zj (bif b then x else y)=bif b then Zj x else Zj y:=by cases b<;>rfl
@[go_sem] theorem Zyt (c:Prop) [Decidable c] (x y:Option (AV×List Blk)):Zj (if c then x else y)=if c then Zj x else Zj y:=by split<;>rfl
def Z3c:Option (List DV×List Nat)->Option (DV×List Nat)
 | some (l,u)=>some (.tup l,u)
 | none=>none
@[go_sem] theorem Zso (l:List DV) (u:List Nat):Z3c (some (l,u))=some (.tup l,u):=id rfl
@[go_sem] theorem Zy1 (A:List Blk) (n:Nat) (cs:List AV):deep A (n+1) (.tup cs)=Z3c (YM (deep A n) cs):=by
 show(YM (deep A n) cs).map (fun r=>(DV.tup r.1,r.2))=_
 cases YM (deep A n) cs<;>rfl
def Z6 (E:Env)(fn:FuncId->Option (Env->cT->cT))(n:Nat)(g:FuncId)(ds:List DV)(D:DV):Prop:=
 Zj (Z4 E fn n g (ds.map .d) [])=some D
theorem Z2p {α:Type}{p q:α->Bool}:∀ {l:List α},(∀ x ∈ l,p x=q x)->l.all p=l.all q
 | [],_=>rfl
 | x::l,h=>by rw[List.all_cons,List.all_cons,h x (by simp),Z2p (fun y hy=>h y (by simp[hy]))]
theorem VW:∀(n m:Nat) (x:DV),DV.flat n (fk m x)=DV.flat n x
 | 0,_,_=>rfl
 | n+1,0,_=>rfl
 | n+1,m+1,.agg cs=>by
  show(cs.map (fk m)).all (DV.flat n)=cs.all (DV.flat n)
  rw[List.all_map]
  exact Z2p fun x _=>VW n m x
 | n+1,m+1,.tup cs=>by
  show(cs.map (fk m)).all (DV.flat n)=cs.all (DV.flat n)
  rw[List.all_map]
  exact Z2p fun x _=>VW n m x
 | n+1,m+1,.lst cs len k=>by
  cases cs with
  | nil=>cases len<;>rfl
  | cons _ _=>rfl
 | n+1,m+1,.v _=>rfl
 | n+1,m+1,.vptr _=>rfl
 | n+1,m+1,.fn _ _=>rfl
 | n+1,m+1,.ifc _ _=>rfl
 | n+1,m+1,.nel=>rfl
section
variable {E:Env} {fn:FuncId->Option (Env->cT->cT)} {n:Nat} {g:FuncId} {ds:List DV} {D:DV}
theorem Z6.raw (h:Z6 E fn n g ds D)(hp:E.prim g=none):∃ x Ac u D0,JM E (Z4 E fn n) g ds=some (x,Ac)/\deep Ac 8 x=some (D0,u)/\fk 4 D0=D:=by
 unfold Z6 at h
 unfold JM
 rw[hp]
 show ∃ x Ac u D0,Z4 E fn n g (ds.map .d) []=some (x,Ac)/\_
 cases hc:Z4 E fn n g (ds.map .d) [] with
 | none=>rw[hc] at h;cases h
 | some p=>
  obtain⟨x,Ac⟩:=p
  rw[hc,Zs5] at h
  cases hd:deep Ac 8 x with
  | none=>rw[hd] at h;cases h
  | some q=>
   obtain⟨D0,u⟩:=q
   rw[hd] at h
   simp only[Option.map_some,Option.some.injEq] at h
   exact⟨x,Ac,u,D0,rfl,hd,h⟩
theorem Z6.flat (h:Z6 E fn n g ds D)(hp:E.prim g=none)(hf:D.flat 8=true)(A:List Blk)(nb:Nat)(us:List Nat):ZC false E (Z4 E fn n) g A nb (some (ds,us))=some (.made (.d D) []):=by
 obtain⟨x,Ac,u,D0,h1,h2,h3⟩:=h.raw hp
 simp only[ZC,h1,EU,cond_false,h2,HQ]
 rw[<-h3,VW] at hf
 rw[hf,Bool.or_true,cond_true,h3]
theorem Z6.deep (h:Z6 E fn n g ds D)(hp:E.prim g=none)(A:List Blk)(nb:Nat):ZC false E (Z4 E fn n) g A nb (some (ds,[]))=some (.made (.d D) []):=by
 obtain⟨x,Ac,u,D0,h1,h2,h3⟩:=h.raw hp
 simp only[ZC,h1,EU,cond_false,h2,HQ,B3,Bool.true_or,cond_true,h3]
theorem Z6.used (h:Z6 E fn n g ds D)(hp:E.prim g=none)(hf:D.flat 8=false)(A:List Blk)(nb i:Nat)(us:List Nat):ZC false E (Z4 E fn n) g A nb (some (ds,i::us))=some (.turned (.d D) (YT A (i::us))):=by
 obtain⟨x,Ac,u,D0,h1,h2,h3⟩:=h.raw hp
 simp only[ZC,h1,EU,cond_false,h2,HQ]
 rw[<-h3,VW] at hf
 rw[hf]
 show(bif B3 (i::us) || false then _ else _)=_
 simp only[B3,Bool.or_false,cond_false,h3]
end
section
variable {α:Type} [Cl α]
@[go_sem] theorem Zsl (l:List α):RJ (.d (rD l))=some (aI l.length):=id rfl
@[go_sem] theorem Zsm (n:Nat) (l:List α):fk (n+1) (rD l)=rD l:=id rfl
@[go_sem] theorem Zsk (l:List α):AV.one (.d (rD l))=true:=id rfl
@[go_sem] theorem Zsn (l:List α):AV.cells (.d (rD l))=[.d (rD l)]:=id rfl
theorem Zfs (A:List Blk)(s:Nat)(l:List α)(hs:s=Cl.n α):E4 A false s (.d (rD l))=some ((rC l).map .d,l.length):=by
 subst hs
 show(if(rC l).length=l.length*Cl.n α then some ((rC l).map AV.d,l.length) else none)=_
 rw[if_pos (QN l)]
theorem Zv {l:List α}{i:Nat}{e:α}(h:l[i]? =some e)(kk:IntKind)(s:Nat)(hs:s=Cl.n α):ES (.d (rD l)) (.d (.v (.int kk (i:Int)))) s=some (.d (.vptr (Cl.cells e++rC (l.drop (i+1))))):=by
 obtain⟨hi,rfl⟩:=List.getElem?_eq_some_iff.1 h
 exact Z6t hi hs none kk
theorem DX {l:List α}{i:Int}{e:α}(h0:0<=i)(h:l[i.toNat]? =some e)(kk:IntKind)(s:Nat)(hs:s=Cl.n α):ES (.d (rD l)) (.d (.v (.int kk i))) s=some (.d (.vptr (Cl.cells e++rC (l.drop (i.toNat+1))))):=by
 obtain⟨i,rfl⟩:=Int.eq_ofNat_of_zero_le h0
 exact Zv (by simpa using h) kk s hs
end
theorem eG (x:AV)(A:List Blk):Dv 0 (some (x,A))=some (Yz A 0 (Q8 A 0 100000 (YW 8 x) []) 8 x,Yq A 0 (Q8 A 0 100000 (YW 8 x) [])):=by
 show some (Yz A 0 (Q8 A 0 100000 (YW 8 x++[]) []) 8 x,Yq A 0 (Q8 A 0 100000 (YW 8 x++[]) []))=_
 rw[List.append_nil]
def JY (tm:List AV):Option Opd->Option AV
 | some o=>some (look tm o)
 | none=>none
@[go_sem] theorem Zwj (tm:List AV):JY tm none=none:=id rfl
@[go_sem] theorem Zwi (tm:List AV) (o:Opd):JY tm (some o)=some (look tm o):=id rfl
def EX (len:Nat)(x:Option AV)(dflt:Nat):Option Nat:=
 match x with
 | none=>some dflt
 | some x=>match x with
  | .d (.v (.int _ n))=>if 0<=n/\n<=len then some n.toNat else none
  | _=>none
theorem Z2e (len:Nat)(tm:List AV)(x:Option Opd)(d:Nat):Ez len tm x d=EX len (JY tm x) d:=by cases x<;>rfl
@[go_sem] theorem Zc5 (len d:Nat):EX len none d=some d:=id rfl
theorem Zc4 (len d:Nat)(k:IntKind)(n:Int)(h:0<=n/\n<=len):EX len (some (.d (.v (.int k n)))) d=some n.toNat:=if_pos h
def BT (len:Nat)(lo hi mx:Option AV):Option (Nat×Nat×Nat):=
 match EX len mx len,EX len hi len,EX len lo 0 with
 | some m,some h,some l=>if l<=h/\h<=m/\(mx.isSome->hi.isSome) then some (l,h,m) else none
 | _,_,_=>none
theorem WE (len:Nat)(tm:List AV)(lo hi mx:Option Opd):B7 len tm lo hi mx=BT len (JY tm lo) (JY tm hi) (JY tm mx):=by
 unfold B7 BT
 rw[Z2e,Z2e,Z2e]
 cases EX len (JY tm mx) len<;>cases EX len (JY tm hi) len<;>cases EX len (JY tm lo) 0<;>cases mx<;>cases hi<;>rfl
def Xw {α:Type} [Cl α] (l:List α):Option (Nat×Nat×Nat)->Option AV
 | some (lo,hi,_)=>some (.d (rD ((l.drop lo).take (hi-lo))))
 | none=>none
@[go_sem] theorem Zsp {α:Type} [Cl α] (l:List α) (lo hi m:Nat):Xw l (some (lo,hi,m))=some (.d (rD ((l.drop lo).take (hi-lo)))):=id rfl
theorem Zfq {α:Type} [Cl α] (tm:List AV)(l:List α)(lo hi:Option Opd)(s:Nat)(hs:s=Cl.n α):HG tm (.d (rD l)) lo hi none s=Xw l (BT l.length (JY tm lo) (JY tm hi) none):=by
 subst hs
 show(match B7 l.length tm lo hi none with
  | some (a,b,m)=>if a=b then some (AV.d (.lst [] 0 (if(none:Option Opd).isSome=true/\m=a then some 0 else none))) else if b*Cl.n α<=(rC l).length then some (.d (.lst (((rC l).drop (a*Cl.n α)).take ((b-a)*Cl.n α)) (b-a) (KB none m a none))) else none
  | none=>none)=_
 rw[WE]
 show _=Xw l (BT l.length (JY tm lo) (JY tm hi) none)
 have hbd:∀ {a b m},BT l.length (JY tm lo) (JY tm hi) none=some (a,b,m)->a<=b/\b<=l.length:=by
  intro a b m h
  unfold BT at h
  split at h
  ·rename_i m' h' l' e1 e2 e3
   split at h
   ·rename_i hc
    simp only[Option.some.injEq,Prod.mk.injEq] at h
    obtain⟨rfl,rfl,rfl⟩:=h
    simp only[EX,Option.some.injEq] at e1
    omega
   ·cases h
  ·cases h
 show(match BT l.length (JY tm lo) (JY tm hi) none with | some (a,b,m)=>_ | none=>none)=_
 cases hb:BT l.length (JY tm lo) (JY tm hi) none with
 | none=>rfl
 | some p=>
  obtain⟨a,b,m⟩:=p
  obtain⟨h1,h2⟩:=hbd hb
  show(if a=b then _ else _)=some (AV.d (rD ((l.drop a).take (b-a))))
  by_cases hab:a=b
  ·subst hab
   rw[if_pos rfl,Nat.sub_self];rfl
  ·rw [if_neg hab, if_pos (by rw [QN]; exact Nat.mul_le_mul_right _ h2)]
   rw[XF,Sw]
   have:((l.drop a).take (b-a)).length=b-a:=by simp;omega
   unfold rD
   rw[this];rfl
theorem GX (len:Nat)(k:IntKind)(h:Int)(h0:0<=h)(h1:h<=len):BT len none (some (.d (.v (.int k h)))) none=some (0,h.toNat,len):=by
 have e:EX len (some (.d (.v (.int k h)))) len=some h.toNat:=Zc4 _ _ _ _ ⟨h0,h1⟩
 simp only[BT,Zc5,e,Nat.zero_le,true_and]
 rw[if_pos ⟨by omega,by simp⟩]
theorem Pz (len:Nat)(k:IntKind)(l:Int)(h0:0<=l)(h1:l<=len):BT len (some (.d (.v (.int k l)))) none none=some (l.toNat,len,len):=by
 have e:EX len (some (.d (.v (.int k l)))) 0=some l.toNat:=Zc4 _ _ _ _ ⟨h0,h1⟩
 simp only[BT,Zc5,e,Nat.le_refl,true_and]
 rw[if_pos ⟨by omega,by simp⟩]
def YG {α:Type} [Cl α] (i:Nat):List α->AV
 | []=>.d (.lst [] 0 (some 0))
 | l=>.sref i 0 0 l.length (Cl.n α) none
def Yw {α:Type} [Cl α]:List α->List Blk
 | []=>[]
 | l=>[.cells ((rC l).map .d) 0 false]
section
variable (E:Env) (call:cT) (tm:List AV) (A:List Blk) (nb:Nat)
@[go_sem] theorem Ztq (x:Opd) (lo hi mx:Option Opd) (s:Nat):CX x lo hi mx s E call tm A nb=one? (HG tm (look tm x) lo hi mx s):=id rfl
@[go_sem] theorem Zty (x:Opd):QJ x E call tm A nb=one? (Tj (look tm x)):=id rfl
@[go_sem] theorem Ztw (i v o:Nat):Tj (.ref i v o)=some (.ref i v o):=id rfl
@[go_sem] theorem Ztx (cs:List DV):Tj (.d (.vptr cs))=some (.d (.vptr cs)):=id rfl
end
@[go_sem] theorem Zfr {α:Type} [Cl α]:rD ([]:List α)=.lst [] 0 none:=id rfl
section
variable (E:Env) (call:cT) (tm:List AV) (A:List Blk)
@[go_sem] theorem Zyg (fg:Fl) (d:Option Nat) (t:Nat) (b:Bool) (op:ZV) (l:List (Fl×Stp)) (k:K):HP E call ((fg,⟨d,some (t,b),op⟩)::l) k tm A=M5 E call fg ⟨d,some (t,b),op⟩ (HP E call l k) tm A (NB b (Y6 tm t)):=id rfl
@[go_sem] theorem Zy7 (fg:Fl) (s:Stp) (k:K):M5 E call fg s k tm A (some true)=FG fg s.dst k tm A (s.op E call tm A A.length):=id rfl
@[go_sem] theorem Zy8 (fg:Fl) (s:Stp) (k:K):M5 E call fg s k tm A (some false)=k (Qk tm s.dst JV) A:=id rfl
end
@[go_sem] theorem Zw1 (vs:List AV) (i:Nat):Tq (.tup vs) i=vs[i]? :=id rfl
@[go_sem] theorem Zw0 (vs:List DV) (i:Nat):Tq (.d (.tup vs)) i=(vs[i]?).map .d:=id rfl
@[go_sem] theorem Zvm (cs:List AV) (off:Nat) (ag:Bool) (n:Nat):HJ (.agg cs) off ag n=if off+n<=cs.length then BF ag n (cs.drop off) else none:=id rfl
@[go_sem] theorem Zvl (cs:List DV) (off:Nat) (ag:Bool) (n:Nat):HJ (.d (.agg cs)) off ag n=if off+n<=cs.length then(C0 ag n (cs.drop off)).map .d else none:=id rfl
@[go_sem] theorem Zvy (x:AV) (k:IntKind) (i:Int) (len s:Nat):Tk x (.d (.v (.int k i))) len s=if 0<=i/\i<len then GA x (i.toNat*s) else none:=id rfl
@[go_sem] theorem Zvw (x:AV) (k:IntKind) (i:Int) (len s:Nat) (ag:Bool) (n:Nat):W2 x (.d (.v (.int k i))) len s ag n=if 0<=i/\i<len then HJ x (i.toNat*s) ag n else none:=id rfl
section
variable (E:Env) (call:cT) (tm:List AV) (A:List Blk) (nb:Nat)
@[go_sem] theorem Zuh (x ix:Opd) (len s:Nat):CY x ix len s E call tm A nb=one? (Tk (look tm x) (look tm ix) len s):=id rfl
@[go_sem] theorem Zuf (x ix:Opd) (len s:Nat) (ag:Bool) (n:Nat):XZ x ix len s ag n E call tm A nb=one? (W2 (look tm x) (look tm ix) len s ag n):=id rfl
@[go_sem] theorem Zud (n:Nat):XY n E call tm A nb=some (.made (aI n) []):=id rfl
@[go_sem] theorem Zu9 (x:Opd):V8 x E call tm A nb=VM (look tm x):=id rfl
@[go_sem] theorem Zu8 (s:ByteArray):VM (.d (.v (.string s)))=some (.made (aI s.size) []):=id rfl
@[go_sem] theorem Zug (x ix:Opd):Z00 x ix E call tm A nb=one? (Z1d (look tm x) (look tm ix)):=id rfl
@[go_sem] theorem Ztp (x:Opd) (lo hi:Option Opd):XW x lo hi E call tm A nb=one? (VZ tm (look tm x) lo hi):=id rfl
@[go_sem] theorem Zui (f:Fn) (cap:List Opd):NP f cap E call tm A nb=some (.made (.fn f (cap.map (look tm))) []):=id rfl
@[go_sem] theorem Zu1 (t:TypeId) (x:Opd):V7 t x E call tm A nb=some (.made (.ifc t (look tm x)) []):=id rfl
end
@[go_sem] theorem Zth (a b:Bool):GP (.leaf .bool) (.d (.v (.bool a))) (.d (.v (.bool b)))=some (a==b):=id rfl
@[go_sem] theorem Zt6 (a b:ByteArray):GP (.leaf .str) (.d (.v (.string a))) (.d (.v (.string b)))=some (a.toList==b.toList):=id rfl
@[go_sem] theorem Ztd (n:Nat) (l:List (Nat×Lf)) (x y:AV):GP (.flds n l) x y=W3 n l (Nq x) (Nq y):=id rfl
@[go_sem] theorem Ztg (cs:List AV):Nq (.agg cs)=some cs:=id rfl
@[go_sem] theorem Ztf (cs:List DV):Nq (.d (.agg cs))=some (cs.map .d):=id rfl
@[go_sem] theorem Ztj (n:Nat) (l:List (Nat×Lf)) (xs ys:List AV):W3 n l (some xs) (some ys)=if xs.length=n/\ys.length=n then D2 xs ys l else none:=id rfl
def Zcl:Option Bool->Option Bool->Option Bool
 | some a,some b=>some (a&&b)
 | _,_=>none
@[go_sem] theorem Zti (a b:Bool):Zcl (some a) (some b)=some (a&&b):=id rfl
@[go_sem] theorem Zt9 (xs ys:List AV):D2 xs ys []=some true:=id rfl
@[go_sem] theorem Zte (xs ys:List AV) (o:Nat) (f:Lf) (l:List (Nat×Lf)):D2 xs ys ((o,f)::l)=Zcl (DT f (Y6 xs o) (Y6 ys o)) (D2 xs ys l):=by
 show(match DT f (Y6 xs o) (Y6 ys o),D2 xs ys l with | some a,some b=>some (a&&b) | _,_=>none)=_
 cases DT f (Y6 xs o) (Y6 ys o)<;>cases D2 xs ys l<;>rfl
@[go_sem] theorem Ztc (a b:Bool):DT .bool (.d (.v (.bool a))) (.d (.v (.bool b)))=some (a==b):=id rfl
@[go_sem] theorem Ztb (k:IntKind) (a b:Int):DT .int (.d (.v (.int k a))) (.d (.v (.int k b)))=some (a==b):=if_pos rfl
@[go_sem] theorem Zta (a b:ByteArray):DT .str (.d (.v (.string a))) (.d (.v (.string b)))=some (a.toList==b.toList):=id rfl
@[go_sem] theorem Zt8 (x:AV) (l:List AV):Y6 (x::l) 0=x:=id rfl
@[go_sem] theorem Zt7 (x:AV) (l:List AV) (n:Nat):Y6 (x::l) (n+1)=Y6 l n:=id rfl
abbrev Zx (E:Env)(f:FuncId):Env:={ br:=E.br,th:=E.th,prim:=E.prim,back:=E.back,lives:=E.lives,live:=E.lives f,nb0:=0 }
def Z0f (k:K)(N:Nat)(l:List Nat)(d:AV)(S:List (Nat×AV))(A:List Blk)(ids:List Nat):F1:=
 k (mk .bot N (l.map fun t=>(t,Yz A 0 ids 8 (ZS d S t)))) (Yq A 0 ids)
@[go_sem] theorem Zv0 (k:K) (N:Nat) (l:List Nat) (d:AV) (S:List (Nat×AV)) (A:List Blk) (ids:List Nat):Z0f k N l d S A ids=k (mk .bot N (l.map fun t=>(t,Yz A 0 ids 8 (ZS d S t)))) (Yq A 0 ids):=id rfl
theorem Z8 {E:Env}{f:FuncId}{key:Nat}{l:List Nat}(hl:E.lives f key=some l)(ha:G5 0 l=true)(c:CT)(call:cT)(kx:Nat->K)(kr:K)(n:Nat)(d:AV)(N:Nat)(S:List (Nat×AV))(A:List Blk)(hN:(l.all fun t=>Nat.blt t N)=true):
  Z9 key c (Zx E f) call kx kr (n+1) (mk d N S) A=
   Z0f (c (Zx E f) call (Z9 key c (Zx E f) call kx kr n) kx kr) N l d S A (Q8 A 0 100000 (l.flatMap fun t=>YW 8 (ZS d S t)) []):=by
 rw[Zaw]
 refine Zmd E f key l hl ha _ d N S A fun t ht=> ?_
 have:=List.all_eq_true.1 hN t ht
 exact Nat.le_of_ble_eq_true this
theorem Y9:(1000000000000000000000000000000:Nat)=999999999999999999999999999999+1:=rfl
attribute [go_sem] Zhg
@[go_sem] theorem Z5t:Cl.n Int=1:=id rfl
@[go_sem] theorem Zv9:Cl.n Ent=8:=id rfl
@[go_sem] theorem Zv8:Cl.n Ins=9:=id rfl
@[go_sem] theorem Zv6:Cl.n MemT=3:=id rfl
@[go_sem] theorem Zv7:Cl.n Label=2:=id rfl
@[go_sem] theorem Zv4:Cl.n Place=3:=id rfl
@[go_sem] theorem Zv5:Cl.n Obs=2:=id rfl
@[go_sem] theorem Zva:Cl.n Dir=2:=id rfl
@[go_sem] theorem Zv3:Cl.n Val=2:=id rfl
attribute [go_sem] Zfq Zfs
attribute [go_sem] Zz Y1 AS H2 ZP J4 CV Zqd Zqe Zqb Zqc Zq9 Zqa Z1s Zbj
theorem Zq8 (v:Val):Cl.cells v=[vb v.reg,vi v.n]:=id rfl
attribute [go_sem] Zq8
@[go_sem] theorem Zx8 (v:Val):Val.mk v.reg v.n=v:=rfl
@[go_sem] theorem Zxf (i:Ins):Ins.mk i.kind i.op i.d i.a i.b i.name i.target=i:=rfl
@[go_sem] theorem Zxa (r:Regs):Regs.mk r.r0 r.r1 r.r2 r.r3=r:=rfl
@[go_sem] theorem Zxb (p:Prog):Prog.mk p.w p.window p.fuel p.regs p.mems p.labels p.ins=p:=rfl
@[go_sem] theorem Zx9 (s:State):State.mk s.regs s.mem s.stack s.pc=s:=rfl
@[go_sem] theorem Zxi (c:Conf):Conf.mk c.state c.buf c.rsb c.end_=c:=rfl
@[go_sem] theorem Zxg (e:Ent):Ent.mk e.pc e.val e.addr e.frm e.next e.done e.known e.fault=e:=rfl
@[go_sem] theorem Zxh (d:Dir):Dir.mk d.kind d.n=d:=rfl
@[go_sem] theorem Zxc (o:Obs):Obs.mk o.kind o.at_=o:=rfl
@[go_sem] theorem Zxd (m:MemT):MemT.mk m.name m.secret m.n=m:=rfl
@[go_sem] theorem Zxe (l:Label):Label.mk l.name l.at_=l:=rfl
end Go.Aug
