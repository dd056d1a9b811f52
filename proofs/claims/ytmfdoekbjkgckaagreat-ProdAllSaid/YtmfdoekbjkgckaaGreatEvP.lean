import Derived.Test.YtmfdoekbjkgckaaGreatEvTy
namespace Go.Aug
open Go
def Zw:Option (AV×List Blk)->Option DV
 | some (x,A)=>(deep A 8 x).map fun r=>fk 4 r.1
 | none=>none
@[go_sem] theorem Znh (x:AV) (A:List Blk):Zw (some (x,A))=(deep A 8 x).map fun r=>fk 4 r.1:=id rfl
@[go_sem] theorem Zu8 (b:Bool) (x y:Option (AV×List Blk)):Zw (bif b then x else y)=bif b then Zw x else Zw y:=by cases b<;>rfl
@[go_sem] theorem Zu7 (c:Prop) [Decidable c] (x y:Option (AV×List Blk)):Zw (if c then x else y)=if c then Zw x else Zw y:=by split<;>rfl
def Z1v:Option (List DV×List Nat)->Option (DV×List Nat)
 | some (l,u)=>some (.tup l,u)
 | none=>none
@[go_sem] theorem Zo0 (l:List DV) (u:List Nat):Z1v (some (l,u))=some (.tup l,u):=id rfl
@[go_sem] theorem Ztd (A:List Blk) (n:Nat) (cs:List AV):deep A (n+1) (.tup cs)=Z1v (YJ (deep A n) cs):=by
 show(YJ (deep A n) cs).map (fun r=>(DV.tup r.1,r.2))=_
 cases YJ (deep A n) cs<;>rfl
def Z6 (E:Env)(fn:FuncId->Option (Env->cT->cT))(n:Nat)(g:FuncId)(ds:List DV)(D:DV):Prop:=
 Zw (Z5 E fn n g (ds.map .d) [])=some D
theorem Z18 {α:Type}{p q:α->Bool}:∀ {l:List α},(∀ x ∈ l,p x=q x)->l.all p=l.all q
 | [],_=>rfl
 | x::l,h=>by rw[List.all_cons,List.all_cons,h x (by simp),Z18 (fun y hy=>h y (by simp[hy]))]
theorem UN:∀(n m:Nat) (x:DV),DV.flat n (fk m x)=DV.flat n x
 | 0,_,_=>rfl
 | n+1,0,_=>rfl
 | n+1,m+1,.agg cs=>by
  show(cs.map (fk m)).all (DV.flat n)=cs.all (DV.flat n)
  rw[List.all_map]
  exact Z18 fun x _=>UN n m x
 | n+1,m+1,.tup cs=>by
  show(cs.map (fk m)).all (DV.flat n)=cs.all (DV.flat n)
  rw[List.all_map]
  exact Z18 fun x _=>UN n m x
 | n+1,m+1,.lst cs len k=>by
  cases cs with
  | nil=>cases len<;>rfl
  | cons _ _=>rfl
 | n+1,m+1,.v _=>rfl
 | n+1,m+1,.vptr _=>rfl
 | n+1,m+1,.fn _ _=>rfl
 | n+1,m+1,.ifc _ _=>rfl
 | n+1,m+1,.nel=>rfl
section
variable {E:Env} {fn:FuncId->Option (Env->cT->cT)} {n:Nat} {g:FuncId} {ds:List DV} {D:DV}
theorem Z6.raw (h:Z6 E fn n g ds D)(hp:E.prim g=none):∃ x Ac u D0,JZ E (Z5 E fn n) g ds=some (x,Ac)/\deep Ac 8 x=some (D0,u)/\fk 4 D0=D:=by
 unfold Z6 at h
 unfold JZ
 rw[hp]
 show ∃ x Ac u D0,Z5 E fn n g (ds.map .d) []=some (x,Ac)/\_
 cases hc:Z5 E fn n g (ds.map .d) [] with
 | none=>rw[hc] at h;cases h
 | some p=>
  obtain⟨x,Ac⟩:=p
  rw[hc,Znh] at h
  cases hd:deep Ac 8 x with
  | none=>rw[hd] at h;cases h
  | some q=>
   obtain⟨D0,u⟩:=q
   rw[hd] at h
   simp only[Option.map_some,Option.some.injEq] at h
   exact⟨x,Ac,u,D0,rfl,hd,h⟩
theorem Z6.flat (h:Z6 E fn n g ds D)(hp:E.prim g=none)(hf:D.flat 8=true)(A:List Blk)(nb:Nat)(us:List Nat):Y1 false E (Z5 E fn n) g A nb (some (ds,us))=some (.made (.d D) []):=by
 obtain⟨x,Ac,u,D0,h1,h2,h3⟩:=h.raw hp
 simp only[Y1,h1,GY,cond_false,h2,H1]
 rw[<-h3,UN] at hf
 rw[hf,Bool.or_true,cond_true,h3]
theorem Z6.deep (h:Z6 E fn n g ds D)(hp:E.prim g=none)(A:List Blk)(nb:Nat):Y1 false E (Z5 E fn n) g A nb (some (ds,[]))=some (.made (.d D) []):=by
 obtain⟨x,Ac,u,D0,h1,h2,h3⟩:=h.raw hp
 simp only[Y1,h1,GY,cond_false,h2,H1,D3,Bool.true_or,cond_true,h3]
theorem Z6.used (h:Z6 E fn n g ds D)(hp:E.prim g=none)(hf:D.flat 8=false)(A:List Blk)(nb i:Nat)(us:List Nat):Y1 false E (Z5 E fn n) g A nb (some (ds,i::us))=some (.turned (.d D) (YQ A (i::us))):=by
 obtain⟨x,Ac,u,D0,h1,h2,h3⟩:=h.raw hp
 simp only[Y1,h1,GY,cond_false,h2,H1]
 rw[<-h3,UN] at hf
 rw[hf]
 show(bif D3 (i::us) || false then _ else _)=_
 simp only[D3,Bool.or_false,cond_false,h3]
end
section
variable {α:Type} [Cl α]
@[go_sem] theorem Znx (l:List α):PE (.d (rD l))=some (aI l.length):=id rfl
@[go_sem] theorem Zny (n:Nat) (l:List α):fk (n+1) (rD l)=rD l:=id rfl
@[go_sem] theorem Znw (l:List α):AV.one (.d (rD l))=true:=id rfl
@[go_sem] theorem Znz (l:List α):AV.cells (.d (rD l))=[.d (rD l)]:=id rfl
theorem Zcc (A:List Blk)(s:Nat)(l:List α)(hs:s=Cl.n α):Eq A false s (.d (rD l))=some ((rC l).map .d,l.length):=by
 subst hs
 show(if(rC l).length=l.length*Cl.n α then some ((rC l).map AV.d,l.length) else none)=_
 rw[if_pos (QS l)]
theorem Zv {l:List α}{i:Nat}{e:α}(h:l[i]? =some e)(kk:IntKind)(s:Nat)(hs:s=Cl.n α):DH (.d (rD l)) (.d (.v (.int kk (i:Int)))) s=some (.d (.vptr (Cl.cells e++rC (l.drop (i+1))))):=by
 obtain⟨hi,rfl⟩:=List.getElem?_eq_some_iff.1 h
 exact Z59 hi hs none kk
theorem DW {l:List α}{i:Int}{e:α}(h0:0<=i)(h:l[i.toNat]? =some e)(kk:IntKind)(s:Nat)(hs:s=Cl.n α):DH (.d (rD l)) (.d (.v (.int kk i))) s=some (.d (.vptr (Cl.cells e++rC (l.drop (i.toNat+1))))):=by
 obtain⟨i,rfl⟩:=Int.eq_ofNat_of_zero_le h0
 exact Zv (by simpa using h) kk s hs
end
theorem eG (x:AV)(A:List Blk):CN 0 (some (x,A))=some (Yw A 0 (Q8 A 0 100000 (YV 8 x) []) 8 x,Y9 A 0 (Q8 A 0 100000 (YV 8 x) [])):=by
 show some (Yw A 0 (Q8 A 0 100000 (YV 8 x++[]) []) 8 x,Y9 A 0 (Q8 A 0 100000 (YV 8 x++[]) []))=_
 rw[List.append_nil]
def JD (tm:List AV):Option Opd->Option AV
 | some o=>some (look tm o)
 | none=>none
@[go_sem] theorem Zrv (tm:List AV):JD tm none=none:=id rfl
@[go_sem] theorem Zru (tm:List AV) (o:Opd):JD tm (some o)=some (look tm o):=id rfl
def DP (len:Nat)(x:Option AV)(dflt:Nat):Option Nat:=
 match x with
 | none=>some dflt
 | some x=>match x with
  | .d (.v (.int _ n))=>if 0<=n/\n<=len then some n.toNat else none
  | _=>none
theorem Z11 (len:Nat)(tm:List AV)(x:Option Opd)(d:Nat):Dj len tm x d=DP len (JD tm x) d:=by cases x<;>rfl
@[go_sem] theorem Z9h (len d:Nat):DP len none d=some d:=id rfl
theorem Z9g (len d:Nat)(k:IntKind)(n:Int)(h:0<=n/\n<=len):DP len (some (.d (.v (.int k n)))) d=some n.toNat:=if_pos h
def AX (len:Nat)(lo hi mx:Option AV):Option (Nat×Nat×Nat):=
 match DP len mx len,DP len hi len,DP len lo 0 with
 | some m,some h,some l=>if l<=h/\h<=m/\(mx.isSome->hi.isSome) then some (l,h,m) else none
 | _,_,_=>none
theorem Vq (len:Nat)(tm:List AV)(lo hi mx:Option Opd):A7 len tm lo hi mx=AX len (JD tm lo) (JD tm hi) (JD tm mx):=by
 unfold A7 AX
 rw[Z11,Z11,Z11]
 cases DP len (JD tm mx) len<;>cases DP len (JD tm hi) len<;>cases DP len (JD tm lo) 0<;>cases mx<;>cases hi<;>rfl
def W6 {α:Type} [Cl α] (l:List α):Option (Nat×Nat×Nat)->Option AV
 | some (lo,hi,_)=>some (.d (rD ((l.drop lo).take (hi-lo))))
 | none=>none
@[go_sem] theorem Zo1 {α:Type} [Cl α] (l:List α) (lo hi m:Nat):W6 l (some (lo,hi,m))=some (.d (rD ((l.drop lo).take (hi-lo)))):=id rfl
theorem Zcb {α:Type} [Cl α] (tm:List AV)(l:List α)(lo hi:Option Opd)(s:Nat)(hs:s=Cl.n α):GU tm (.d (rD l)) lo hi none s=W6 l (AX l.length (JD tm lo) (JD tm hi) none):=by
 subst hs
 show(match A7 l.length tm lo hi none with
  | some (a,b,m)=>if a=b then some (AV.d (.lst [] 0 (if(none:Option Opd).isSome=true/\m=a then some 0 else none))) else if b*Cl.n α<=(rC l).length then some (.d (.lst (((rC l).drop (a*Cl.n α)).take ((b-a)*Cl.n α)) (b-a) (HV none m a none))) else none
  | none=>none)=_
 rw[Vq]
 show _=W6 l (AX l.length (JD tm lo) (JD tm hi) none)
 have hbd:∀ {a b m},AX l.length (JD tm lo) (JD tm hi) none=some (a,b,m)->a<=b/\b<=l.length:=by
  intro a b m h
  unfold AX at h
  split at h
  ·rename_i m' h' l' e1 e2 e3
   split at h
   ·rename_i hc
    simp only[Option.some.injEq,Prod.mk.injEq] at h
    obtain⟨rfl,rfl,rfl⟩:=h
    simp only[DP,Option.some.injEq] at e1
    omega
   ·cases h
  ·cases h
 show(match AX l.length (JD tm lo) (JD tm hi) none with | some (a,b,m)=>_ | none=>none)=_
 cases hb:AX l.length (JD tm lo) (JD tm hi) none with
 | none=>rfl
 | some p=>
  obtain⟨a,b,m⟩:=p
  obtain⟨h1,h2⟩:=hbd hb
  show(if a=b then _ else _)=some (AV.d (rD ((l.drop a).take (b-a))))
  by_cases hab:a=b
  ·subst hab
   rw[if_pos rfl,Nat.sub_self];rfl
  ·rw [if_neg hab, if_pos (by rw [QS]; exact Nat.mul_le_mul_right _ h2)]
   rw[Wx,Rv]
   have:((l.drop a).take (b-a)).length=b-a:=by simp;omega
   unfold rD
   rw[this];rfl
theorem HZ (len:Nat)(k:IntKind)(h:Int)(h0:0<=h)(h1:h<=len):AX len none (some (.d (.v (.int k h)))) none=some (0,h.toNat,len):=by
 have e:DP len (some (.d (.v (.int k h)))) len=some h.toNat:=Z9g _ _ _ _ ⟨h0,h1⟩
 simp only[AX,Z9h,e,Nat.zero_le,true_and]
 rw[if_pos ⟨by omega,by simp⟩]
theorem Vx (len:Nat)(k:IntKind)(l:Int)(h0:0<=l)(h1:l<=len):AX len (some (.d (.v (.int k l)))) none none=some (l.toNat,len,len):=by
 have e:DP len (some (.d (.v (.int k l)))) 0=some l.toNat:=Z9g _ _ _ _ ⟨h0,h1⟩
 simp only[AX,Z9h,e,Nat.le_refl,true_and]
 rw[if_pos ⟨by omega,by simp⟩]
def QJ {α:Type} [Cl α] (i:Nat):List α->AV
 | []=>.d (.lst [] 0 (some 0))
 | l=>.sref i 0 0 l.length (Cl.n α) none
def QH {α:Type} [Cl α]:List α->List Blk
 | []=>[]
 | l=>[.cells ((rC l).map .d) 0 false]
section
variable (E:Env) (call:cT) (tm:List AV) (A:List Blk) (nb:Nat)
@[go_sem] theorem Zp2 (x:Opd) (lo hi mx:Option Opd) (s:Nat):DB x lo hi mx s E call tm A nb=one? (GU tm (look tm x) lo hi mx s):=id rfl
@[go_sem] theorem Zpa (x:Opd):JX x E call tm A nb=one? (Sk (look tm x)):=id rfl
@[go_sem] theorem Zp8 (i v o:Nat):Sk (.ref i v o)=some (.ref i v o):=id rfl
@[go_sem] theorem Zp9 (cs:List DV):Sk (.d (.vptr cs))=some (.d (.vptr cs)):=id rfl
end
@[go_sem] theorem VP {α:Type} [Cl α]:rD ([]:List α)=.lst [] 0 none:=id rfl
section
variable (E:Env) (call:cT) (tm:List AV) (A:List Blk)
@[go_sem] theorem Zts (fg:Fl) (d:Option Nat) (t:Nat) (b:Bool) (op:ZM) (l:List (Fl×Stp)) (k:K):H0 E call ((fg,⟨d,some (t,b),op⟩)::l) k tm A=KD E call fg ⟨d,some (t,b),op⟩ (H0 E call l k) tm A (MJ b (Y3 tm t)):=id rfl
@[go_sem] theorem Ztj (fg:Fl) (s:Stp) (k:K):KD E call fg s k tm A (some true)=EA fg s.dst k tm A (s.op E call tm A A.length):=id rfl
@[go_sem] theorem Ztk (fg:Fl) (s:Stp) (k:K):KD E call fg s k tm A (some false)=k (Qx tm s.dst JH) A:=id rfl
end
@[go_sem] theorem Zrd (vs:List AV) (i:Nat):Sx (.tup vs) i=vs[i]? :=id rfl
@[go_sem] theorem Zrc (vs:List DV) (i:Nat):Sx (.d (.tup vs)) i=(vs[i]?).map .d:=id rfl
@[go_sem] theorem Zqy (cs:List AV) (off:Nat) (ag:Bool) (n:Nat):GW (.agg cs) off ag n=if off+n<=cs.length then BD ag n (cs.drop off) else none:=id rfl
@[go_sem] theorem Zqx (cs:List DV) (off:Nat) (ag:Bool) (n:Nat):GW (.d (.agg cs)) off ag n=if off+n<=cs.length then(B2 ag n (cs.drop off)).map .d else none:=id rfl
@[go_sem] theorem Zra (x:AV) (k:IntKind) (i:Int) (len s:Nat):Sq x (.d (.v (.int k i))) len s=if 0<=i/\i<len then FD x (i.toNat*s) else none:=id rfl
@[go_sem] theorem Zr8 (x:AV) (k:IntKind) (i:Int) (len s:Nat) (ag:Bool) (n:Nat):UT x (.d (.v (.int k i))) len s ag n=if 0<=i/\i<len then GW x (i.toNat*s) ag n else none:=id rfl
section
variable (E:Env) (call:cT) (tm:List AV) (A:List Blk) (nb:Nat)
@[go_sem] theorem Zpt (x ix:Opd) (len s:Nat):E6 x ix len s E call tm A nb=one? (Sq (look tm x) (look tm ix) len s):=id rfl
@[go_sem] theorem Zpr (x ix:Opd) (len s:Nat) (ag:Bool) (n:Nat):WU x ix len s ag n E call tm A nb=one? (UT (look tm x) (look tm ix) len s ag n):=id rfl
@[go_sem] theorem Zpp (n:Nat):WS n E call tm A nb=some (.made (aI n) []):=id rfl
@[go_sem] theorem Zpl (x:Opd):U2 x E call tm A nb=UC (look tm x):=id rfl
@[go_sem] theorem Zpk (s:ByteArray):UC (.d (.v (.string s)))=some (.made (aI s.size) []):=id rfl
@[go_sem] theorem Zps (x ix:Opd):WV x ix E call tm A nb=one? (XZ (look tm x) (look tm ix)):=id rfl
@[go_sem] theorem Zp1 (x:Opd) (lo hi:Option Opd):WQ x lo hi E call tm A nb=one? (UR tm (look tm x) lo hi):=id rfl
@[go_sem] theorem Zpu (f:Fn) (cap:List Opd):MZ f cap E call tm A nb=some (.made (.fn f (cap.map (look tm))) []):=id rfl
@[go_sem] theorem Zpd (t:TypeId) (x:Opd):U1 t x E call tm A nb=some (.made (.ifc t (look tm x)) []):=id rfl
end
@[go_sem] theorem Zot (a b:Bool):FP (.leaf .bool) (.d (.v (.bool a))) (.d (.v (.bool b)))=some (a==b):=id rfl
@[go_sem] theorem Zoi (a b:ByteArray):FP (.leaf .str) (.d (.v (.string a))) (.d (.v (.string b)))=some (a.toList==b.toList):=id rfl
@[go_sem] theorem Zop (n:Nat) (l:List (Nat×Lf)) (x y:AV):FP (.flds n l) x y=UU n l (MB x) (MB y):=id rfl
@[go_sem] theorem Zos (cs:List AV):MB (.agg cs)=some cs:=id rfl
@[go_sem] theorem Zor (cs:List DV):MB (.d (.agg cs))=some (cs.map .d):=id rfl
@[go_sem] theorem Zov (n:Nat) (l:List (Nat×Lf)) (xs ys:List AV):UU n l (some xs) (some ys)=if xs.length=n/\ys.length=n then BX xs ys l else none:=id rfl
def Z9z:Option Bool->Option Bool->Option Bool
 | some a,some b=>some (a&&b)
 | _,_=>none
@[go_sem] theorem Zou (a b:Bool):Z9z (some a) (some b)=some (a&&b):=id rfl
@[go_sem] theorem Zol (xs ys:List AV):BX xs ys []=some true:=id rfl
@[go_sem] theorem Zoq (xs ys:List AV) (o:Nat) (f:Lf) (l:List (Nat×Lf)):BX xs ys ((o,f)::l)=Z9z (CM f (Y3 xs o) (Y3 ys o)) (BX xs ys l):=by
 show(match CM f (Y3 xs o) (Y3 ys o),BX xs ys l with | some a,some b=>some (a&&b) | _,_=>none)=_
 cases CM f (Y3 xs o) (Y3 ys o)<;>cases BX xs ys l<;>rfl
@[go_sem] theorem Zoo (a b:Bool):CM .bool (.d (.v (.bool a))) (.d (.v (.bool b)))=some (a==b):=id rfl
@[go_sem] theorem Zon (k:IntKind) (a b:Int):CM .int (.d (.v (.int k a))) (.d (.v (.int k b)))=some (a==b):=if_pos rfl
@[go_sem] theorem Zom (a b:ByteArray):CM .str (.d (.v (.string a))) (.d (.v (.string b)))=some (a.toList==b.toList):=id rfl
@[go_sem] theorem Zok (x:AV) (l:List AV):Y3 (x::l) 0=x:=id rfl
@[go_sem] theorem Zoj (x:AV) (l:List AV) (n:Nat):Y3 (x::l) (n+1)=Y3 l n:=id rfl
abbrev Zq (E:Env)(f:FuncId):Env:={ br:=E.br,th:=E.th,prim:=E.prim,back:=E.back,lives:=E.lives,live:=E.lives f,nb0:=0 }
def X5 (k:K)(N:Nat)(l:List Nat)(d:AV)(S:List (Nat×AV))(A:List Blk)(ids:List Nat):DU:=
 k (mk .bot N (l.map fun t=>(t,Yw A 0 ids 8 (ZE d S t)))) (Y9 A 0 ids)
@[go_sem] theorem Zqc (k:K) (N:Nat) (l:List Nat) (d:AV) (S:List (Nat×AV)) (A:List Blk) (ids:List Nat):X5 k N l d S A ids=k (mk .bot N (l.map fun t=>(t,Yw A 0 ids 8 (ZE d S t)))) (Y9 A 0 ids):=id rfl
theorem Z7 {E:Env}{f:FuncId}{key:Nat}{l:List Nat}(hl:E.lives f key=some l)(ha:F2 0 l=true)(c:CT)(call:cT)(kx:Nat->K)(kr:K)(n:Nat)(d:AV)(N:Nat)(S:List (Nat×AV))(A:List Blk)(hN:(l.all fun t=>Nat.blt t N)=true):
  Z9 key c (Zq E f) call kx kr (n+1) (mk d N S) A=
   X5 (c (Zq E f) call (Z9 key c (Zq E f) call kx kr n) kx kr) N l d S A (Q8 A 0 100000 (l.flatMap fun t=>YV 8 (ZE d S t)) []):=by
 rw[Z8f]
 refine Zi0 E f key l hl ha _ d N S A fun t ht=> ?_
 have:=List.all_eq_true.1 hN t ht
 exact Nat.le_of_ble_eq_true this
theorem Y2:(1000000000000000000000000000000:Nat)=999999999999999999999999999999+1:=rfl
attribute [go_sem] Ze1
@[go_sem] theorem Zi7:Cl.n Int=1:=id rfl
@[go_sem] theorem Zql:Cl.n Ent=8:=id rfl
@[go_sem] theorem Zqk:Cl.n Ins=9:=id rfl
@[go_sem] theorem Zqi:Cl.n MemT=3:=id rfl
@[go_sem] theorem Zqj:Cl.n Label=2:=id rfl
@[go_sem] theorem Zqg:Cl.n Place=3:=id rfl
@[go_sem] theorem Zqh:Cl.n Obs=2:=id rfl
@[go_sem] theorem Zqm:Cl.n Dir=2:=id rfl
@[go_sem] theorem Zqf:Cl.n Val=2:=id rfl
attribute [go_sem] Zcb Zcc
attribute [go_sem] ZD ZX A4 R9 ZV YT E4 Zm0 Zm1 Zly Zlz Zlw Zlx Z8y Z0h
theorem Zlv (v:Val):Cl.cells v=[vb v.reg,vi v.n]:=id rfl
attribute [go_sem] Zlv
@[go_sem] theorem Zsk (v:Val):Val.mk v.reg v.n=v:=rfl
@[go_sem] theorem Zsr (i:Ins):Ins.mk i.kind i.op i.d i.a i.b i.name i.target=i:=rfl
@[go_sem] theorem Zsm (r:Regs):Regs.mk r.r0 r.r1 r.r2 r.r3=r:=rfl
@[go_sem] theorem Zsn (p:Prog):Prog.mk p.w p.window p.fuel p.regs p.mems p.labels p.ins=p:=rfl
@[go_sem] theorem Zsl (s:State):State.mk s.regs s.mem s.stack s.pc=s:=rfl
@[go_sem] theorem Zsu (c:Conf):Conf.mk c.state c.buf c.rsb c.end_=c:=rfl
@[go_sem] theorem Zss (e:Ent):Ent.mk e.pc e.val e.addr e.frm e.next e.done e.known e.fault=e:=rfl
@[go_sem] theorem Zst (d:Dir):Dir.mk d.kind d.n=d:=rfl
@[go_sem] theorem Zso (o:Obs):Obs.mk o.kind o.at_=o:=rfl
@[go_sem] theorem Zsp (m:MemT):MemT.mk m.name m.secret m.n=m:=rfl
@[go_sem] theorem Zsq (l:Label):Label.mk l.name l.at_=l:=rfl
end Go.Aug
