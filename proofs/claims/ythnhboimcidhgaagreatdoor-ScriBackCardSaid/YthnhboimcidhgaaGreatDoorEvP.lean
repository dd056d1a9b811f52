import Derived.Test.YthnhboimcidhgaaGreatDoorEvTy
namespace Go.Aug
open Go
def Z7:Option (AV×List Blk)->Option DV
 | some (x,A)=>(deep A 8 x).map fun r=>fk 4 r.1
 | none=>none
@[go_sem] theorem Ztk (x:AV) (A:List Blk):Z7 (some (x,A))=(deep A 8 x).map fun r=>fk 4 r.1:=id rfl
@[go_sem] theorem Y0a (b:Bool) (x y:Option (AV×List Blk)):Z7 (bif b then x else y)=bif b then Z7 x else Z7 y:=by cases b<;>rfl
@[go_sem] theorem Y09 (c:Prop) [Decidable c] (x y:Option (AV×List Blk)):Z7 (if c then x else y)=if c then Z7 x else Z7 y:=by split<;>rfl
def Z4b:Option (List DV×List Nat)->Option (DV×List Nat)
 | some (l,u)=>some (.tup l,u)
 | none=>none
@[go_sem] theorem Zu4 (l:List DV) (u:List Nat):Z4b (some (l,u))=some (.tup l,u):=id rfl
@[go_sem] theorem Zzj (A:List Blk) (n:Nat) (cs:List AV):deep A (n+1) (.tup cs)=Z4b (YD (deep A n) cs):=by
 show(YD (deep A n) cs).map (fun r=>(DV.tup r.1,r.2))=_
 cases YD (deep A n) cs<;>rfl
def Z6 (E:Env)(fn:FuncId->Option (Env->cT->cT))(n:Nat)(g:FuncId)(ds:List DV)(D:DV):Prop:=
 Z7 (Z4 E fn n g (ds.map .d) [])=some D
theorem Z3k {α:Type}{p q:α->Bool}:∀ {l:List α},(∀ x ∈ l,p x=q x)->l.all p=l.all q
 | [],_=>rfl
 | x::l,h=>by rw[List.all_cons,List.all_cons,h x (by simp),Z3k (fun y hy=>h y (by simp[hy]))]
theorem WH:∀(n m:Nat) (x:DV),DV.flat n (fk m x)=DV.flat n x
 | 0,_,_=>rfl
 | n+1,0,_=>rfl
 | n+1,m+1,.agg cs=>by
  show(cs.map (fk m)).all (DV.flat n)=cs.all (DV.flat n)
  rw[List.all_map]
  exact Z3k fun x _=>WH n m x
 | n+1,m+1,.tup cs=>by
  show(cs.map (fk m)).all (DV.flat n)=cs.all (DV.flat n)
  rw[List.all_map]
  exact Z3k fun x _=>WH n m x
 | n+1,m+1,.lst cs len k=>by
  cases cs with
  | nil=>cases len<;>rfl
  | cons _ _=>rfl
 | n+1,m+1,.v _=>rfl
 | n+1,m+1,.vptr _=>rfl
 | n+1,m+1,.fn _ _=>rfl
 | n+1,m+1,.ifc _ _=>rfl
 | n+1,m+1,.nel=>rfl
section
variable {E:Env} {fn:FuncId->Option (Env->cT->cT)} {n:Nat} {g:FuncId} {ds:List DV} {D:DV}
theorem Z6.raw (h:Z6 E fn n g ds D)(hp:E.prim g=none):∃ x Ac u D0,Jk E (Z4 E fn n) g ds=some (x,Ac)/\deep Ac 8 x=some (D0,u)/\fk 4 D0=D:=by
 unfold Z6 at h
 unfold Jk
 rw[hp]
 show ∃ x Ac u D0,Z4 E fn n g (ds.map .d) []=some (x,Ac)/\_
 cases hc:Z4 E fn n g (ds.map .d) [] with
 | none=>rw[hc] at h;cases h
 | some p=>
  obtain⟨x,Ac⟩:=p
  rw[hc,Ztk] at h
  cases hd:deep Ac 8 x with
  | none=>rw[hd] at h;cases h
  | some q=>
   obtain⟨D0,u⟩:=q
   rw[hd] at h
   simp only[Option.map_some,Option.some.injEq] at h
   exact⟨x,Ac,u,D0,rfl,hd,h⟩
theorem Z6.flat (h:Z6 E fn n g ds D)(hp:E.prim g=none)(hf:D.flat 8=true)(A:List Blk)(nb:Nat)(us:List Nat):Zv false E (Z4 E fn n) g A nb (some (ds,us))=some (.made (.d D) []):=by
 obtain⟨x,Ac,u,D0,h1,h2,h3⟩:=h.raw hp
 simp only[Zv,h1,F5,cond_false,h2,H5]
 rw[<-h3,WH] at hf
 rw[hf,Bool.or_true,cond_true,h3]
theorem Z6.deep (h:Z6 E fn n g ds D)(hp:E.prim g=none)(A:List Blk)(nb:Nat):Zv false E (Z4 E fn n) g A nb (some (ds,[]))=some (.made (.d D) []):=by
 obtain⟨x,Ac,u,D0,h1,h2,h3⟩:=h.raw hp
 simp only[Zv,h1,F5,cond_false,h2,H5,Bq,Bool.true_or,cond_true,h3]
theorem Z6.used (h:Z6 E fn n g ds D)(hp:E.prim g=none)(hf:D.flat 8=false)(A:List Blk)(nb i:Nat)(us:List Nat):Zv false E (Z4 E fn n) g A nb (some (ds,i::us))=some (.turned (.d D) (YJ A (i::us))):=by
 obtain⟨x,Ac,u,D0,h1,h2,h3⟩:=h.raw hp
 simp only[Zv,h1,F5,cond_false,h2,H5]
 rw[<-h3,WH] at hf
 rw[hf]
 show(bif Bq (i::us) || false then _ else _)=_
 simp only[Bq,Bool.or_false,cond_false,h3]
end
section
variable {α:Type} [Cl α]
@[go_sem] theorem Zu1 (l:List α):S2 (.d (rD l))=some (aI l.length):=id rfl
@[go_sem] theorem Zu2 (n:Nat) (l:List α):fk (n+1) (rD l)=rD l:=id rfl
@[go_sem] theorem Zu0 (l:List α):AV.one (.d (rD l))=true:=id rfl
@[go_sem] theorem Zu3 (l:List α):AV.cells (.d (rD l))=[.d (rD l)]:=id rfl
theorem Zh8 (A:List Blk)(s:Nat)(l:List α)(hs:s=Cl.n α):E9 A false s (.d (rD l))=some ((rC l).map .d,l.length):=by
 subst hs
 show(if(rC l).length=l.length*Cl.n α then some ((rC l).map AV.d,l.length) else none)=_
 rw[if_pos (J4 l)]
theorem Zx {l:List α}{i:Nat}{e:α}(h:l[i]? =some e)(kk:IntKind)(s:Nat)(hs:s=Cl.n α):F3 (.d (rD l)) (.d (.v (.int kk (i:Int)))) s=some (.d (.vptr (Cl.cells e++rC (l.drop (i+1))))):=by
 obtain⟨hi,rfl⟩:=List.getElem?_eq_some_iff.1 h
 exact Z7x hi hs none kk
theorem E1 {l:List α}{i:Int}{e:α}(h0:0<=i)(h:l[i.toNat]? =some e)(kk:IntKind)(s:Nat)(hs:s=Cl.n α):F3 (.d (rD l)) (.d (.v (.int kk i))) s=some (.d (.vptr (Cl.cells e++rC (l.drop (i.toNat+1))))):=by
 obtain⟨i,rfl⟩:=Int.eq_ofNat_of_zero_le h0
 exact Zx (by simpa using h) kk s hs
end
theorem eG (x:AV)(A:List Blk):Dw 0 (some (x,A))=some (YM A 0 (QK A 0 100000 (Qj 8 x) []) 8 x,Yq A 0 (QK A 0 100000 (Qj 8 x) [])):=by
 show some (YM A 0 (QK A 0 100000 (Qj 8 x++[]) []) 8 x,Yq A 0 (QK A 0 100000 (Qj 8 x++[]) []))=_
 rw[List.append_nil]
def JS (tm:List AV):Option Opd->Option AV
 | some o=>some (look tm o)
 | none=>none
@[go_sem] theorem Zy0 (tm:List AV):JS tm none=none:=id rfl
@[go_sem] theorem Zxz (tm:List AV) (o:Opd):JS tm (some o)=some (look tm o):=id rfl
def GA (len:Nat)(x:Option AV)(dflt:Nat):Option Nat:=
 match x with
 | none=>some dflt
 | some x=>match x with
  | .d (.v (.int _ n))=>if 0<=n/\n<=len then some n.toNat else none
  | _=>none
theorem Z39 (len:Nat)(tm:List AV)(x:Option Opd)(d:Nat):EF len tm x d=GA len (JS tm x) d:=by cases x<;>rfl
@[go_sem] theorem Zdc (len d:Nat):GA len none d=some d:=id rfl
theorem Zdb (len d:Nat)(k:IntKind)(n:Int)(h:0<=n/\n<=len):GA len (some (.d (.v (.int k n)))) d=some n.toNat:=if_pos h
def DF (len:Nat)(lo hi mx:Option AV):Option (Nat×Nat×Nat):=
 match GA len mx len,GA len hi len,GA len lo 0 with
 | some m,some h,some l=>if l<=h/\h<=m/\(mx.isSome->hi.isSome) then some (l,h,m) else none
 | _,_,_=>none
theorem Zd9 (len:Nat)(tm:List AV)(lo hi mx:Option Opd):BN len tm lo hi mx=DF len (JS tm lo) (JS tm hi) (JS tm mx):=by
 unfold BN DF
 rw[Z39,Z39,Z39]
 cases GA len (JS tm mx) len<;>cases GA len (JS tm hi) len<;>cases GA len (JS tm lo) 0<;>cases mx<;>cases hi<;>rfl
def Z01 {α:Type} [Cl α] (l:List α):Option (Nat×Nat×Nat)->Option AV
 | some (lo,hi,_)=>some (.d (rD ((l.drop lo).take (hi-lo))))
 | none=>none
@[go_sem] theorem Zu5 {α:Type} [Cl α] (l:List α) (lo hi m:Nat):Z01 l (some (lo,hi,m))=some (.d (rD ((l.drop lo).take (hi-lo)))):=id rfl
theorem Zh7 {α:Type} [Cl α] (tm:List AV)(l:List α)(lo hi:Option Opd)(s:Nat)(hs:s=Cl.n α):S0 tm (.d (rD l)) lo hi none s=Z01 l (DF l.length (JS tm lo) (JS tm hi) none):=by
 subst hs
 show(match BN l.length tm lo hi none with
  | some (a,b,m)=>if a=b then some (AV.d (.lst [] 0 (if(none:Option Opd).isSome=true/\m=a then some 0 else none))) else if b*Cl.n α<=(rC l).length then some (.d (.lst (((rC l).drop (a*Cl.n α)).take ((b-a)*Cl.n α)) (b-a) (NB none m a none))) else none
  | none=>none)=_
 rw[Zd9]
 show _=Z01 l (DF l.length (JS tm lo) (JS tm hi) none)
 have hbd:∀ {a b m},DF l.length (JS tm lo) (JS tm hi) none=some (a,b,m)->a<=b/\b<=l.length:=by
  intro a b m h
  unfold DF at h
  split at h
  ·rename_i m' h' l' e1 e2 e3
   split at h
   ·rename_i hc
    simp only[Option.some.injEq,Prod.mk.injEq] at h
    obtain⟨rfl,rfl,rfl⟩:=h
    simp only[GA,Option.some.injEq] at e1
    omega
   ·cases h
  ·cases h
 show(match DF l.length (JS tm lo) (JS tm hi) none with | some (a,b,m)=>_ | none=>none)=_
 cases hb:DF l.length (JS tm lo) (JS tm hi) none with
 | none=>rfl
 | some p=>
  obtain⟨a,b,m⟩:=p
  obtain⟨h1,h2⟩:=hbd hb
  show(if a=b then _ else _)=some (AV.d (rD ((l.drop a).take (b-a))))
  by_cases hab:a=b
  ·subst hab
   rw[if_pos rfl,Nat.sub_self];rfl
  ·rw [if_neg hab, if_pos (by rw [J4]; exact Nat.mul_le_mul_right _ h2)]
   rw[Z0a,SV]
   have:((l.drop a).take (b-a)).length=b-a:=by simp;omega
   unfold rD
   rw[this];rfl
theorem Hk (len:Nat)(k:IntKind)(h:Int)(h0:0<=h)(h1:h<=len):DF len none (some (.d (.v (.int k h)))) none=some (0,h.toNat,len):=by
 have e:GA len (some (.d (.v (.int k h)))) len=some h.toNat:=Zdb _ _ _ _ ⟨h0,h1⟩
 simp only[DF,Zdc,e,Nat.zero_le,true_and]
 rw[if_pos ⟨by omega,by simp⟩]
theorem Sw (len:Nat)(k:IntKind)(l:Int)(h0:0<=l)(h1:l<=len):DF len (some (.d (.v (.int k l)))) none none=some (l.toNat,len,len):=by
 have e:GA len (some (.d (.v (.int k l)))) 0=some l.toNat:=Zdb _ _ _ _ ⟨h0,h1⟩
 simp only[DF,Zdc,e,Nat.le_refl,true_and]
 rw[if_pos ⟨by omega,by simp⟩]
def YN {α:Type} [Cl α] (i:Nat):List α->AV
 | []=>.d (.lst [] 0 (some 0))
 | l=>.sref i 0 0 l.length (Cl.n α) none
def Yz {α:Type} [Cl α]:List α->List Blk
 | []=>[]
 | l=>[.cells ((rC l).map .d) 0 false]
section
variable (E:Env) (call:cT) (tm:List AV) (A:List Blk) (nb:Nat)
@[go_sem] theorem Zv7 (x:Opd) (lo hi mx:Option Opd) (s:Nat):DQ x lo hi mx s E call tm A nb=one? (S0 tm (look tm x) lo hi mx s):=id rfl
@[go_sem] theorem Zvf (x:Opd):Qk x E call tm A nb=one? (TS (look tm x)):=id rfl
@[go_sem] theorem Zvd (i v o:Nat):TS (.ref i v o)=some (.ref i v o):=id rfl
@[go_sem] theorem Zve (cs:List DV):TS (.d (.vptr cs))=some (.d (.vptr cs)):=id rfl
end
@[go_sem] theorem D7 {α:Type} [Cl α]:rD ([]:List α)=.lst [] 0 none:=id rfl
section
variable (E:Env) (call:cT) (tm:List AV) (A:List Blk)
@[go_sem] theorem Zzw (fg:Fl) (d:Option Nat) (t:Nat) (b:Bool) (op:ZV) (l:List (Fl×Stp)) (k:K):K1 E call ((fg,⟨d,some (t,b),op⟩)::l) k tm A=MH E call fg ⟨d,some (t,b),op⟩ (K1 E call l k) tm A (NU b (Y4 tm t)):=id rfl
@[go_sem] theorem Zzo (fg:Fl) (s:Stp) (k:K):MH E call fg s k tm A (some true)=F1 fg s.dst k tm A (s.op E call tm A A.length):=id rfl
@[go_sem] theorem Zzp (fg:Fl) (s:Stp) (k:K):MH E call fg s k tm A (some false)=k (YZ tm s.dst CK) A:=id rfl
end
@[go_sem] theorem Zxi (vs:List AV) (i:Nat):TU (.tup vs) i=vs[i]? :=id rfl
@[go_sem] theorem Zxh (vs:List DV) (i:Nat):TU (.d (.tup vs)) i=(vs[i]?).map .d:=id rfl
@[go_sem] theorem Zx3 (cs:List AV) (off:Nat) (ag:Bool) (n:Nat):HY (.agg cs) off ag n=if off+n<=cs.length then BF ag n (cs.drop off) else none:=id rfl
@[go_sem] theorem Zx2 (cs:List DV) (off:Nat) (ag:Bool) (n:Nat):HY (.d (.agg cs)) off ag n=if off+n<=cs.length then(BX ag n (cs.drop off)).map .d else none:=id rfl
@[go_sem] theorem Zxf (x:AV) (k:IntKind) (i:Int) (len s:Nat):TT x (.d (.v (.int k i))) len s=if 0<=i/\i<len then GU x (i.toNat*s) else none:=id rfl
@[go_sem] theorem Zxd (x:AV) (k:IntKind) (i:Int) (len s:Nat) (ag:Bool) (n:Nat):WP x (.d (.v (.int k i))) len s ag n=if 0<=i/\i<len then HY x (i.toNat*s) ag n else none:=id rfl
section
variable (E:Env) (call:cT) (tm:List AV) (A:List Blk) (nb:Nat)
@[go_sem] theorem Zvy (x ix:Opd) (len s:Nat):CW x ix len s E call tm A nb=one? (TT (look tm x) (look tm ix) len s):=id rfl
@[go_sem] theorem Zvw (x ix:Opd) (len s:Nat) (ag:Bool) (n:Nat):Z0r x ix len s ag n E call tm A nb=one? (WP (look tm x) (look tm ix) len s ag n):=id rfl
@[go_sem] theorem Zvu (n:Nat):Z0q n E call tm A nb=some (.made (aI n) []):=id rfl
@[go_sem] theorem Zvq (x:Opd):VU x E call tm A nb=Ww (look tm x):=id rfl
@[go_sem] theorem Zvp (s:ByteArray):Ww (.d (.v (.string s)))=some (.made (aI s.size) []):=id rfl
@[go_sem] theorem Zvx (x ix:Opd):Z0s x ix E call tm A nb=one? (Z1z (look tm x) (look tm ix)):=id rfl
@[go_sem] theorem Zv6 (x:Opd) (lo hi:Option Opd):Z0o x lo hi E call tm A nb=one? (WM tm (look tm x) lo hi):=id rfl
@[go_sem] theorem Zvz (f:Fn) (cap:List Opd):Pj f cap E call tm A nb=some (.made (.fn f (cap.map (look tm))) []):=id rfl
@[go_sem] theorem Zvi (t:TypeId) (x:Opd):VT t x E call tm A nb=some (.made (.ifc t (look tm x)) []):=id rfl
end
@[go_sem] theorem Zuy (a b:Bool):H2 (.leaf .bool) (.d (.v (.bool a))) (.d (.v (.bool b)))=some (a==b):=id rfl
@[go_sem] theorem Zun (a b:ByteArray):H2 (.leaf .str) (.d (.v (.string a))) (.d (.v (.string b)))=some (a.toList==b.toList):=id rfl
@[go_sem] theorem Zuu (n:Nat) (l:List (Nat×Lf)) (x y:AV):H2 (.flds n l) x y=WQ n l (NP x) (NP y):=id rfl
@[go_sem] theorem Zux (cs:List AV):NP (.agg cs)=some cs:=id rfl
@[go_sem] theorem Zuw (cs:List DV):NP (.d (.agg cs))=some (cs.map .d):=id rfl
@[go_sem] theorem Zv0 (n:Nat) (l:List (Nat×Lf)) (xs ys:List AV):WQ n l (some xs) (some ys)=if xs.length=n/\ys.length=n then CY xs ys l else none:=id rfl
def Zdu:Option Bool->Option Bool->Option Bool
 | some a,some b=>some (a&&b)
 | _,_=>none
@[go_sem] theorem Zuz (a b:Bool):Zdu (some a) (some b)=some (a&&b):=id rfl
@[go_sem] theorem Zuq (xs ys:List AV):CY xs ys []=some true:=id rfl
@[go_sem] theorem Zuv (xs ys:List AV) (o:Nat) (f:Lf) (l:List (Nat×Lf)):CY xs ys ((o,f)::l)=Zdu (DX f (Y4 xs o) (Y4 ys o)) (CY xs ys l):=by
 show(match DX f (Y4 xs o) (Y4 ys o),CY xs ys l with | some a,some b=>some (a&&b) | _,_=>none)=_
 cases DX f (Y4 xs o) (Y4 ys o)<;>cases CY xs ys l<;>rfl
@[go_sem] theorem Zut (a b:Bool):DX .bool (.d (.v (.bool a))) (.d (.v (.bool b)))=some (a==b):=id rfl
@[go_sem] theorem Zus (k:IntKind) (a b:Int):DX .int (.d (.v (.int k a))) (.d (.v (.int k b)))=some (a==b):=if_pos rfl
@[go_sem] theorem Zur (a b:ByteArray):DX .str (.d (.v (.string a))) (.d (.v (.string b)))=some (a.toList==b.toList):=id rfl
@[go_sem] theorem Zup (x:AV) (l:List AV):Y4 (x::l) 0=x:=id rfl
@[go_sem] theorem Zuo (x:AV) (l:List AV) (n:Nat):Y4 (x::l) (n+1)=Y4 l n:=id rfl
abbrev Zj (E:Env)(f:FuncId):Env:={ br:=E.br,th:=E.th,prim:=E.prim,back:=E.back,lives:=E.lives,live:=E.lives f,nb0:=0 }
def Z18 (k:K)(N:Nat)(l:List Nat)(d:AV)(S:List (Nat×AV))(A:List Blk)(ids:List Nat):G1:=
 k (mk .bot N (l.map fun t=>(t,YM A 0 ids 8 (ZX d S t)))) (Yq A 0 ids)
@[go_sem] theorem Zwh (k:K) (N:Nat) (l:List Nat) (d:AV) (S:List (Nat×AV)) (A:List Blk) (ids:List Nat):Z18 k N l d S A ids=k (mk .bot N (l.map fun t=>(t,YM A 0 ids 8 (ZX d S t)))) (Yq A 0 ids):=id rfl
theorem Z8 {E:Env}{f:FuncId}{key:Nat}{l:List Nat}(hl:E.lives f key=some l)(ha:K8 0 l=true)(c:CT)(call:cT)(kx:Nat->K)(kr:K)(n:Nat)(d:AV)(N:Nat)(S:List (Nat×AV))(A:List Blk)(hN:(l.all fun t=>Nat.blt t N)=true):
  Z9 key c (Zj E f) call kx kr (n+1) (mk d N S) A=
   Z18 (c (Zj E f) call (Z9 key c (Zj E f) call kx kr n) kx kr) N l d S A (QK A 0 100000 (l.flatMap fun t=>Qj 8 (ZX d S t)) []):=by
 rw[Zqs]
 refine Znq E f key l hl ha _ d N S A fun t ht=> ?_
 have:=List.all_eq_true.1 hN t ht
 exact Nat.le_of_ble_eq_true this
theorem Y7:(1000000000000000000000000000000:Nat)=999999999999999999999999999999+1:=rfl
attribute [go_sem] Ziq
@[go_sem] theorem Z6y:Cl.n Int=1:=id rfl
@[go_sem] theorem Zwq:Cl.n Ent=8:=id rfl
@[go_sem] theorem Zwp:Cl.n Ins=9:=id rfl
@[go_sem] theorem Zwn:Cl.n MemT=3:=id rfl
@[go_sem] theorem Zwo:Cl.n Label=2:=id rfl
@[go_sem] theorem Zwl:Cl.n Place=3:=id rfl
@[go_sem] theorem Zwm:Cl.n Obs=2:=id rfl
@[go_sem] theorem Zwr:Cl.n Dir=2:=id rfl
@[go_sem] theorem Zwk:Cl.n Val=2:=id rfl
attribute [go_sem] Zh7 Zh8
attribute [go_sem] Zw Y3 B5 GQ ZS Jq CU Zrq Zrr Zro Zrp Zrm Zrn Z2j Jx
theorem Zrl (v:Val):Cl.cells v=[vb v.reg,vi v.n]:=id rfl
attribute [go_sem] Zrl
@[go_sem] theorem Zyq (v:Val):Val.mk v.reg v.n=v:=rfl
@[go_sem] theorem Zyx (i:Ins):Ins.mk i.kind i.op i.d i.a i.b i.name i.target=i:=rfl
@[go_sem] theorem Zys (r:Regs):Regs.mk r.r0 r.r1 r.r2 r.r3=r:=rfl
@[go_sem] theorem Zyt (p:Prog):Prog.mk p.w p.window p.fuel p.regs p.mems p.labels p.ins=p:=rfl
@[go_sem] theorem Zyr (s:State):State.mk s.regs s.mem s.stack s.pc=s:=rfl
@[go_sem] theorem Zz0 (c:Conf):Conf.mk c.state c.buf c.rsb c.end_=c:=rfl
@[go_sem] theorem Zyy (e:Ent):Ent.mk e.pc e.val e.addr e.frm e.next e.done e.known e.fault=e:=rfl
@[go_sem] theorem Zyz (d:Dir):Dir.mk d.kind d.n=d:=rfl
@[go_sem] theorem Zyu (o:Obs):Obs.mk o.kind o.at_=o:=rfl
@[go_sem] theorem Zyv (m:MemT):MemT.mk m.name m.secret m.n=m:=rfl
@[go_sem] theorem Zyw (l:Label):Label.mk l.name l.at_=l:=rfl
end Go.Aug
