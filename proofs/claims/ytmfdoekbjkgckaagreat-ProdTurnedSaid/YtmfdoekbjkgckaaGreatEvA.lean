import Derived.Calls
import Derived.Laws.Sem
import Derived.Laws.Cover4
import GoSem.Core.Utf8
namespace Go.Aug
open Go
inductive DV where
 | v (x:Value)
 | agg (cs:List DV)
 | tup (vs:List DV)
 | lst (cs:List DV) (len:Nat) (k:Option Nat)
 | vptr (cs:List DV)
 | fn (f:Fn) (cap:List DV)
 | ifc (t:TypeId) (x:DV)
 | nel
 deriving Inhabited
inductive AV where
 | d (x:DV)
 | agg (cs:List AV)
 | tup (vs:List AV)
 | ref (i ver off:Nat)
 | sref (i ver off len sz:Nat) (k:Option Nat)
 | fn (f:Fn) (cap:List AV)
 | ifc (t:TypeId) (x:AV)
 | bot
 deriving Inhabited
inductive Blk where
 | cells (cs:List AV) (ver:Nat) (ro:Bool)
 | iter (s:ByteArray) (pos:Nat)
 | free
 deriving Inhabited
def AV.cells:AV->List AV
 | .agg cs=>cs
 | .d (.agg cs)=>cs.map .d
 | x=>[x]
def AV.isBot:AV->Bool
 | .bot=>true
 | _=>false
def AV.one:AV->Bool
 | .bot=>false
 | .agg _ | .tup _ | .d (.agg _) | .d (.tup _)=>false
 | .d (.v (.agg _)) | .d (.v (.tuple _))=>false
 | _=>true
abbrev JX:AV:=.d (.tup [])
abbrev X3:AV:=.d (.v (.slice none 0 0))
abbrev aI (n:Int):AV:=.d (.v (.int .i64 n))
abbrev YD (b:Bool):AV:=.d (.v (.bool b))
def Y6:List AV->Nat->AV
 | [],_=>JX
 | x::_,0=>x
 | _::l,n+1=>Y6 l n
def CV:List AV->Nat->AV->List AV
 | [],_,_=>[]
 | _::l,0,y=>y::l
 | x::l,n+1,y=>x::CV l n y
inductive Opd where
 | t (n:Nat)
 | c (x:DV)
 | f (id:FuncId)
 deriving Inhabited
def look (tm:List AV):Opd->AV
 | .t n=>Y6 tm n
 | .c x=>.d x
 | .f id=>.fn (.func id) []
inductive Lf where
 | bool | int | str
 deriving Inhabited,DecidableEq
inductive Sh where
 | leaf (f:Lf)
 | iface | slice
 | flds (n:Nat) (l:List (Nat×Lf))
 deriving Inhabited
def GG:AV->Nat->Option AV
 | .d (.vptr cs),n=>if n<=cs.length then some (.d (.vptr (cs.drop n))) else none
 | .ref i ver o,n=>some (.ref i ver (o+n))
 | _,_=>none
def splice {α:Type}(cells:List α)(off:Nat)(cs:List α):List α:=
 cells.take off++cs++cells.drop (off+cs.length)
def BA (tm cells:List AV):List (Nat×Nat×Opd)->Option (List AV)
 | []=>some cells
 | (off,size,x)::rest=>
  let cs:=(look tm x).cells
  if(look tm x).isBot=false/\cs.length=size/\off+size<=cells.length then BA tm (splice cells off cs) rest else none
def BH (ag:Bool)(n:Nat)(cs:List AV):Option AV:=
 if ag then(if n<=cs.length then some (.agg (cs.take n)) else none) else cs.head?
def C2 (ag:Bool)(n:Nat)(cs:List DV):Option DV:=
 if ag then(if n<=cs.length then some (.agg (cs.take n)) else none) else cs.head?
def HT (x:AV)(off:Nat)(ag:Bool)(n:Nat):Option AV:=
 match x with
 | .agg cs=>if off+n<=cs.length then BH ag n (cs.drop off) else none
 | .d (.agg cs)=>if off+n<=cs.length then(C2 ag n (cs.drop off)).map .d else none
 | _=>none
def TJ (x ix:AV)(len s:Nat):Option AV:=
 match ix with
 | .d (.v (.int _ i))=>if 0<=i/\i<len then GG x (i.toNat*s) else none
 | _=>none
def EY (x ix:AV)(s:Nat):Option AV:=
 match ix with
 | .d (.v (.int _ i))=>
  match x with
  | .d (.lst cs len _)=>if 0<=i/\i<len/\i.toNat*s<=cs.length then some (.d (.vptr (cs.drop (i.toNat*s)))) else none
  | .sref b ver off len sz _=>if 0<=i/\i<len/\sz=s then some (.ref b ver (off+i.toNat*s)) else none
  | _=>none
 | _=>none
def Wv (x ix:AV)(len s:Nat)(ag:Bool)(n:Nat):Option AV:=
 match ix with
 | .d (.v (.int _ i))=>if 0<=i/\i<len then HT x (i.toNat*s) ag n else none
 | _=>none
def Z1u (x ix:AV):Option AV:=
 match x,ix with
 | .d (.v (.string s)),.d (.v (.int _ i))=>if 0<=i then(s[i.toNat]?).map fun b=>.d (.v (.int .u8 b.toNat)) else none
 | _,_=>none
def TK (x:AV)(i:Nat):Option AV:=
 match x with
 | .tup vs=>vs[i]?
 | .d (.tup vs)=>(vs[i]?).map .d
 | _=>none
def Wx (op:UnOp)(x:AV):Option AV:=
 match op,x with
 | .not,.d (.v (.bool b))=>some (YD !b)
 | .neg,.d (.v (.int k n))=>some (.d (.v (.int k (k.wrap (0-n)))))
 | _,_=>none
def EZ (op:BinOp)(k:IntKind)(x y:Int):Option Value:=
 match op with
 | .add=>some (.int k (k.wrap (x+y)))
 | .sub=>some (.int k (k.wrap (x-y)))
 | .mul=>some (.int k (k.wrap (x*y)))
 | .quo=>if y=0 then none else some (.int k (k.wrap (x.tdiv y)))
 | .rem=>if y=0 then none else some (.int k (x.tmod y))
 | .and=>some (.int k (k.wrap (BitVec.ofInt k.bits x&&&BitVec.ofInt k.bits y).toNat))
 | .or=>some (.int k (k.wrap (BitVec.ofInt k.bits x ||| BitVec.ofInt k.bits y).toNat))
 | .xor=>some (.int k (k.wrap (BitVec.ofInt k.bits x^^^BitVec.ofInt k.bits y).toNat))
 | .andNot=>some (.int k (k.wrap (BitVec.ofInt k.bits x&&& ~~~BitVec.ofInt k.bits y).toNat))
 | .eql=>some (.bool (x==y))
 | .neq=>some (.bool (x !=y))
 | .lss=>some (.bool (x<y))
 | .leq=>some (.bool (x<=y))
 | .gtr=>some (.bool (x>y))
 | .geq=>some (.bool (x>=y))
 | _=>none
def HS (shl:Bool)(k:IntKind)(x y:Int):Option Value:=
 if y<0 then none else
 if shl then some (.int k (k.wrap (x*2^(min y.toNat k.bits)))) else some (.int k (x.fdiv (2^(min y.toNat k.bits))))
def N4 (op:BinOp)(x y:ByteArray):Option Value:=
 match op with
 | .add=>if x.size+y.size<=1099511627776 then some (.string (x++y)) else none
 | .eql=>some (.bool (x.toList==y.toList))
 | .neq=>some (.bool !(x.toList==y.toList))
 | .lss=>some (.bool (Op.bytesLess x.toList y.toList))
 | .leq=>some (.bool (Op.bytesLess x.toList y.toList || x.toList==y.toList))
 | .gtr=>some (.bool !(Op.bytesLess x.toList y.toList || x.toList==y.toList))
 | .geq=>some (.bool !(Op.bytesLess x.toList y.toList))
 | _=>none
def Qz (op:BinOp)(x y:AV):Option AV:=
 match x,y with
 | .d (.v (.int k a)),.d (.v (.int k' b))=>
  match op with
  | .shl=>(HS true k a b).map fun r=>.d (.v r)
  | .shr=>(HS false k a b).map fun r=>.d (.v r)
  | op=>if k=k' then(EZ op k a b).map fun r=>.d (.v r) else none
 | .d (.v (.string a)),.d (.v (.string b))=>(N4 op a b).map fun r=>.d (.v r)
 | _,_=>none
def E1:Lf->AV->AV->Option Bool
 | .bool,.d (.v (.bool a)),.d (.v (.bool b))=>some (a==b)
 | .int,.d (.v (.int k a)),.d (.v (.int k' b))=>if k=k' then some (a==b) else none
 | .str,.d (.v (.string a)),.d (.v (.string b))=>some (a.toList==b.toList)
 | _,_,_=>none
def D4 (xs ys:List AV):List (Nat×Lf)->Option Bool
 | []=>some true
 | (o,f)::l=>match E1 f (Y6 xs o) (Y6 ys o),D4 xs ys l with
  | some a,some b=>some (a&&b)
  | _,_=>none
def NE:AV->Option (List AV)
 | .agg cs=>some cs
 | .d (.agg cs)=>some (cs.map .d)
 | _=>none
def WB (n:Nat)(l:List (Nat×Lf)):Option (List AV)->Option (List AV)->Option Bool
 | some xs,some ys=>if xs.length=n/\ys.length=n then D4 xs ys l else none
 | _,_=>none
def GX (sh:Sh)(x y:AV):Option Bool:=
 match sh with
 | .leaf f=>E1 f x y
 | .iface=>match x,y with
  | .d (.v .nilIface),.ifc _ _ | .ifc _ _,.d (.v .nilIface) | .d (.v .nilIface),.d (.ifc _ _) | .d (.ifc _ _),.d (.v .nilIface)=>some false
  | _,_=>none
 | .slice=>match x,y with
  | .d (.v (.slice none _ _)),.d (.v (.slice none _ _))=>some true
  | .sref ..,.d (.v (.slice none _ _))=>some false
  | .d (.lst _ n _),.d (.v (.slice none _ _))=>if n=0 then none else some false
  | .d .nel,.d (.v (.slice none _ _))=>some false
  | _,_=>none
 | .flds n l=>WB n l (NE x) (NE y)
def EE (len:Nat)(tm:List AV)(x:Option Opd)(dflt:Nat):Option Nat:=
 match x with
 | none=>some dflt
 | some o=>match look tm o with
  | .d (.v (.int _ n))=>if 0<=n/\n<=len then some n.toNat else none
  | _=>none
def B9 (len:Nat)(tm:List AV)(lo hi mx:Option Opd):Option (Nat×Nat×Nat):=
 match EE len tm mx len,EE len tm hi len,EE len tm lo 0 with
 | some m,some h,some l=>if l<=h/\h<=m/\(mx.isSome->hi.isSome) then some (l,h,m) else none
 | _,_,_=>none
def KM (mx:Option Opd)(m l:Nat)(k:Option Nat):Option Nat:=
 if mx.isSome then some (m-l) else k.map (·-l)
def HR (tm:List AV)(x:AV)(lo hi mx:Option Opd)(s:Nat):Option AV:=
 match x with
 | .d (.lst cs len k)=>match B9 len tm lo hi mx with
  | some (l,h,m)=>
   if l=h then some (.d (.lst [] 0 (if mx.isSome/\m=l then some 0 else none)))
   else if h*s<=cs.length then some (.d (.lst ((cs.drop (l*s)).take ((h-l)*s)) (h-l) (KM mx m l k))) else none
  | none=>none
 | .d (.v (.slice none 0 0))=>(B9 0 tm lo hi mx).map fun _=>X3
 | .sref i ver off len sz k=>match B9 len tm lo hi mx with
  | some (l,h,m)=>
   if s≠sz then none else
   if l=h/\l≠0 then some (.d (.lst [] 0 (if mx.isSome/\m=l then some 0 else none)))
   else some (.sref i ver (off+l*s) (h-l) sz (KM mx m l k))
  | none=>none
 | _=>none
def Wz (tm:List AV)(x:AV)(lo hi:Option Opd):Option AV:=
 match x with
 | .d (.v (.string s))=>(B9 s.size tm lo hi none).map fun(l,h,_)=>.d (.v (.string (s.extract l h)))
 | _=>none
def RV (x:AV):Option AV:=
 match x with
 | .d (.lst _ len _)=>some (aI len)
 | .sref _ _ _ len _ _=>some (aI len)
 | .d (.v (.slice none 0 0))=>some (aI 0)
 | .d .nel=>some (aI 0)
 | _=>none
def Tq (mx:Bool)(k:IntKind):Int->List AV->Option AV
 | x,[]=>some (.d (.v (.int k x)))
 | x,.d (.v (.int _ y))::rest=>Tq mx k (if mx then(if y>x then y else x) else(if y<x then y else x)) rest
 | _,_=>none
def RU (mx:Bool):List AV->Option AV
 | .d (.v (.int k x))::rest=>Tq mx k x rest
 | _=>none
def Zbe (x:AV)(t:TypeId)(zero:DV)(ok:Bool):Option AV:=
 match x with
 | .ifc u y=>if u=t then(if ok then some (.tup [y,YD true]) else some y) else if ok then some (.d (.tup [zero,.v (.bool false)])) else none
 | .d (.ifc u y)=>if u=t then(if ok then some (.tup [.d y,YD true]) else some (.d y)) else if ok then some (.d (.tup [zero,.v (.bool false)])) else none
 | .d (.v .nilIface)=>if ok then some (.d (.tup [zero,.v (.bool false)])) else none
 | _=>none
def TG:AV->Option AV
 | .ref i ver o=>some (.ref i ver o)
 | .d (.vptr cs)=>some (.d (.vptr cs))
 | .fn (.func f) c=>some (.fn (.func f) c)
 | .d (.fn (.func f) c)=>some (.d (.fn (.func f) c))
 | _=>none
def cellsAt (A:List Blk)(i ver off:Nat):Option (List AV):=
 match A[i]? with
 | some (.cells cs v _)=>if v=ver then some (cs.drop off) else none
 | _=>none
def Z1t (A:List Blk)(tm:List AV)(x:AV)(lo hi mx:Option Opd)(n s:Nat):Option AV:=
 match x with
 | .ref i ver off=>match B9 n tm lo hi mx,cellsAt A i ver off with
  | some (l,h,m),some cs=>if(l=h/\l≠0)∨cs.length<n*s∨n*s=0 then none else some (.sref i ver (off+l*s) (h-l) s (some (m-l)))
  | _,_=>none
 | .d (.vptr cs)=>match B9 n tm lo hi mx with
  | some (l,h,m)=>
   if l=h∨cs.length<h*s then none
   else some (.d (.lst ((cs.drop (l*s)).take ((h-l)*s)) (h-l) (some (m-l))))
  | none=>none
 | _=>none
def FP (A:List Blk)(a:AV)(ag:Bool)(n:Nat):Option AV:=
 match a with
 | .d (.vptr cs)=>(C2 ag n cs).map .d
 | .ref i ver off=>match cellsAt A i ver off with
  | some cs=>BH ag n cs
  | none=>none
 | _=>none
def GW (A:List Blk)(a x:AV)(n:Nat):Option (List Blk):=
 match a with
 | .ref i ver off=>
  match A[i]? with
  | some (.cells cs v false)=>
   if v=ver/\x.cells.length=n/\off+n<=cs.length/\x.cells.all AV.one=true then some (A.set i (.cells (splice cs off x.cells) v false)) else none
  | _=>none
 | _=>none
def Z5:Nat:=1099511627776
def Ek (A:List Blk)(str:Bool)(s:Nat)(x:AV):Option (List AV×Nat):=
 match str,x with
 | false,.d (.v (.slice none 0 0))=>some ([],0)
 | false,.d (.lst cs len _)=>if cs.length=len*s then some (cs.map .d,len) else none
 | false,.sref i ver off len sz _=>
  match cellsAt A i ver off with
  | some cs=>if s=sz/\len*sz<=cs.length then some (cs.take (len*sz),len) else none
  | none=>none
 | true,.d (.v (.string b))=>some (b.data.toList.map fun b=>.d (.v (.int .u8 b.toNat)),b.size)
 | false,.d .nel=>some ([],0)
 | _,_=>none
inductive App where
 | same
 | fresh (cells:List AV) (len:Nat)
 | turn (i:Nat) (b:Blk) (x:AV)
def Q7 (A:List Blk)(s bytes:Nat)(base:AV)(new:List AV)(n:Nat):Option App:=
 if n=0 then(match base with
  | .sref .. | .d (.lst ..) | .d (.v (.slice none 0 0))=>some .same
  | _=>none) else
 match base with
 | .d (.v (.slice none 0 0))=>if n*bytes<=Z5/\n<=Z5 then some (.fresh new n) else none
 | .d (.lst cs len (some c))=>
  if c<len+n/\cs.length=len*s/\(len+n)*bytes<=Z5/\len+n<=Z5 then some (.fresh (cs.map .d++new) (len+n)) else none
 | .sref i ver off len sz k=>
  if sz≠s∨Z5<(len+n)*bytes∨Z5<len+n∨new.all AV.one=false then none else
  match A[i]? with
  | some (.cells cs v ro)=>
   if v≠ver∨cs.length<off+len*s then none else
   match k with
   | some c=>
    if c<len+n then some (.fresh ((cs.drop off).take (len*s)++new) (len+n))
    else if ro=false/\off+(len+n)*s<=cs.length then some (.turn i (.cells (splice cs (off+len*s) new) v ro) (.sref i ver off (len+n) sz k))
    else none
   | none=>
    if ro then none else
    if off+(len+n)*s<=cs.length then some (.turn i (.cells (splice cs (off+len*s) new) v ro) (.sref i ver off (len+n) sz none))
    else if off=0/\len*s=cs.length then some (.turn i (.cells (cs++new) (v+1) ro) (.sref i (v+1) 0 (len+n) sz none))
    else none
  | _=>none
 | _=>none
def rep {α:Type}(l:List α):Nat->List α
 | 0=>[]
 | n+1=>l++rep l n
def MX (k:IntKind):List AV->Option (List Int)
 | []=>some []
 | .d (.v (.int k' n))::rest=>if k'=k then(MX k rest).map (n:: ·) else none
 | _=>none
def NC (ns:List Int):ByteArray:=ns.foldl (fun r n=>r.push (UInt8.ofNat n.toNat)) ByteArray.empty
def Z02 (A:List Blk)(x:AV):Option (List AV):=
 match x with
 | .d (.v (.slice none 0 0))=>some []
 | .d (.lst cs len _)=>if cs.length=len then some (cs.map .d) else none
 | .sref i ver off len sz _=>match cellsAt A i ver off with
  | some cs=>if sz=1/\len<=cs.length then some (cs.take len) else none
  | none=>none
 | _=>none
def TE (A:List Blk)(runes:Bool)(x:AV):Option AV:=
 match Z02 A x with
 | some cs=>match MX (if runes then .i32 else .u8) cs with
  | some ns=>some (.d (.v (.string (if runes then runesBytes ns else NC ns))))
  | none=>none
 | none=>none
def YQ (f:AV->Option (DV×List Nat)):List AV->Option (List DV×List Nat)
 | []=>some ([],[])
 | x::rest=>match f x,YQ f rest with
  | some (a,u),some (b,w)=>some (a::b,u++w)
  | _,_=>none
def deep (A:List Blk):Nat->AV->Option (DV×List Nat)
 | 0,_=>none
 | n+1,x=>
  match x with
  | .d x=>some (x,[])
  | .agg cs=>(YQ (deep A n) cs).map fun r=>(.agg r.1,r.2)
  | .tup cs=>(YQ (deep A n) cs).map fun r=>(.tup r.1,r.2)
  | .fn f cs=>(YQ (deep A n) cs).map fun r=>(.fn f r.1,r.2)
  | .ifc t y=>(deep A n y).map fun r=>(.ifc t r.1,r.2)
  | .ref i ver off=>
   match cellsAt A i ver off with
   | some cs=>(YQ (deep A n) cs).map fun r=>(.vptr r.1,i::r.2)
   | none=>none
  | .sref i ver off len sz k=>
   if len=0 then some (.lst [] 0 none,[]) else
   match cellsAt A i ver off with
   | some cs=>if len*sz<=cs.length then(YQ (deep A n) (cs.take (len*sz))).map fun r=>(.lst r.1 len k,i::r.2) else none
   | none=>none
  | .bot=>none
def Yj:Nat->List Nat->Bool
 | _,[]=>false
 | n,m::l=>if Nat.beq n m then true else Yj n l
def DV.flat:Nat->DV->Bool
 | 0,_=>false
 | _+1,.v _=>true
 | n+1,.agg cs | n+1,.tup cs=>cs.all (DV.flat n)
 | _+1,.lst [] 0 _=>true
 | _+1,.nel=>true
 | n+1,.ifc _ x=>DV.flat n x
 | _+1,_=>false
def DY (f:AV->List Blk->List Nat->Option (AV×List Blk×List Nat)):List AV->List Blk->List Nat->Option (List AV×List Blk×List Nat)
 | [],bs,us=>some ([],bs,us)
 | x::rest,bs,us=>match f x bs us with
  | some (y,bs,us)=>(DY f rest bs us).map fun r=>(y::r.1,r.2.1,r.2.2)
  | none=>none
def Av (A:List Blk)(nb:Nat):Nat->AV->List Blk->List Nat->Option (AV×List Blk×List Nat)
 | 0,_,_,_=>none
 | n+1,x,bs,us=>
  match x with
  | .d x=>some (.d x,bs,us)
  | .agg cs=>(DY (Av A nb n) cs bs us).map fun r=>(.agg r.1,r.2.1,r.2.2)
  | .tup cs=>(DY (Av A nb n) cs bs us).map fun r=>(.tup r.1,r.2.1,r.2.2)
  | .sref i ver off len sz k=>
   match A[i]? with
   | some (.cells cs v false)=>
    if v=ver/\Yj i us=false/\cs.all (fun x=>match x with | .d _=>true | _=>false)=true then
     some (.sref (nb+bs.length) 0 off len sz k,bs++[.cells cs 0 false],us++[i])
    else none
   | _=>none
  | _=>none
def YT (A:List Blk):List Nat->List Blk
 | []=>A
 | i::rest=>match A[i]? with
  | some (.cells cs v _)=>YT (A.set i (.cells cs v true)) rest
  | _=>YT A rest
def Ex:Nat->AV->Bool
 | 0,_=>false
 | n+1,.d x=>x.flat n
 | _+1,.sref .. =>true
 | n+1,.agg cs | n+1,.tup cs=>cs.all (Ex n)
 | _+1,_=>false
def G3 (bs:List Blk):Bool:=
 bs.all fun b=>match b with
  | .cells cs _ _=>cs.all fun x=>match x with | .d x=>x.flat 6 | _=>false
  | _=>false
def fk:Nat->DV->DV
 | 0,x=>x
 | n+1,x=>
  match x with
  | .lst cs len _=>.lst cs len none
  | .agg cs=>.agg (cs.map (fk n))
  | .tup cs=>.tup (cs.map (fk n))
  | x=>x
abbrev cT:=FuncId->List AV->List Blk->Option (AV×List Blk)
inductive Done where
 | made (x:AV) (bs:List Blk)
 | turned (x:AV) (A:List Blk)
structure Env where
  br:List FuncId
  th:List FuncId
  prim:FuncId->Option (List DV->Option (AV×List Blk))
  back:FuncId->Option (Nat×Bool)
  lives:FuncId->Nat->Option (List Nat):=fun _ _=>none
  live:Nat->Option (List Nat):=fun _=>none
  nb0:Nat:=0
def Q2:Nat->AV->List Nat
 | 0,_=>[]
 | n+1,x=>
  match x with
  | .ref i _ _=>[i]
  | .sref i _ _ _ _ _=>[i]
  | .agg cs=>cs.flatMap (Q2 n)
  | .tup cs=>cs.flatMap (Q2 n)
  | .fn _ cs=>cs.flatMap (Q2 n)
  | .ifc _ y=>Q2 n y
  | .d _=>[]
  | .bot=>[]
def Dx:Option Blk->List Nat
 | some (.cells cs _ _)=>cs.flatMap (Q2 8)
 | _=>[]
def QD (A:List Blk)(n0:Nat):Nat->List Nat->List Nat->List Nat
 | 0,_,seen=>seen
 | _+1,[],seen=>seen
 | k+1,i::todo,seen=>bif Nat.blt i n0 || Yj i seen || !Nat.blt i A.length then QD A n0 k todo seen else QD A n0 k (todo++Dx A[i]?) (seen++[i])
def QY:List Nat->Nat->Option Nat
 | [],_=>none
 | j::l,i=>bif Nat.beq j i then some 0 else(QY l i).map (·+1)
def QZ (A:List Blk)(i:Nat):Option Nat:=
 match A[i]? with
 | some (.cells _ v _)=>some v
 | some (.iter _ _)=>some 0
 | _=>none
def spot (A:List Blk)(n0:Nat)(ids:List Nat)(i v:Nat):Option (Nat×Nat):=
 bif Nat.blt i n0 then some (i,v) else match QZ A i,QY ids i with
  | some v',some m=>bif Nat.beq v' v then some (n0+m,0) else none
  | _,_=>none
def Yz (A:List Blk)(n0:Nat)(ids:List Nat):Nat->AV->AV
 | 0,_=>.bot
 | n+1,x=>
  match x with
  | .d y=>.d y
  | .agg cs=>.agg (cs.map (Yz A n0 ids n))
  | .tup cs=>.tup (cs.map (Yz A n0 ids n))
  | .ref i v o=>match spot A n0 ids i v with
   | some p=>.ref p.1 p.2 o
   | none=>.bot
  | .sref i v o len sz k=>match spot A n0 ids i v with
   | some p=>.sref p.1 p.2 o len sz k
   | none=>.bot
  | .fn f cs=>.fn f (cs.map (Yz A n0 ids n))
  | .ifc t y=>.ifc t (Yz A n0 ids n y)
  | .bot=>.bot
def BJ (A:List Blk)(n0:Nat)(ids:List Nat)(keep:Bool):Blk->Blk
 | .cells cs v ro=>.cells (cs.map (Yz A n0 ids 8)) (bif keep then v else 0) ro
 | b=>b
def Yq (A:List Blk)(n0:Nat)(ids:List Nat):List Blk:=
 (A.take n0).map (BJ A n0 ids true)++ids.map fun i=>BJ A n0 ids false (A.getD i .free)
def HD (f:AV->AV):Nat->List Nat->List AV->List AV
 | _,_,[]=>[]
 | k,[],_::tm=>.bot::HD f (k+1) [] tm
 | k,l::ls,x::tm=>bif Nat.beq k l then f x::HD f (k+1) ls tm else .bot::HD f (k+1) (l::ls) tm
def SN (n0:Nat)(live:List Nat)(tm:List AV)(A:List Blk):List Nat:=
 live.flatMap (fun t=>Q2 8 (Y6 tm t))++(A.take n0).flatMap fun b=>Dx (some b)
def VS (n0:Nat)(live:List Nat)(k:List AV->List Blk->Option (AV×List Blk))(tm:List AV)(A:List Blk)(ids:List Nat):Option (AV×List Blk):=
 k (HD (Yz A n0 ids 8) 0 live tm) (Yq A n0 ids)
def D2 (E:Env)(key:Nat)(k:List AV->List Blk->Option (AV×List Blk)):List AV->List Blk->Option (AV×List Blk):=fun tm A=>
 match E.live key with
 | none=>k tm A
 | some live=>VS E.nb0 live k tm A (QD A E.nb0 100000 (SN E.nb0 live tm A) [])
def DE (n0:Nat):Option (AV×List Blk)->Option (AV×List Blk)
 | some (x,A)=>some (Yz A n0 (QD A n0 100000 (Q2 8 x++(A.take n0).flatMap fun b=>Dx (some b)) []) 8 x,Yq A n0 (QD A n0 100000 (Q2 8 x++(A.take n0).flatMap fun b=>Dx (some b)) []))
 | none=>none
def B5:List Nat->Bool
 | []=>true
 | _=>false
def DS (A:List Blk)(used:List Nat):Option (AV×List Blk×List Nat)->Option Done
 | some (x,bs,_)=>bif B5 used || (Ex 8 x&&G3 bs) then some (.made x bs) else some (.turned x (YT A used++bs))
 | none=>none
def HY (A:List Blk)(used:List Nat):Option (DV×List Nat)->Option Done
 | some (r,_)=>bif B5 used || r.flat 8 then some (.made (.d (fk 4 r)) []) else some (.turned (.d (fk 4 r)) (YT A used))
 | none=>none
def JN (E:Env)(call:cT)(f:FuncId)(ds:List DV):Option (AV×List Blk):=
 match E.prim f with
 | some g=>g ds
 | none=>call f (ds.map .d) []
def HK:Option (List Nat)->Bool
 | some _=>true
 | none=>false
def Mk (E:Env)(f:FuncId):Bool:=Yj f E.th || HK (E.live (1000000+f))
def HU (E:Env)(f:FuncId)(A:List Blk)(nb:Nat)(used:List Nat):Option (AV×List Blk)->Option Done
 | some (x,Ac)=>bif Mk E f then DS A used (Av Ac nb 6 x [] []) else HY A used (deep Ac 8 x)
 | none=>none
def PB (E:Env)(call:cT)(f:FuncId)(A:List Blk)(nb:Nat):Option (List DV×List Nat)->Option Done
 | some (ds,used)=>HU E f A nb used (JN E call f (ds.map (fk 4)))
 | none=>none
def J2 (ids vs:List Nat)(nb:Nat):Nat->AV->AV
 | 0,_=>.bot
 | n+1,x=>
  match x with
  | .d y=>.d y
  | .agg cs=>.agg (cs.map (J2 ids vs nb n))
  | .tup cs=>.tup (cs.map (J2 ids vs nb n))
  | .ref m v o=>match ids[m]? with
   | some i=>.ref i (vs.getD m 0+v) o
   | none=>.ref (nb+(m-ids.length)) v o
  | .sref m v o len sz k=>match ids[m]? with
   | some i=>.sref i (vs.getD m 0+v) o len sz k
   | none=>.sref (nb+(m-ids.length)) v o len sz k
  | .fn f cs=>.fn f (cs.map (J2 ids vs nb n))
  | .ifc t y=>.ifc t (J2 ids vs nb n y)
  | .bot=>.bot
def B4 (ids vs:List Nat)(nb dv:Nat):Blk->Blk
 | .cells cs v ro=>.cells (cs.map (J2 ids vs nb 8)) (dv+v) ro
 | b=>b
def YF (A:List Blk)(ids:List Nat):List Nat:=ids.map fun i=>(QZ A i).getD 0
def CK (ids vs:List Nat)(nb:Nat):List Blk->List Nat->List Nat->List Blk->List Blk
 | A,i::is,v::us,b::bs=>CK ids vs nb (A.set i (B4 ids vs nb v b)) is us bs
 | A,_,_,_=>A
def FR:List Nat->List Blk->Bool
 | v::vs,b::bs=>(match b with
  | .cells _ _ _=>true
  | _=>Nat.beq v 0)&&FR vs bs
 | _,_=>true
def G8 (A:List Blk)(ids vs:List Nat):Option (AV×List Blk)->Option Done
 | some (x,B)=>bif Nat.ble ids.length B.length&&FR vs B then some (.turned (J2 ids vs A.length 8 x) (CK ids vs A.length A ids vs B++(B.drop ids.length).map (B4 ids vs A.length 0))) else none
 | none=>none
def G7 (call:cT)(f:FuncId)(args:List AV)(A:List Blk)(ids:List Nat):Option Done:=
 G8 A ids (YF A ids) (call f (args.map (Yz A 0 ids 8)) (Yq A 0 ids))
def FQ (E:Env)(call:cT)(f:FuncId)(args:List AV)(A:List Blk)(nb:Nat):Option Done:=
 bif Yj f E.br then G7 call f args A (QD A 0 100000 (args.flatMap (Q2 8)) []) else PB E call f A nb (YQ (deep A 8) args)
abbrev ZU:=Env->cT->List AV->List Blk->Nat->Option Done
def one? :Option AV->Option Done
 | some x=>some (.made x [])
 | none=>none
def oV (x:Opd):ZU:=fun _ _ tm _ _=>some (.made (look tm x) [])
def SZ (tm:List AV)(a b:Opd):AV->Option Done
 | .d (.v (.bool true))=>some (.made (look tm a) [])
 | .d (.v (.bool false))=>some (.made (look tm b) [])
 | _=>none
def YA (c a b:Opd):ZU:=fun _ _ tm _ _=>SZ tm a b (look tm c)
def Uk:Option (List AV)->Option Done
 | some cs=>some (.made (.agg cs) [])
 | none=>none
def YC (zero:List AV)(parts:List (Nat×Nat×Opd)):ZU:=fun _ _ tm _ _=>Uk (BA tm zero parts)
def oA (x:Opd)(off:Nat):ZU:=fun _ _ tm _ _=>one? (GG (look tm x) off)
def ET (x:Opd)(off:Nat)(ag:Bool)(n:Nat):ZU:=fun _ _ tm _ _=>one? (HT (look tm x) off ag n)
def D1 (x ix:Opd)(len s:Nat):ZU:=fun _ _ tm _ _=>one? (TJ (look tm x) (look tm ix) len s)
def Fz (x ix:Opd)(s:Nat):ZU:=fun _ _ tm _ _=>one? (EY (look tm x) (look tm ix) s)
def Z0d (x ix:Opd)(len s:Nat)(ag:Bool)(n:Nat):ZU:=fun _ _ tm _ _=>one? (Wv (look tm x) (look tm ix) len s ag n)
def Z0e (x ix:Opd):ZU:=fun _ _ tm _ _=>one? (Z1u (look tm x) (look tm ix))
def VF (x:Opd)(i:Nat):ZU:=fun _ _ tm _ _=>one? (TK (look tm x) i)
def Q6 (op:UnOp)(x:Opd):ZU:=fun _ _ tm _ _=>one? (Wx op (look tm x))
def oB (op:BinOp)(x y:Opd):ZU:=fun _ _ tm _ _=>one? (Qz op (look tm x) (look tm y))
def N5 (neg:Bool):Option Bool->Option Done
 | some b=>some (.made (YD (if neg then !b else b)) [])
 | none=>none
def Dw (neg:Bool)(sh:Sh)(x y:Opd):ZU:=fun _ _ tm _ _=>N5 neg (GX sh (look tm x) (look tm y))
def WG (k:IntKind):AV->Option Done
 | .d (.v (.int _ n))=>some (.made (.d (.v (.int k (k.wrap n)))) [])
 | _=>none
def GM (k:IntKind)(x:Opd):ZU:=fun _ _ tm _ _=>WG k (look tm x)
def Zbz:AV->Option Done
 | .d (.v (.int _ n))=>some (.made (.d (.v (.string (Utf8.encode n)))) [])
 | .d (.v (.string s))=>some (.made (.d (.v (.string s))) [])
 | _=>none
def T6 (x:Opd):ZU:=fun _ _ tm _ _=>Zbz (look tm x)
def QT (x:Opd):ZU:=fun _ _ tm _ _=>one? (TG (look tm x))
def VD (t:TypeId)(x:Opd):ZU:=fun _ _ tm _ _=>some (.made (.ifc t (look tm x)) [])
def NY (f:Fn)(cap:List Opd):ZU:=fun _ _ tm _ _=>some (.made (.fn f (cap.map (look tm))) [])
def Z5z (x:Opd)(t:TypeId)(zero:DV)(ok:Bool):ZU:=fun _ _ tm _ _=>one? (Zbe (look tm x) t zero ok)
def CZ (x:Opd)(lo hi mx:Option Opd)(s:Nat):ZU:=fun _ _ tm _ _=>one? (HR tm (look tm x) lo hi mx s)
def Z0a (x:Opd)(lo hi:Option Opd):ZU:=fun _ _ tm _ _=>one? (Wz tm (look tm x) lo hi)
def Z0b (x:Opd)(lo hi mx:Option Opd)(n s:Nat):ZU:=fun _ _ tm A _=>one? (Z1t A tm (look tm x) lo hi mx n s)
def JZ (x:Opd):ZU:=fun _ _ tm _ _=>one? (RV (look tm x))
def W3:AV->Option Done
 | .d (.v (.string s))=>some (.made (aI s.size) [])
 | _=>none
def VE (x:Opd):ZU:=fun _ _ tm _ _=>W3 (look tm x)
def Z0c (n:Nat):ZU:=fun _ _ _ _ _=>some (.made (aI n) [])
def Bx (mx:Bool)(xs:List Opd):ZU:=fun _ _ tm _ _=>one? (RU mx (xs.map (look tm)))
def oL (x:Opd)(ag:Bool)(n:Nat):ZU:=fun _ _ tm A _=>one? (FP A (look tm x) ag n)
def F7:Option (List Blk)->Option Done
 | some A=>some (.turned JX A)
 | none=>none
def oS (a x:Opd)(n:Nat):ZU:=fun _ _ tm A _=>F7 (GW A (look tm a) (look tm x) n)
def TM (A:List Blk)(z:List AV)(x:AV):Option (List Blk):=
 match x with
 | .sref i ver off len sz _=>if sz=z.length/\len≠0 then GW A (.ref i ver off) (.agg (rep z len)) (len*sz) else none
 | _=>none
def RD (z:List AV)(x:Opd):ZU:=fun _ _ tm A _=>F7 (TM A z (look tm x))
def ZQ (zero:List AV):ZU:=fun _ _ _ _ nb=>some (.made (.ref nb 0 0) [.cells zero 0 false])
def U7 (nb:Nat)(x:AV):Option Done:=bif x.isBot then none else some (.made (.ref nb 0 0) [.cells x.cells 0 false])
def Zv (x:Opd):ZU:=fun _ _ tm _ nb=>U7 nb (look tm x)
def P8 (len s nb:Nat):Option (List AV)->Option Done
 | some cs=>some (.made (.sref nb 0 0 len s (some len)) [.cells cs 0 false])
 | none=>none
def Ez:List AV->Option (List DV)
 | []=>some []
 | .d x::l=>(Ez l).map (x:: ·)
 | _=>none
def P7 (len s nb:Nat)(cs:List AV):Option (List DV)->Option Done
 | some ds=>some (.made (.d (.lst ds len (some len))) [])
 | none=>P8 len s nb (some cs)
def Kv (w:Bool)(len s nb:Nat)(o:Option (List AV)):Option Done:=
 match w with
 | false=>P8 len s nb o
 | true=>match o with
  | some cs=>P7 len s nb cs (Ez cs)
  | none=>none
def YE (cells:List AV)(len s:Nat)(parts:List (Nat×Nat×Opd)):ZU:=fun E _ tm _ nb=>Kv (Mk E 1000000) len s nb (BA tm cells parts)
def W0 (zero:List AV)(s bytes nb:Nat):AV->AV->Option Done
 | .d (.v (.int _ l)),.d (.v (.int _ c))=>
  if 0<=l/\l<=c/\bytes*c<=Z5/\c<=Z5 then some (.made (.sref nb 0 0 l.toNat s (some c.toNat)) [.cells (rep zero c.toNat) 0 false]) else none
 | _,_=>none
def NX (zero:List AV)(s bytes:Nat)(l c:Opd):ZU:=fun _ _ tm _ nb=>W0 zero s bytes nb (look tm l) (look tm c)
def MF (runes:Bool)(x:Opd):ZU:=fun _ _ tm A _=>one? (TE A runes (look tm x))
def F4 (A:List Blk)(nb s:Nat)(base:AV):Option App->Option Done
 | some .same=>some (.made base [])
 | some (.fresh cs len)=>some (.made (.sref nb 0 0 len s none) [.cells cs 0 false])
 | some (.turn i b x)=>some (.turned x (A.set i b))
 | none=>none
def U9 (A:List Blk)(nb s bytes:Nat)(base:AV):Option (List AV×Nat)->Option Done
 | some (new,n)=>F4 A nb s base (Q7 A s bytes base new n)
 | none=>none
def YV (str:Bool)(s bytes:Nat)(base x:Opd):ZU:=fun _ _ tm A nb=>U9 A nb s bytes (look tm base) (Ek A str s (look tm x))
def VB:ZU:=fun _ _ _ _ _=>none
def Z58 (nb:Nat):AV->Option Done
 | .d (.v (.string s))=>some (.made (.ref nb 0 0) [.iter s 0])
 | _=>none
def VA (x:Opd):ZU:=fun _ _ tm _ nb=>Z58 nb (look tm x)
def Z6e (A:List Blk)(i:Nat)(s:ByteArray)(p:Nat):Option Done:=
 bif Nat.blt p s.size then some (.turned (.d (.tup [.v (.bool true),.v (.int .i64 (p:Int)),.v (.int .i32 ((Utf8.decode s p).1:Int))])) (A.set i (.iter s (p+(Utf8.decode s p).2)))) else some (.made (.d (.tup [.v (.bool false)])) [])
def Z6d (A:List Blk)(i ver off:Nat):Option Blk->Option Done
 | some (.iter s p)=>bif Nat.beq ver 0&&Nat.beq off 0 then Z6e A i s p else none
 | _=>none
def Z6f (A:List Blk):AV->Option Done
 | .ref i ver off=>Z6d A i ver off A[i]?
 | _=>none
def VC (x:Opd):ZU:=fun _ _ tm A _=>Z6f A (look tm x)
def UE (v:Nat):Option Nat->Bool
 | some w=>Nat.beq w v
 | none=>false
def Z5d (A:List Blk)(i v o j u p:Nat):Option Bool:=
 bif Nat.beq i j&&Nat.beq v u&&Nat.beq o p&&UE v (QZ A i) then some true else none
def Z06 (A:List Blk):AV->AV->Option Bool
 | .ref i v o,.ref j u p=>Z5d A i v o j u p
 | .d (.v (.pointer none)),.d (.v (.pointer none))=>some true
 | .ref ..,.d (.v (.pointer none))=>some false
 | .d (.vptr _),.d (.v (.pointer none))=>some false
 | _,_=>none
def Kz (neg:Bool)(x y:Opd):ZU:=fun _ _ tm A _=>N5 neg (Z06 A (look tm x) (look tm y))
inductive Xt where
 | esc | ixb | cnt
 deriving DecidableEq
def Zba:List AV->Option AV
 | [x]=>some x
 | _=>none
def Zb9:List AV->Option AV
 | [.d (.v (.string s)),.d (.v (.int .u8 c))]=>some (match(List.range s.size).find? fun i=>s[i]! ==c.toNat.toUInt8 with
  | some i=>aI i
  | none=>aI (-1))
 | _=>none
def Zbb:List AV->Option AV
 | [.d (.v (.string s)),.d (.v (.int .u8 c))]=>some (aI (s.foldl (fun n x=>if x==c.toNat.toUInt8 then n+1 else n) ((0:Nat):Int)))
 | _=>none
def Wq:Xt->List AV->Option AV
 | .esc=>Zba
 | .ixb=>Zb9
 | .cnt=>Zbb
def Z5y (k:Xt)(xs:List Opd):ZU:=fun _ _ tm _ _=>one? (Wq k (xs.map (look tm)))
def target (args:List AV):AV->Option (FuncId×List AV)
 | .fn (.func g) cap=>some (g,args++cap)
 | .d (.fn (.func g) cap)=>some (g,args++cap.map .d)
 | _=>none
def K2 (E:Env)(call:cT)(A:List Blk)(nb:Nat):Option (FuncId×List AV)->Option Done
 | some (g,args)=>FQ E call g args A nb
 | none=>none
def oK (f:Opd)(args:List Opd):ZU:=fun E call tm A nb=>K2 E call A nb (target (args.map (look tm)) (look tm f))
abbrev F6:=Option (AV×List Blk)
abbrev K:=List AV->List Blk->F6
def QF (tm:List AV)(dst:Option Nat)(x:AV):List AV:=
 match dst with
 | some t=>CV tm t x
 | none=>tm
def NM (b:Bool):AV->Option Bool
 | .d (.v (.bool c))=>some (c==b)
 | .d (.tup [])=>some false
 | _=>none
def Dj (tm:List AV):Option (Nat×Bool)->Option Bool
 | none=>some true
 | some (t,b)=>NM b (Y6 tm t)
structure Stp where
 dst:Option Nat
 guard:Option (Nat×Bool)
 op:ZU
def Uj (A:List Blk):List Blk->List Blk
 | []=>A
 | bs=>A++bs
theorem Zsx (A bs:List Blk):Uj A bs=A++bs:=by
 cases bs with
 | nil=>simp[Uj]
 | cons b bs=>rfl
def FN (dst:Option Nat)(k:K)(tm:List AV)(A:List Blk):Option Done->F6
 | some (.made x bs)=>k (QF tm dst x) (Uj A bs)
 | some (.turned x A)=>k (QF tm dst x) A
 | none=>none
def GC (E:Env)(call:cT)(s:Stp)(k:K)(tm:List AV)(A:List Blk):Option Bool->F6
 | some true=>FN s.dst k tm A (s.op E call tm A A.length)
 | some false=>k (QF tm s.dst JX) A
 | none=>none
def EN (E:Env)(call:cT):List Stp->K->K
 | [],k=>k
 | s::l,k=>fun tm A=>GC E call s (EN E call l k) tm A (Dj tm s.guard)
inductive Fl where
 | any | mk | pure | tn
 deriving DecidableEq
def FM (fg:Fl)(dst:Option Nat)(k:K)(tm:List AV)(A:List Blk):Option Done->F6
 | some (.made x [])=>k (QF tm dst x) A
 | some (.made x (b::bs))=>match fg with
  | .pure=>none
  | _=>k (QF tm dst x) (A++b::bs)
 | some (.turned x A1)=>match fg with
  | .any=>bif Nat.ble A.length A1.length then k (QF tm dst x) A1 else none
  | .tn=>bif Nat.ble A.length A1.length then k (QF tm dst x) A1 else none
  | _=>none
 | none=>none
def Mz (E:Env)(call:cT)(fg:Fl)(s:Stp)(k:K)(tm:List AV)(A:List Blk):Option Bool->F6
 | some true=>FM fg s.dst k tm A (s.op E call tm A A.length)
 | some false=>k (QF tm s.dst JX) A
 | none=>none
def HX (E:Env)(call:cT):List (Fl×Stp)->K->K
 | [],k=>k
 | s::l,k=>fun tm A=>Mz E call s.1 s.2 (HX E call l k) tm A (Dj tm s.2.guard)
def Fk:Nat->AV->AV->Bool
 | 0,_,_=>false
 | n+1,x,y=>
  match x,y with
  | .d (.v (.int k a)),.d (.v (.int k' b))=>decide (k=k')&&decide (a=b)
  | .d (.v (.bool a)),.d (.v (.bool b))=>a==b
  | .d (.v (.string a)),.d (.v (.string b))=>decide (a.data=b.data)
  | .d (.tup []),.d (.tup [])=>true
  | .d (.lst cs a none),.d (.lst ds b none)=>sameL (fun x y=>Fk n (.d x) (.d y)) cs ds&&Nat.beq a b
  | .d (.lst cs a (some c)),.d (.lst ds b (some e))=>sameL (fun x y=>Fk n (.d x) (.d y)) cs ds&&(Nat.beq a b&&Nat.beq c e)
  | .d (.agg cs),.d (.agg ds)=>sameL (fun x y=>Fk n (.d x) (.d y)) cs ds
  | .agg cs,.agg ds=>sameL (Fk n) cs ds
  | .ref i v o,.ref j u p=>Nat.beq i j&&Nat.beq v u&&Nat.beq o p
  | .bot,.bot=>true
  | _,_=>false
where
 sameL {α:Type} (f:α->α->Bool):List α->List α->Bool
  | [],[]=>true
  | x::l,y::m=>f x y&&sameL f l m
  | _,_=>false
def Dk:Option Blk->Option Blk->Bool
 | some (.cells cs v r),some (.cells ds u q)=>Fk.sameL (Fk 8) cs ds&&Nat.beq v u&&(r==q)
 | none,_=>true
 | _,_=>false
def FH (A A1:List Blk):AV->Bool
 | .ref i _ _=>Dk A[i]? A1[i]?
 | _=>true
def Z1e (ls:List (Nat×Opd))(d:Nat)(A A1:List Blk)(k:K):K:=fun tm B=>bif ls.all (fun p=> !Nat.beq p.1 d || FH A A1 (look tm p.2)) then k tm B else none
def N8 (E:Env)(call:cT)(ls:List (Nat×Opd)):Nat->List (Fl×Stp)->K->K
 | _,[],k=>k
 | d,s::l,k=>fun tm A=>Mz E call s.1 s.2 (fun tm1 A1=>N8 E call ls (d+1) l (Z1e ls d A A1 k) tm1 A1) tm A (Dj tm s.2.guard)
def Hq:AV->AV->Bool
 | .ref i _ _,.ref j _ _=> !Nat.beq i j
 | _,_=>true
def Dq (tm:List AV):List (Opd×Opd)->Bool
 | []=>true
 | p::l=>Hq (look tm p.1) (look tm p.2)&&Dq tm l
def HW (ps:List (Opd×Opd))(k:K):K:=fun tm A=>bif Dq tm ps then k tm A else none
abbrev CT:=Env->cT->K->(Nat->K)->K->K
def cK:CT:=fun _ _ kn _ _=>kn
def Z1 (l:List Stp):CT:=fun E call kn _ _=>EN E call l kn
def Yv (l:List (Fl×Stp))(ps:List (Opd×Opd)):CT:=fun E call kn _ _=>HX E call l (HW ps kn)
def Zsc (l:List (Fl×Stp))(ps:List (Opd×Opd))(ls:List (Nat×Opd)):CT:=fun E call kn _ _=>N8 E call ls 0 l (HW ps kn)
def cQ (a b:CT):CT:=fun E call kn kx kr=>a E call (b E call kn kx kr) kx kr
def S7 (a b:F6):AV->F6
 | .d (.v (.bool true))=>a
 | .d (.v (.bool false))=>b
 | _=>none
def cJ (key:Nat)(c:Opd)(a b:CT):CT:=fun E call kn kx kr tm A=>S7 (a E call (D2 E key kn) kx kr tm A) (b E call (D2 E key kn) kx kr tm A) (look tm c)
def H4 (id:Nat)(kn:K)(kx:Nat->K):Nat->K:=fun i=>bif Nat.beq i id then kn else kx i
def ZS (id:Nat)(c:CT):CT:=fun E call kn kx kr=>c E call kn (H4 id kn kx) kr
def Zj (key:Nat)(c:CT)(E:Env)(call:cT)(kx:Nat->K)(kr:K):Nat->K
 | 0=>fun _ _=>none
 | n+1=>D2 E key (c E call (Zj key c E call kx kr n) kx kr)
def QW (key:Nat)(c:CT):CT:=fun E call _ kx kr=>Zj key c E call kx kr 1000000000000000000000000000000
def QJ (id:Nat):CT:=fun _ _ _ kx _=>kx id
def cZ:CT:=fun _ _ _ _ kr=>kr
def Hz (tm:List AV):List Nat->List AV->List AV
 | p::ps,x::xs=>Hz (CV tm p x) ps xs
 | _,_=>tm
def D6 (cs:List DV)(s:Nat)(ag:Bool):Nat->Option (List (List AV))
 | 0=>some []
 | i+1=>match C2 ag s (cs.drop (i*s)),D6 cs s ag i with
  | some x,some r=>some ([aI i,.d x]::r)
  | _,_=>none
def Rx (E:Env):AV->Option (List (List AV))
 | .d (.fn (.func g) [.vptr (.lst cs len _::_)])=>match E.back g with
  | some (s,ag)=>if cs.length=len*s/\len<=Z5/\s≠0/\(ag=false->s=1) then D6 cs s ag len else none
  | none=>none
 | _=>none
def Kj (asg body:CT)(ps:List Nat)(E:Env)(call:cT)(kn:K)(kx:Nat->K)(kr:K)(tm:List AV):List (List AV)->List Blk->F6
 | [],A=>kn tm A
 | e::es,A=>asg { E with nb0:=A.length } call (fun tm1 A1=>body { E with nb0:=A1.length } call (fun _ A2=>Kj asg body ps E call kn kx kr tm es A2) (fun id _ A2=>kx id tm A2) (fun _ A2=>kr tm A2) tm1 A1) (fun _ _ _=>none) (fun _ _=>none) (Hz tm ps e) A
def ST (asg body:CT)(ps:List Nat)(E:Env)(call:cT)(kn:K)(kx:Nat->K)(kr:K)(tm:List AV)(A:List Blk):Option (List (List AV))->F6
 | some es=>Kj asg body ps E call kn kx kr tm es A
 | none=>none
def S4 (f:Opd)(ps:List Nat)(asg body:CT):CT:=fun E call kn kx kr tm A=>ST asg body ps E call kn kx kr tm A (Rx E (look tm f))
inductive IRes where
 | tmp (t:Nat)
 | cell (a:Nat) (ag:Bool) (n:Nat)
def TF (tm:List AV)(A:List Blk):IRes->Option AV
 | .tmp t=>some (Y6 tm t)
 | .cell a ag n=>FP A (Y6 tm a) ag n
def BQ (tm:List AV)(A:List Blk):List IRes->Option (List AV)
 | []=>some []
 | r::l=>match TF tm A r,BQ tm A l with
  | some x,some l=>some (x::l)
  | _,_=>none
def Kx (A:List Blk):Option (List AV)->F6
 | some [x]=>some (x,A)
 | some xs=>some (.tup xs,A)
 | none=>none
def ZX (n0:Nat)(rs:List IRes):K:=fun tm A=>DE n0 (Kx A (BQ tm A rs))
def H7:Nat->List AV
 | 0=>[]
 | n+1=>JX::H7 n
def ZJ (ntmps:Nat)(rs:List IRes)(c:CT):Env->cT->cT:=fun E call f args A=>
 c { E with live:=E.lives f,nb0:=A.length } call (ZX A.length rs) (fun _ _ _=>none) (ZX A.length rs) (args++H7 (ntmps-args.length)) A
def KU (E:Env)(call:cT)(f:FuncId)(args:List AV)(A:List Blk):Option (Env->cT->cT)->F6
 | some F=>F E call f args A
 | none=>none
def Z4 (E:Env)(fn:FuncId->Option (Env->cT->cT)):Nat->cT
 | 0=>fun _ _ _=>none
 | n+1=>fun f args A=>KU E (Z4 E fn n) f args A (fn f)
end Go.Aug
