import Derived.Calls
import Derived.Laws.Sem
import Derived.Laws.Cover4
import GoSem.Core.Utf8
namespace Go.Aug
open Go
inductive DV where
 | v (x:Value)
 | agg (cs:List DV)
 | tup (vs:List DV)
 | lst (cs:List DV) (len:Nat) (k:Option Nat)
 | vptr (cs:List DV)
 | fn (f:Fn) (cap:List DV)
 | ifc (t:TypeId) (x:DV)
 | nel
 deriving Inhabited
inductive AV where
 | d (x:DV)
 | agg (cs:List AV)
 | tup (vs:List AV)
 | ref (i ver off:Nat)
 | sref (i ver off len sz:Nat) (k:Option Nat)
 | fn (f:Fn) (cap:List AV)
 | ifc (t:TypeId) (x:AV)
 | bot
 deriving Inhabited
inductive Blk where
 | cells (cs:List AV) (ver:Nat) (ro:Bool)
 | iter (s:ByteArray) (pos:Nat)
 | free
 deriving Inhabited
def AV.cells:AV->List AV
 | .agg cs=>cs
 | .d (.agg cs)=>cs.map .d
 | x=>[x]
def AV.isBot:AV->Bool
 | .bot=>true
 | _=>false
def AV.one:AV->Bool
 | .bot=>false
 | .agg _ | .tup _ | .d (.agg _) | .d (.tup _)=>false
 | .d (.v (.agg _)) | .d (.v (.tuple _))=>false
 | _=>true
abbrev Z26:AV:=.d (.tup [])
abbrev Y3z:AV:=.d (.v (.slice none 0 0))
abbrev aI (n:Int):AV:=.d (.v (.int .i64 n))
abbrev Q7 (b:Bool):AV:=.d (.v (.bool b))
def Z0r:List AV->Nat->AV
 | [],_=>Z26
 | x::_,0=>x
 | _::l,n+1=>Z0r l n
def Zip:List AV->Nat->AV->List AV
 | [],_,_=>[]
 | _::l,0,y=>y::l
 | x::l,n+1,y=>x::Zip l n y
inductive Opd where
 | t (n:Nat)
 | c (x:DV)
 | f (id:FuncId)
 deriving Inhabited
def look (tm:List AV):Opd->AV
 | .t n=>Z0r tm n
 | .c x=>.d x
 | .f id=>.fn (.func id) []
inductive Lf where
 | bool | int | str
 deriving Inhabited,DecidableEq
inductive Sh where
 | leaf (f:Lf)
 | iface | slice
 | flds (n:Nat) (l:List (Nat×Lf))
 deriving Inhabited
def Z63:AV->Nat->Option AV
 | .d (.vptr cs),n=>if n<=cs.length then some (.d (.vptr (cs.drop n))) else none
 | .ref i ver o,n=>some (.ref i ver (o+n))
 | _,_=>none
def splice {α:Type}(cells:List α)(off:Nat)(cs:List α):List α:=
 cells.take off++cs++cells.drop (off+cs.length)
def Z3u (tm cells:List AV):List (Nat×Nat×Opd)->Option (List AV)
 | []=>some cells
 | (off,size,x)::rest=>
  let cs:=(look tm x).cells
  if(look tm x).isBot=false/\cs.length=size/\off+size<=cells.length then Z3u tm (splice cells off cs) rest else none
def Jw (ag:Bool)(n:Nat)(cs:List AV):Option AV:=
 if ag then(if n<=cs.length then some (.agg (cs.take n)) else none) else cs.head?
def Qt (ag:Bool)(n:Nat)(cs:List DV):Option DV:=
 if ag then(if n<=cs.length then some (.agg (cs.take n)) else none) else cs.head?
def Z7i (x:AV)(off:Nat)(ag:Bool)(n:Nat):Option AV:=
 match x with
 | .agg cs=>if off+n<=cs.length then Jw ag n (cs.drop off) else none
 | .d (.agg cs)=>if off+n<=cs.length then(Qt ag n (cs.drop off)).map .d else none
 | _=>none
def Ztk (x ix:AV)(len s:Nat):Option AV:=
 match ix with
 | .d (.v (.int _ i))=>if 0<=i/\i<len then Z63 x (i.toNat*s) else none
 | _=>none
def Z93 (x ix:AV)(s:Nat):Option AV:=
 match ix with
 | .d (.v (.int _ i))=>
  match x with
  | .d (.lst cs len _)=>if 0<=i/\i<len/\i.toNat*s<=cs.length then some (.d (.vptr (cs.drop (i.toNat*s)))) else none
  | .sref b ver off len sz _=>if 0<=i/\i<len/\sz=s then some (.ref b ver (off+i.toNat*s)) else none
  | _=>none
 | _=>none
def Zw1 (x ix:AV)(len s:Nat)(ag:Bool)(n:Nat):Option AV:=
 match ix with
 | .d (.v (.int _ i))=>if 0<=i/\i<len then Z7i x (i.toNat*s) ag n else none
 | _=>none
def Zze (x ix:AV):Option AV:=
 match x,ix with
 | .d (.v (.string s)),.d (.v (.int _ i))=>if 0<=i then(s[i.toNat]?).map fun b=>.d (.v (.int .u8 b.toNat)) else none
 | _,_=>none
def Ztn (x:AV)(i:Nat):Option AV:=
 match x with
 | .tup vs=>vs[i]?
 | .d (.tup vs)=>(vs[i]?).map .d
 | _=>none
def Y3r (op:UnOp)(x:AV):Option AV:=
 match op,x with
 | .not,.d (.v (.bool b))=>some (Q7 !b)
 | .neg,.d (.v (.int k n))=>some (.d (.v (.int k (k.wrap (0-n)))))
 | _,_=>none
def Z94 (op:BinOp)(k:IntKind)(x y:Int):Option Value:=
 match op with
 | .add=>some (.int k (k.wrap (x+y)))
 | .sub=>some (.int k (k.wrap (x-y)))
 | .mul=>some (.int k (k.wrap (x*y)))
 | .quo=>if y=0 then none else some (.int k (k.wrap (x.tdiv y)))
 | .rem=>if y=0 then none else some (.int k (x.tmod y))
 | .and=>some (.int k (k.wrap (BitVec.ofInt k.bits x&&&BitVec.ofInt k.bits y).toNat))
 | .or=>some (.int k (k.wrap (BitVec.ofInt k.bits x ||| BitVec.ofInt k.bits y).toNat))
 | .xor=>some (.int k (k.wrap (BitVec.ofInt k.bits x^^^BitVec.ofInt k.bits y).toNat))
 | .andNot=>some (.int k (k.wrap (BitVec.ofInt k.bits x&&& ~~~BitVec.ofInt k.bits y).toNat))
 | .eql=>some (.bool (x==y))
 | .neq=>some (.bool (x !=y))
 | .lss=>some (.bool (x<y))
 | .leq=>some (.bool (x<=y))
 | .gtr=>some (.bool (x>y))
 | .geq=>some (.bool (x>=y))
 | _=>none
def Z4a (shl:Bool)(k:IntKind)(x y:Int):Option Value:=
 if y<0 then none else
 if shl then some (.int k (k.wrap (x*2^(min y.toNat k.bits)))) else some (.int k (x.fdiv (2^(min y.toNat k.bits))))
def Zl4 (op:BinOp)(x y:ByteArray):Option Value:=
 match op with
 | .add=>if x.size+y.size<=1099511627776 then some (.string (x++y)) else none
 | .eql=>some (.bool (x.toList==y.toList))
 | .neq=>some (.bool !(x.toList==y.toList))
 | .lss=>some (.bool (Op.bytesLess x.toList y.toList))
 | .leq=>some (.bool (Op.bytesLess x.toList y.toList || x.toList==y.toList))
 | .gtr=>some (.bool !(Op.bytesLess x.toList y.toList || x.toList==y.toList))
 | .geq=>some (.bool !(Op.bytesLess x.toList y.toList))
 | _=>none
def Ji (op:BinOp)(x y:AV):Option AV:=
 match x,y with
 | .d (.v (.int k a)),.d (.v (.int k' b))=>
  match op with
  | .shl=>(Z4a true k a b).map fun r=>.d (.v r)
  | .shr=>(Z4a false k a b).map fun r=>.d (.v r)
  | op=>if k=k' then(Z94 op k a b).map fun r=>.d (.v r) else none
 | .d (.v (.string a)),.d (.v (.string b))=>(Zl4 op a b).map fun r=>.d (.v r)
 | _,_=>none
def Zmm:Lf->AV->AV->Option Bool
 | .bool,.d (.v (.bool a)),.d (.v (.bool b))=>some (a==b)
 | .int,.d (.v (.int k a)),.d (.v (.int k' b))=>if k=k' then some (a==b) else none
 | .str,.d (.v (.string a)),.d (.v (.string b))=>some (a.toList==b.toList)
 | _,_,_=>none
def Z5w (xs ys:List AV):List (Nat×Lf)->Option Bool
 | []=>some true
 | (o,f)::l=>match Zmm f (Z0r xs o) (Z0r ys o),Z5w xs ys l with
  | some a,some b=>some (a&&b)
  | _,_=>none
def Z43:AV->Option (List AV)
 | .agg cs=>some cs
 | .d (.agg cs)=>some (cs.map .d)
 | _=>none
def Zw5 (n:Nat)(l:List (Nat×Lf)):Option (List AV)->Option (List AV)->Option Bool
 | some xs,some ys=>if xs.length=n/\ys.length=n then Z5w xs ys l else none
 | _,_=>none
def eqV (sh:Sh)(x y:AV):Option Bool:=
 match sh with
 | .leaf f=>Zmm f x y
 | .iface=>match x,y with
  | .d (.v .nilIface),.ifc _ _ | .ifc _ _,.d (.v .nilIface) | .d (.v .nilIface),.d (.ifc _ _) | .d (.ifc _ _),.d (.v .nilIface)=>some false
  | _,_=>none
 | .slice=>match x,y with
  | .d (.v (.slice none _ _)),.d (.v (.slice none _ _))=>some true
  | .sref ..,.d (.v (.slice none _ _))=>some false
  | .d (.lst _ n _),.d (.v (.slice none _ _))=>if n=0 then none else some false
  | .d .nel,.d (.v (.slice none _ _))=>some false
  | _,_=>none
 | .flds n l=>Zw5 n l (Z43 x) (Z43 y)
def bnd (len:Nat)(tm:List AV)(x:Option Opd)(dflt:Nat):Option Nat:=
 match x with
 | none=>some dflt
 | some o=>match look tm o with
  | .d (.v (.int _ n))=>if 0<=n/\n<=len then some n.toNat else none
  | _=>none
def Qo (len:Nat)(tm:List AV)(lo hi mx:Option Opd):Option (Nat×Nat×Nat):=
 match bnd len tm mx len,bnd len tm hi len,bnd len tm lo 0 with
 | some m,some h,some l=>if l<=h/\h<=m/\(mx.isSome->hi.isSome) then some (l,h,m) else none
 | _,_,_=>none
def Zlg (mx:Option Opd)(m l:Nat)(k:Option Nat):Option Nat:=
 if mx.isSome then some (m-l) else k.map (·-l)
def Zr6 (tm:List AV)(x:AV)(lo hi mx:Option Opd)(s:Nat):Option AV:=
 match x with
 | .d (.lst cs len k)=>match Qo len tm lo hi mx with
  | some (l,h,m)=>
   if l=h then some (.d (.lst [] 0 (if mx.isSome/\m=l then some 0 else none)))
   else if h*s<=cs.length then some (.d (.lst ((cs.drop (l*s)).take ((h-l)*s)) (h-l) (Zlg mx m l k))) else none
  | none=>none
 | .d (.v (.slice none 0 0))=>(Qo 0 tm lo hi mx).map fun _=>Y3z
 | .sref i ver off len sz k=>match Qo len tm lo hi mx with
  | some (l,h,m)=>
   if s≠sz then none else
   if l=h/\l≠0 then some (.d (.lst [] 0 (if mx.isSome/\m=l then some 0 else none)))
   else some (.sref i ver (off+l*s) (h-l) sz (Zlg mx m l k))
  | none=>none
 | _=>none
def Zw0 (tm:List AV)(x:AV)(lo hi:Option Opd):Option AV:=
 match x with
 | .d (.v (.string s))=>(Qo s.size tm lo hi none).map fun(l,h,_)=>.d (.v (.string (s.extract l h)))
 | _=>none
def Zg9 (x:AV):Option AV:=
 match x with
 | .d (.lst _ len _)=>some (aI len)
 | .sref _ _ _ len _ _=>some (aI len)
 | .d (.v (.slice none 0 0))=>some (aI 0)
 | .d .nel=>some (aI 0)
 | _=>none
def Zk3 (mx:Bool)(k:IntKind):Int->List AV->Option AV
 | x,[]=>some (.d (.v (.int k x)))
 | x,.d (.v (.int _ y))::rest=>Zk3 mx k (if mx then(if y>x then y else x) else(if y<x then y else x)) rest
 | _,_=>none
def Y0j (mx:Bool):List AV->Option AV
 | .d (.v (.int k x))::rest=>Zk3 mx k x rest
 | _=>none
def Zxk (x:AV)(t:TypeId)(zero:DV)(ok:Bool):Option AV:=
 match x with
 | .ifc u y=>if u=t then(if ok then some (.tup [y,Q7 true]) else some y) else if ok then some (.d (.tup [zero,.v (.bool false)])) else none
 | .d (.ifc u y)=>if u=t then(if ok then some (.tup [.d y,Q7 true]) else some (.d y)) else if ok then some (.d (.tup [zero,.v (.bool false)])) else none
 | .d (.v .nilIface)=>if ok then some (.d (.tup [zero,.v (.bool false)])) else none
 | _=>none
def Zdo:AV->Option AV
 | .ref i ver o=>some (.ref i ver o)
 | .d (.vptr cs)=>some (.d (.vptr cs))
 | .fn (.func f) c=>some (.fn (.func f) c)
 | .d (.fn (.func f) c)=>some (.d (.fn (.func f) c))
 | _=>none
def cellsAt (A:List Blk)(i ver off:Nat):Option (List AV):=
 match A[i]? with
 | some (.cells cs v _)=>if v=ver then some (cs.drop off) else none
 | _=>none
def Zzd (A:List Blk)(tm:List AV)(x:AV)(lo hi mx:Option Opd)(n s:Nat):Option AV:=
 match x with
 | .ref i ver off=>match Qo n tm lo hi mx,cellsAt A i ver off with
  | some (l,h,m),some cs=>if(l=h/\l≠0)∨cs.length<n*s∨n*s=0 then none else some (.sref i ver (off+l*s) (h-l) s (some (m-l)))
  | _,_=>none
 | .d (.vptr cs)=>match Qo n tm lo hi mx with
  | some (l,h,m)=>
   if l=h∨cs.length<h*s then none
   else some (.d (.lst ((cs.drop (l*s)).take ((h-l)*s)) (h-l) (some (m-l))))
  | none=>none
 | _=>none
def Z4p (A:List Blk)(a:AV)(ag:Bool)(n:Nat):Option AV:=
 match a with
 | .d (.vptr cs)=>(Qt ag n cs).map .d
 | .ref i ver off=>match cellsAt A i ver off with
  | some cs=>Jw ag n cs
  | none=>none
 | _=>none
def Z6c (A:List Blk)(a x:AV)(n:Nat):Option (List Blk):=
 match a with
 | .ref i ver off=>
  match A[i]? with
  | some (.cells cs v false)=>
   if v=ver/\x.cells.length=n/\off+n<=cs.length/\x.cells.all AV.one=true then some (A.set i (.cells (splice cs off x.cells) v false)) else none
  | _=>none
 | _=>none
def Zf:Nat:=1099511627776
def Z0g (A:List Blk)(str:Bool)(s:Nat)(x:AV):Option (List AV×Nat):=
 match str,x with
 | false,.d (.v (.slice none 0 0))=>some ([],0)
 | false,.d (.lst cs len _)=>if cs.length=len*s then some (cs.map .d,len) else none
 | false,.sref i ver off len sz _=>
  match cellsAt A i ver off with
  | some cs=>if s=sz/\len*sz<=cs.length then some (cs.take (len*sz),len) else none
  | none=>none
 | true,.d (.v (.string b))=>some (b.data.toList.map fun b=>.d (.v (.int .u8 b.toNat)),b.size)
 | false,.d .nel=>some ([],0)
 | _,_=>none
inductive App where
 | same
 | fresh (cells:List AV) (len:Nat)
 | turn (i:Nat) (b:Blk) (x:AV)
def Qs (A:List Blk)(s bytes:Nat)(base:AV)(new:List AV)(n:Nat):Option App:=
 if n=0 then(match base with
  | .sref .. | .d (.lst ..) | .d (.v (.slice none 0 0))=>some .same
  | _=>none) else
 match base with
 | .d (.v (.slice none 0 0))=>if n*bytes<=Zf/\n<=Zf then some (.fresh new n) else none
 | .d (.lst cs len (some c))=>
  if c<len+n/\cs.length=len*s/\(len+n)*bytes<=Zf/\len+n<=Zf then some (.fresh (cs.map .d++new) (len+n)) else none
 | .sref i ver off len sz k=>
  if sz≠s∨Zf<(len+n)*bytes∨Zf<len+n∨new.all AV.one=false then none else
  match A[i]? with
  | some (.cells cs v ro)=>
   if v≠ver∨cs.length<off+len*s then none else
   match k with
   | some c=>
    if c<len+n then some (.fresh ((cs.drop off).take (len*s)++new) (len+n))
    else if ro=false/\off+(len+n)*s<=cs.length then some (.turn i (.cells (splice cs (off+len*s) new) v ro) (.sref i ver off (len+n) sz k))
    else none
   | none=>
    if ro then none else
    if off+(len+n)*s<=cs.length then some (.turn i (.cells (splice cs (off+len*s) new) v ro) (.sref i ver off (len+n) sz none))
    else if off=0/\len*s=cs.length then some (.turn i (.cells (cs++new) (v+1) ro) (.sref i (v+1) 0 (len+n) sz none))
    else none
  | _=>none
 | _=>none
def rep {α:Type}(l:List α):Nat->List α
 | 0=>[]
 | n+1=>l++rep l n
def Zae (k:IntKind):List AV->Option (List Int)
 | []=>some []
 | .d (.v (.int k' n))::rest=>if k'=k then(Zae k rest).map (n:: ·) else none
 | _=>none
def Z36 (ns:List Int):ByteArray:=ns.foldl (fun r n=>r.push (UInt8.ofNat n.toNat)) ByteArray.empty
def Zcg (A:List Blk)(x:AV):Option (List AV):=
 match x with
 | .d (.v (.slice none 0 0))=>some []
 | .d (.lst cs len _)=>if cs.length=len then some (cs.map .d) else none
 | .sref i ver off len sz _=>match cellsAt A i ver off with
  | some cs=>if sz=1/\len<=cs.length then some (cs.take len) else none
  | none=>none
 | _=>none
def Zl2 (A:List Blk)(runes:Bool)(x:AV):Option AV:=
 match Zcg A x with
 | some cs=>match Zae (if runes then .i32 else .u8) cs with
  | some ns=>some (.d (.v (.string (if runes then runesBytes ns else Z36 ns))))
  | none=>none
 | none=>none
def Z2e (f:AV->Option (DV×List Nat)):List AV->Option (List DV×List Nat)
 | []=>some ([],[])
 | x::rest=>match f x,Z2e f rest with
  | some (a,u),some (b,w)=>some (a::b,u++w)
  | _,_=>none
def deep (A:List Blk):Nat->AV->Option (DV×List Nat)
 | 0,_=>none
 | n+1,x=>
  match x with
  | .d x=>some (x,[])
  | .agg cs=>(Z2e (deep A n) cs).map fun r=>(.agg r.1,r.2)
  | .tup cs=>(Z2e (deep A n) cs).map fun r=>(.tup r.1,r.2)
  | .fn f cs=>(Z2e (deep A n) cs).map fun r=>(.fn f r.1,r.2)
  | .ifc t y=>(deep A n y).map fun r=>(.ifc t r.1,r.2)
  | .ref i ver off=>
   match cellsAt A i ver off with
   | some cs=>(Z2e (deep A n) cs).map fun r=>(.vptr r.1,i::r.2)
   | none=>none
  | .sref i ver off len sz k=>
   if len=0 then some (.lst [] 0 none,[]) else
   match cellsAt A i ver off with
   | some cs=>if len*sz<=cs.length then(Z2e (deep A n) (cs.take (len*sz))).map fun r=>(.lst r.1 len k,i::r.2) else none
   | none=>none
  | .bot=>none
def Z1b:Nat->List Nat->Bool
 | _,[]=>false
 | n,m::l=>if Nat.beq n m then true else Z1b n l
def DV.flat:Nat->DV->Bool
 | 0,_=>false
 | _+1,.v _=>true
 | n+1,.agg cs | n+1,.tup cs=>cs.all (DV.flat n)
 | _+1,.lst [] 0 _=>true
 | _+1,.nel=>true
 | n+1,.ifc _ x=>DV.flat n x
 | _+1,_=>false
def Zmk (f:AV->List Blk->List Nat->Option (AV×List Blk×List Nat)):List AV->List Blk->List Nat->Option (List AV×List Blk×List Nat)
 | [],bs,us=>some ([],bs,us)
 | x::rest,bs,us=>match f x bs us with
  | some (y,bs,us)=>(Zmk f rest bs us).map fun r=>(y::r.1,r.2.1,r.2.2)
  | none=>none
def Zc3 (A:List Blk)(nb:Nat):Nat->AV->List Blk->List Nat->Option (AV×List Blk×List Nat)
 | 0,_,_,_=>none
 | n+1,x,bs,us=>
  match x with
  | .d x=>some (.d x,bs,us)
  | .agg cs=>(Zmk (Zc3 A nb n) cs bs us).map fun r=>(.agg r.1,r.2.1,r.2.2)
  | .tup cs=>(Zmk (Zc3 A nb n) cs bs us).map fun r=>(.tup r.1,r.2.1,r.2.2)
  | .sref i ver off len sz k=>
   match A[i]? with
   | some (.cells cs v false)=>
    if v=ver/\Z1b i us=false/\cs.all (fun x=>match x with | .d _=>true | _=>false)=true then
     some (.sref (nb+bs.length) 0 off len sz k,bs++[.cells cs 0 false],us++[i])
    else none
   | _=>none
  | _=>none
def Qn (A:List Blk):List Nat->List Blk
 | []=>A
 | i::rest=>match A[i]? with
  | some (.cells cs v _)=>Qn (A.set i (.cells cs v true)) rest
  | _=>Qn A rest
def Z81:Nat->AV->Bool
 | 0,_=>false
 | n+1,.d x=>x.flat n
 | _+1,.sref .. =>true
 | n+1,.agg cs | n+1,.tup cs=>cs.all (Z81 n)
 | _+1,_=>false
def Z7b (bs:List Blk):Bool:=
 bs.all fun b=>match b with
  | .cells cs _ _=>cs.all fun x=>match x with | .d x=>x.flat 6 | _=>false
  | _=>false
def fk:Nat->DV->DV
 | 0,x=>x
 | n+1,x=>
  match x with
  | .lst cs len _=>.lst cs len none
  | .agg cs=>.agg (cs.map (fk n))
  | .tup cs=>.tup (cs.map (fk n))
  | x=>x
abbrev cT:=FuncId->List AV->List Blk->Option (AV×List Blk)
inductive Done where
 | made (x:AV) (bs:List Blk)
 | turned (x:AV) (A:List Blk)
structure Env where
  br:List FuncId
  th:List FuncId
  prim:FuncId->Option (List DV->Option (AV×List Blk))
  back:FuncId->Option (Nat×Bool)
  lives:FuncId->Nat->Option (List Nat):=fun _ _=>none
  live:Nat->Option (List Nat):=fun _=>none
  nb0:Nat:=0
def Q5:Nat->AV->List Nat
 | 0,_=>[]
 | n+1,x=>
  match x with
  | .ref i _ _=>[i]
  | .sref i _ _ _ _ _=>[i]
  | .agg cs=>cs.flatMap (Q5 n)
  | .tup cs=>cs.flatMap (Q5 n)
  | .fn _ cs=>cs.flatMap (Q5 n)
  | .ifc _ y=>Q5 n y
  | .d _=>[]
  | .bot=>[]
def Z9o:Option Blk->List Nat
 | some (.cells cs _ _)=>cs.flatMap (Q5 8)
 | _=>[]
def Z0t (A:List Blk)(n0:Nat):Nat->List Nat->List Nat->List Nat
 | 0,_,seen=>seen
 | _+1,[],seen=>seen
 | k+1,i::todo,seen=>bif Nat.blt i n0 || Z1b i seen || !Nat.blt i A.length then Z0t A n0 k todo seen else Z0t A n0 k (todo++Z9o A[i]?) (seen++[i])
def idx:List Nat->Nat->Option Nat
 | [],_=>none
 | j::l,i=>bif Nat.beq j i then some 0 else(idx l i).map (·+1)
def Qc (A:List Blk)(i:Nat):Option Nat:=
 match A[i]? with
 | some (.cells _ v _)=>some v
 | some (.iter _ _)=>some 0
 | _=>none
def spot (A:List Blk)(n0:Nat)(ids:List Nat)(i v:Nat):Option (Nat×Nat):=
 bif Nat.blt i n0 then some (i,v) else match Qc A i,idx ids i with
  | some v',some m=>bif Nat.beq v' v then some (n0+m,0) else none
  | _,_=>none
def ren (A:List Blk)(n0:Nat)(ids:List Nat):Nat->AV->AV
 | 0,_=>.bot
 | n+1,x=>
  match x with
  | .d y=>.d y
  | .agg cs=>.agg (cs.map (ren A n0 ids n))
  | .tup cs=>.tup (cs.map (ren A n0 ids n))
  | .ref i v o=>match spot A n0 ids i v with
   | some p=>.ref p.1 p.2 o
   | none=>.bot
  | .sref i v o len sz k=>match spot A n0 ids i v with
   | some p=>.sref p.1 p.2 o len sz k
   | none=>.bot
  | .fn f cs=>.fn f (cs.map (ren A n0 ids n))
  | .ifc t y=>.ifc t (ren A n0 ids n y)
  | .bot=>.bot
def Zfg (A:List Blk)(n0:Nat)(ids:List Nat)(keep:Bool):Blk->Blk
 | .cells cs v ro=>.cells (cs.map (ren A n0 ids 8)) (bif keep then v else 0) ro
 | b=>b
def Z1r (A:List Blk)(n0:Nat)(ids:List Nat):List Blk:=
 (A.take n0).map (Zfg A n0 ids true)++ids.map fun i=>Zfg A n0 ids false (A.getD i .free)
def Zez (f:AV->AV):Nat->List Nat->List AV->List AV
 | _,_,[]=>[]
 | k,[],_::tm=>.bot::Zez f (k+1) [] tm
 | k,l::ls,x::tm=>bif Nat.beq k l then f x::Zez f (k+1) ls tm else .bot::Zez f (k+1) (l::ls) tm
def Zos (n0:Nat)(live:List Nat)(tm:List AV)(A:List Blk):List Nat:=
 live.flatMap (fun t=>Q5 8 (Z0r tm t))++(A.take n0).flatMap fun b=>Z9o (some b)
def Zyo (n0:Nat)(live:List Nat)(k:List AV->List Blk->Option (AV×List Blk))(tm:List AV)(A:List Blk)(ids:List Nat):Option (AV×List Blk):=
 k (Zez (ren A n0 ids 8) 0 live tm) (Z1r A n0 ids)
def Zmj (E:Env)(key:Nat)(k:List AV->List Blk->Option (AV×List Blk)):List AV->List Blk->Option (AV×List Blk):=fun tm A=>
 match E.live key with
 | none=>k tm A
 | some live=>Zyo E.nb0 live k tm A (Z0t A E.nb0 100000 (Zos E.nb0 live tm A) [])
def Zl7 (n0:Nat):Option (AV×List Blk)->Option (AV×List Blk)
 | some (x,A)=>some (ren A n0 (Z0t A n0 100000 (Q5 8 x++(A.take n0).flatMap fun b=>Z9o (some b)) []) 8 x,Z1r A n0 (Z0t A n0 100000 (Q5 8 x++(A.take n0).flatMap fun b=>Z9o (some b)) []))
 | none=>none
def Qg:List Nat->Bool
 | []=>true
 | _=>false
def Z3l (A:List Blk)(used:List Nat):Option (AV×List Blk×List Nat)->Option Done
 | some (x,bs,_)=>bif Qg used || (Z81 8 x&&Z7b bs) then some (.made x bs) else some (.turned x (Qn A used++bs))
 | none=>none
def Z7k (A:List Blk)(used:List Nat):Option (DV×List Nat)->Option Done
 | some (r,_)=>bif Qg used || r.flat 8 then some (.made (.d (fk 4 r)) []) else some (.turned (.d (fk 4 r)) (Qn A used))
 | none=>none
def Z2c (E:Env)(call:cT)(f:FuncId)(ds:List DV):Option (AV×List Blk):=
 match E.prim f with
 | some g=>g ds
 | none=>call f (ds.map .d) []
def Z47:Option (List Nat)->Bool
 | some _=>true
 | none=>false
def thF (E:Env)(f:FuncId):Bool:=Z1b f E.th || Z47 (E.live (1000000+f))
def Z2v (E:Env)(f:FuncId)(A:List Blk)(nb:Nat)(used:List Nat):Option (AV×List Blk)->Option Done
 | some (x,Ac)=>bif thF E f then Z3l A used (Zc3 Ac nb 6 x [] []) else Z7k A used (deep Ac 8 x)
 | none=>none
def Zo6 (E:Env)(call:cT)(f:FuncId)(A:List Blk)(nb:Nat):Option (List DV×List Nat)->Option Done
 | some (ds,used)=>Z2v E f A nb used (Z2c E call f (ds.map (fk 4)))
 | none=>none
def unr (ids vs:List Nat)(nb:Nat):Nat->AV->AV
 | 0,_=>.bot
 | n+1,x=>
  match x with
  | .d y=>.d y
  | .agg cs=>.agg (cs.map (unr ids vs nb n))
  | .tup cs=>.tup (cs.map (unr ids vs nb n))
  | .ref m v o=>match ids[m]? with
   | some i=>.ref i (vs.getD m 0+v) o
   | none=>.ref (nb+(m-ids.length)) v o
  | .sref m v o len sz k=>match ids[m]? with
   | some i=>.sref i (vs.getD m 0+v) o len sz k
   | none=>.sref (nb+(m-ids.length)) v o len sz k
  | .fn f cs=>.fn f (cs.map (unr ids vs nb n))
  | .ifc t y=>.ifc t (unr ids vs nb n y)
  | .bot=>.bot
def Zc1 (ids vs:List Nat)(nb dv:Nat):Blk->Blk
 | .cells cs v ro=>.cells (cs.map (unr ids vs nb 8)) (dv+v) ro
 | b=>b
def Y3 (A:List Blk)(ids:List Nat):List Nat:=ids.map fun i=>(Qc A i).getD 0
def Z2z (ids vs:List Nat)(nb:Nat):List Blk->List Nat->List Nat->List Blk->List Blk
 | A,i::is,v::us,b::bs=>Z2z ids vs nb (A.set i (Zc1 ids vs nb v b)) is us bs
 | A,_,_,_=>A
def Zri:List Nat->List Blk->Bool
 | v::vs,b::bs=>(match b with
  | .cells _ _ _=>true
  | _=>Nat.beq v 0)&&Zri vs bs
 | _,_=>true
def Z6i (A:List Blk)(ids vs:List Nat):Option (AV×List Blk)->Option Done
 | some (x,B)=>bif Nat.ble ids.length B.length&&Zri vs B then some (.turned (unr ids vs A.length 8 x) (Z2z ids vs A.length A ids vs B++(B.drop ids.length).map (Zc1 ids vs A.length 0))) else none
 | none=>none
def Y0k (call:cT)(f:FuncId)(args:List AV)(A:List Blk)(ids:List Nat):Option Done:=
 Z6i A ids (Y3 A ids) (call f (args.map (ren A 0 ids 8)) (Z1r A 0 ids))
def Z4q (E:Env)(call:cT)(f:FuncId)(args:List AV)(A:List Blk)(nb:Nat):Option Done:=
 bif Z1b f E.br then Y0k call f args A (Z0t A 0 100000 (args.flatMap (Q5 8)) []) else Zo6 E call f A nb (Z2e (deep A 8) args)
abbrev OpF:=Env->cT->List AV->List Blk->Nat->Option Done
def one? :Option AV->Option Done
 | some x=>some (.made x [])
 | none=>none
def oV (x:Opd):OpF:=fun _ _ tm _ _=>some (.made (look tm x) [])
def Zsk (tm:List AV)(a b:Opd):AV->Option Done
 | .d (.v (.bool true))=>some (.made (look tm a) [])
 | .d (.v (.bool false))=>some (.made (look tm b) [])
 | _=>none
def Y1 (c a b:Opd):OpF:=fun _ _ tm _ _=>Zsk tm a b (look tm c)
def Y2t:Option (List AV)->Option Done
 | some cs=>some (.made (.agg cs) [])
 | none=>none
def Yf (zero:List AV)(parts:List (Nat×Nat×Opd)):OpF:=fun _ _ tm _ _=>Y2t (Z3u tm zero parts)
def oA (x:Opd)(off:Nat):OpF:=fun _ _ tm _ _=>one? (Z63 (look tm x) off)
def Z8v (x:Opd)(off:Nat)(ag:Bool)(n:Nat):OpF:=fun _ _ tm _ _=>one? (Z7i (look tm x) off ag n)
def Zis (x ix:Opd)(len s:Nat):OpF:=fun _ _ tm _ _=>one? (Ztk (look tm x) (look tm ix) len s)
def Z00 (x ix:Opd)(s:Nat):OpF:=fun _ _ tm _ _=>one? (Z93 (look tm x) (look tm ix) s)
def Y4w (x ix:Opd)(len s:Nat)(ag:Bool)(n:Nat):OpF:=fun _ _ tm _ _=>one? (Zw1 (look tm x) (look tm ix) len s ag n)
def Y4x (x ix:Opd):OpF:=fun _ _ tm _ _=>one? (Zze (look tm x) (look tm ix))
def Y3c (x:Opd)(i:Nat):OpF:=fun _ _ tm _ _=>one? (Ztn (look tm x) i)
def oUn (op:UnOp)(x:Opd):OpF:=fun _ _ tm _ _=>one? (Y3r op (look tm x))
def oB (op:BinOp)(x y:Opd):OpF:=fun _ _ tm _ _=>one? (Ji op (look tm x) (look tm y))
def Zat (neg:Bool):Option Bool->Option Done
 | some b=>some (.made (Q7 (if neg then !b else b)) [])
 | none=>none
def oEq (neg:Bool)(sh:Sh)(x y:Opd):OpF:=fun _ _ tm _ _=>Zat neg (eqV sh (look tm x) (look tm y))
def Zwf (k:IntKind):AV->Option Done
 | .d (.v (.int _ n))=>some (.made (.d (.v (.int k (k.wrap n)))) [])
 | _=>none
def Zcq (k:IntKind)(x:Opd):OpF:=fun _ _ tm _ _=>Zwf k (look tm x)
def Y29:AV->Option Done
 | .d (.v (.int _ n))=>some (.made (.d (.v (.string (Utf8.encode n)))) [])
 | .d (.v (.string s))=>some (.made (.d (.v (.string s))) [])
 | _=>none
def Zsp (x:Opd):OpF:=fun _ _ tm _ _=>Y29 (look tm x)
def Q6 (x:Opd):OpF:=fun _ _ tm _ _=>one? (Zdo (look tm x))
def Y3b (t:TypeId)(x:Opd):OpF:=fun _ _ tm _ _=>some (.made (.ifc t (look tm x)) [])
def Zyc (f:Fn)(cap:List Opd):OpF:=fun _ _ tm _ _=>some (.made (.fn f (cap.map (look tm))) [])
def Y18 (x:Opd)(t:TypeId)(zero:DV)(ok:Bool):OpF:=fun _ _ tm _ _=>one? (Zxk (look tm x) t zero ok)
def Zp2 (x:Opd)(lo hi mx:Option Opd)(s:Nat):OpF:=fun _ _ tm _ _=>one? (Zr6 tm (look tm x) lo hi mx s)
def Y4u (x:Opd)(lo hi:Option Opd):OpF:=fun _ _ tm _ _=>one? (Zw0 tm (look tm x) lo hi)
def Y4v (x:Opd)(lo hi mx:Option Opd)(n s:Nat):OpF:=fun _ _ tm A _=>one? (Zzd A tm (look tm x) lo hi mx n s)
def Z31 (x:Opd):OpF:=fun _ _ tm _ _=>one? (Zg9 (look tm x))
def Zvr:AV->Option Done
 | .d (.v (.string s))=>some (.made (aI s.size) [])
 | _=>none
def Zvg (x:Opd):OpF:=fun _ _ tm _ _=>Zvr (look tm x)
def Zyb (n:Nat):OpF:=fun _ _ _ _ _=>some (.made (aI n) [])
def oMM (mx:Bool)(xs:List Opd):OpF:=fun _ _ tm _ _=>one? (Y0j mx (xs.map (look tm)))
def oL (x:Opd)(ag:Bool)(n:Nat):OpF:=fun _ _ tm A _=>one? (Z4p A (look tm x) ag n)
def Zj5:Option (List Blk)->Option Done
 | some A=>some (.turned Z26 A)
 | none=>none
def oS (a x:Opd)(n:Nat):OpF:=fun _ _ tm A _=>Zj5 (Z6c A (look tm a) (look tm x) n)
def J8 (zero:List AV):OpF:=fun _ _ _ _ nb=>some (.made (.ref nb 0 0) [.cells zero 0 false])
def Y2i (nb:Nat)(x:AV):Option Done:=bif x.isBot then none else some (.made (.ref nb 0 0) [.cells x.cells 0 false])
def Q3 (x:Opd):OpF:=fun _ _ tm _ nb=>Y2i nb (look tm x)
def Zys (len s nb:Nat):Option (List AV)->Option Done
 | some cs=>some (.made (.sref nb 0 0 len s (some len)) [.cells cs 0 false])
 | none=>none
def Z83:List AV->Option (List DV)
 | []=>some []
 | .d x::l=>(Z83 l).map (x:: ·)
 | _=>none
def Zyr (len s nb:Nat)(cs:List AV):Option (List DV)->Option Done
 | some ds=>some (.made (.d (.lst ds len (some len))) [])
 | none=>Zys len s nb (some cs)
def Zvl (w:Bool)(len s nb:Nat)(o:Option (List AV)):Option Done:=
 match w with
 | false=>Zys len s nb o
 | true=>match o with
  | some cs=>Zyr len s nb cs (Z83 cs)
  | none=>none
def Z2g (cells:List AV)(len s:Nat)(parts:List (Nat×Nat×Opd)):OpF:=fun E _ tm _ nb=>Zvl (thF E 1000000) len s nb (Z3u tm cells parts)
def Zvo (zero:List AV)(s bytes nb:Nat):AV->AV->Option Done
 | .d (.v (.int _ l)),.d (.v (.int _ c))=>
  if 0<=l/\l<=c/\bytes*c<=Zf/\c<=Zf then some (.made (.sref nb 0 0 l.toNat s (some c.toNat)) [.cells (rep zero c.toNat) 0 false]) else none
 | _,_=>none
def Znk (zero:List AV)(s bytes:Nat)(l c:Opd):OpF:=fun _ _ tm _ nb=>Zvo zero s bytes nb (look tm l) (look tm c)
def Zjy (runes:Bool)(x:Opd):OpF:=fun _ _ tm A _=>one? (Zl2 A runes (look tm x))
def Z27 (A:List Blk)(nb s:Nat)(base:AV):Option App->Option Done
 | some .same=>some (.made base [])
 | some (.fresh cs len)=>some (.made (.sref nb 0 0 len s none) [.cells cs 0 false])
 | some (.turn i b x)=>some (.turned x (A.set i b))
 | none=>none
def Y2p (A:List Blk)(nb s bytes:Nat)(base:AV):Option (List AV×Nat)->Option Done
 | some (new,n)=>Z27 A nb s base (Qs A s bytes base new n)
 | none=>none
def Z3c (str:Bool)(s bytes:Nat)(base x:Opd):OpF:=fun _ _ tm A nb=>Y2p A nb s bytes (look tm base) (Z0g A str s (look tm x))
def Zve:OpF:=fun _ _ _ _ _=>none
def Zwz (nb:Nat):AV->Option Done
 | .d (.v (.string s))=>some (.made (.ref nb 0 0) [.iter s 0])
 | _=>none
def Zp3 (x:Opd):OpF:=fun _ _ tm _ nb=>Zwz nb (look tm x)
def Y1f (A:List Blk)(i:Nat)(s:ByteArray)(p:Nat):Option Done:=
 bif Nat.blt p s.size then some (.turned (.d (.tup [.v (.bool true),.v (.int .i64 (p:Int)),.v (.int .i32 ((Utf8.decode s p).1:Int))])) (A.set i (.iter s (p+(Utf8.decode s p).2)))) else some (.made (.d (.tup [.v (.bool false)])) [])
def Y1e (A:List Blk)(i ver off:Nat):Option Blk->Option Done
 | some (.iter s p)=>bif Nat.beq ver 0&&Nat.beq off 0 then Y1f A i s p else none
 | _=>none
def Y1g (A:List Blk):AV->Option Done
 | .ref i ver off=>Y1e A i ver off A[i]?
 | _=>none
def Zvf (x:Opd):OpF:=fun _ _ tm A _=>Y1g A (look tm x)
def Zuv (v:Nat):Option Nat->Bool
 | some w=>Nat.beq w v
 | none=>false
def Zsg (A:List Blk)(i v o j u p:Nat):Option Bool:=
 bif Nat.beq i j&&Nat.beq v u&&Nat.beq o p&&Zuv v (Qc A i) then some true else none
def Zy5 (A:List Blk):AV->AV->Option Bool
 | .ref i v o,.ref j u p=>Zsg A i v o j u p
 | .d (.v (.pointer none)),.d (.v (.pointer none))=>some true
 | .ref ..,.d (.v (.pointer none))=>some false
 | .d (.vptr _),.d (.v (.pointer none))=>some false
 | _,_=>none
def Zvh (neg:Bool)(x y:Opd):OpF:=fun _ _ tm A _=>Zat neg (Zy5 A (look tm x) (look tm y))
inductive Xt where
 | esc | ixb | cnt
 deriving DecidableEq
def Y1x:List AV->Option AV
 | [x]=>some x
 | _=>none
def Y1w:List AV->Option AV
 | [.d (.v (.string s)),.d (.v (.int .u8 c))]=>some (match(List.range s.size).find? fun i=>s[i]! ==c.toNat.toUInt8 with
  | some i=>aI i
  | none=>aI (-1))
 | _=>none
def Y1y:List AV->Option AV
 | [.d (.v (.string s)),.d (.v (.int .u8 c))]=>some (aI (s.foldl (fun n x=>if x==c.toNat.toUInt8 then n+1 else n) ((0:Nat):Int)))
 | _=>none
def Y3q:Xt->List AV->Option AV
 | .esc=>Y1x
 | .ixb=>Y1w
 | .cnt=>Y1y
def oXt (k:Xt)(xs:List Opd):OpF:=fun _ _ tm _ _=>one? (Y3q k (xs.map (look tm)))
def target (args:List AV):AV->Option (FuncId×List AV)
 | .fn (.func g) cap=>some (g,args++cap)
 | .d (.fn (.func g) cap)=>some (g,args++cap.map .d)
 | _=>none
def Zf3 (E:Env)(call:cT)(A:List Blk)(nb:Nat):Option (FuncId×List AV)->Option Done
 | some (g,args)=>Z4q E call g args A nb
 | none=>none
def oK (f:Opd)(args:List Opd):OpF:=fun E call tm A nb=>Zf3 E call A nb (target (args.map (look tm)) (look tm f))
abbrev Ans:=Option (AV×List Blk)
abbrev K:=List AV->List Blk->Ans
def Z44 (tm:List AV)(dst:Option Nat)(x:AV):List AV:=
 match dst with
 | some t=>Zip tm t x
 | none=>tm
def Zc0 (b:Bool):AV->Option Bool
 | .d (.v (.bool c))=>some (c==b)
 | .d (.tup [])=>some false
 | _=>none
def Z5x (tm:List AV):Option (Nat×Bool)->Option Bool
 | none=>some true
 | some (t,b)=>Zc0 b (Z0r tm t)
structure Stp where
 dst:Option Nat
 guard:Option (Nat×Bool)
 op:OpF
def Y2q (A:List Blk):List Blk->List Blk
 | []=>A
 | bs=>A++bs
theorem Y0b (A bs:List Blk):Y2q A bs=A++bs:=by
 cases bs with
 | nil=>simp[Y2q]
 | cons b bs=>rfl
def Zr5 (dst:Option Nat)(k:K)(tm:List AV)(A:List Blk):Option Done->Ans
 | some (.made x bs)=>k (Z44 tm dst x) (Y2q A bs)
 | some (.turned x A)=>k (Z44 tm dst x) A
 | none=>none
def Zc6 (E:Env)(call:cT)(s:Stp)(k:K)(tm:List AV)(A:List Blk):Option Bool->Ans
 | some true=>Zr5 s.dst k tm A (s.op E call tm A A.length)
 | some false=>k (Z44 tm s.dst Z26) A
 | none=>none
def Z8e (E:Env)(call:cT):List Stp->K->K
 | [],k=>k
 | s::l,k=>fun tm A=>Zc6 E call s (Z8e E call l k) tm A (Z5x tm s.guard)
inductive Fl where
 | any | mk | pure | tn
 deriving DecidableEq
def Z8y (fg:Fl)(dst:Option Nat)(k:K)(tm:List AV)(A:List Blk):Option Done->Ans
 | some (.made x [])=>k (Z44 tm dst x) A
 | some (.made x (b::bs))=>match fg with
  | .pure=>none
  | _=>k (Z44 tm dst x) (A++b::bs)
 | some (.turned x A1)=>match fg with
  | .any=>bif Nat.ble A.length A1.length then k (Z44 tm dst x) A1 else none
  | .tn=>bif Nat.ble A.length A1.length then k (Z44 tm dst x) A1 else none
  | _=>none
 | none=>none
def Zj7 (E:Env)(call:cT)(fg:Fl)(s:Stp)(k:K)(tm:List AV)(A:List Blk):Option Bool->Ans
 | some true=>Z8y fg s.dst k tm A (s.op E call tm A A.length)
 | some false=>k (Z44 tm s.dst Z26) A
 | none=>none
def Z7j (E:Env)(call:cT):List (Fl×Stp)->K->K
 | [],k=>k
 | s::l,k=>fun tm A=>Zj7 E call s.1 s.2 (Z7j E call l k) tm A (Z5x tm s.2.guard)
def Z17:Nat->AV->AV->Bool
 | 0,_,_=>false
 | n+1,x,y=>
  match x,y with
  | .d (.v (.int k a)),.d (.v (.int k' b))=>decide (k=k')&&decide (a=b)
  | .d (.v (.bool a)),.d (.v (.bool b))=>a==b
  | .d (.v (.string a)),.d (.v (.string b))=>decide (a.data=b.data)
  | .d (.tup []),.d (.tup [])=>true
  | .d (.lst cs a none),.d (.lst ds b none)=>sameL (fun x y=>Z17 n (.d x) (.d y)) cs ds&&Nat.beq a b
  | .d (.lst cs a (some c)),.d (.lst ds b (some e))=>sameL (fun x y=>Z17 n (.d x) (.d y)) cs ds&&(Nat.beq a b&&Nat.beq c e)
  | .d (.agg cs),.d (.agg ds)=>sameL (fun x y=>Z17 n (.d x) (.d y)) cs ds
  | .agg cs,.agg ds=>sameL (Z17 n) cs ds
  | .ref i v o,.ref j u p=>Nat.beq i j&&Nat.beq v u&&Nat.beq o p
  | .bot,.bot=>true
  | _,_=>false
where
 sameL {α:Type} (f:α->α->Bool):List α->List α->Bool
  | [],[]=>true
  | x::l,y::m=>f x y&&sameL f l m
  | _,_=>false
def Zs2:Option Blk->Option Blk->Bool
 | some (.cells cs v r),some (.cells ds u q)=>Z17.sameL (Z17 8) cs ds&&Nat.beq v u&&(r==q)
 | none,_=>true
 | _,_=>false
def Zo2 (A A1:List Blk):AV->Bool
 | .ref i _ _=>Zs2 A[i]? A1[i]?
 | _=>true
def Ztd (ls:List (Nat×Opd))(d:Nat)(A A1:List Blk)(k:K):K:=fun tm B=>bif ls.all (fun p=> !Nat.beq p.1 d || Zo2 A A1 (look tm p.2)) then k tm B else none
def Z37 (E:Env)(call:cT)(ls:List (Nat×Opd)):Nat->List (Fl×Stp)->K->K
 | _,[],k=>k
 | d,s::l,k=>fun tm A=>Zj7 E call s.1 s.2 (fun tm1 A1=>Z37 E call ls (d+1) l (Ztd ls d A A1 k) tm1 A1) tm A (Z5x tm s.2.guard)
def Zej:AV->AV->Bool
 | .ref i _ _,.ref j _ _=> !Nat.beq i j
 | _,_=>true
def Z2y (tm:List AV):List (Opd×Opd)->Bool
 | []=>true
 | p::l=>Zej (look tm p.1) (look tm p.2)&&Z2y tm l
def Ztp (ps:List (Opd×Opd))(k:K):K:=fun tm A=>bif Z2y tm ps then k tm A else none
abbrev CT:=Env->cT->K->(Nat->K)->K->K
def cK:CT:=fun _ _ kn _ _=>kn
def cOz (l:List Stp):CT:=fun E call kn _ _=>Z8e E call l kn
def Yg (l:List (Fl×Stp))(ps:List (Opd×Opd)):CT:=fun E call kn _ _=>Z7j E call l (Ztp ps kn)
def Zdy (l:List (Fl×Stp))(ps:List (Opd×Opd))(ls:List (Nat×Opd)):CT:=fun E call kn _ _=>Z37 E call ls 0 l (Ztp ps kn)
def cQ (a b:CT):CT:=fun E call kn kx kr=>a E call (b E call kn kx kr) kx kr
def Zgh (a b:Ans):AV->Ans
 | .d (.v (.bool true))=>a
 | .d (.v (.bool false))=>b
 | _=>none
def cJ (key:Nat)(c:Opd)(a b:CT):CT:=fun E call kn kx kr tm A=>Zgh (a E call (Zmj E key kn) kx kr tm A) (b E call (Zmj E key kn) kx kr tm A) (look tm c)
def Z6k (id:Nat)(kn:K)(kx:Nat->K):Nat->K:=fun i=>bif Nat.beq i id then kn else kx i
def Zp (id:Nat)(c:CT):CT:=fun E call kn kx kr=>c E call kn (Z6k id kn kx) kr
def Zi (key:Nat)(c:CT)(E:Env)(call:cT)(kx:Nat->K)(kr:K):Nat->K
 | 0=>fun _ _=>none
 | n+1=>Zmj E key (c E call (Zi key c E call kx kr n) kx kr)
def Z1l (key:Nat)(c:CT):CT:=fun E call _ kx kr=>Zi key c E call kx kr 1000000000000000000000000000000
def Z14 (id:Nat):CT:=fun _ _ _ kx _=>kx id
def cZ:CT:=fun _ _ _ _ kr=>kr
def Zew (tm:List AV):List Nat->List AV->List AV
 | p::ps,x::xs=>Zew (Zip tm p x) ps xs
 | _,_=>tm
def Qh (cs:List DV)(s:Nat)(ag:Bool):Nat->Option (List (List AV))
 | 0=>some []
 | i+1=>match Qt ag s (cs.drop (i*s)),Qh cs s ag i with
  | some x,some r=>some ([aI i,.d x]::r)
  | _,_=>none
def Z3f (E:Env):AV->Option (List (List AV))
 | .d (.fn (.func g) [.vptr (.lst cs len _::_)])=>match E.back g with
  | some (s,ag)=>if cs.length=len*s/\len<=Zf/\s≠0/\(ag=false->s=1) then Qh cs s ag len else none
  | none=>none
 | _=>none
def Z4z (asg body:CT)(ps:List Nat)(E:Env)(call:cT)(kn:K)(kx:Nat->K)(kr:K)(tm:List AV):List (List AV)->List Blk->Ans
 | [],A=>kn tm A
 | e::es,A=>asg { E with nb0:=A.length } call (fun tm1 A1=>body { E with nb0:=A1.length } call (fun _ A2=>Z4z asg body ps E call kn kx kr tm es A2) (fun id _ A2=>kx id tm A2) (fun _ A2=>kr tm A2) tm1 A1) (fun _ _ _=>none) (fun _ _=>none) (Zew tm ps e) A
def Zjs (asg body:CT)(ps:List Nat)(E:Env)(call:cT)(kn:K)(kx:Nat->K)(kr:K)(tm:List AV)(A:List Blk):Option (List (List AV))->Ans
 | some es=>Z4z asg body ps E call kn kx kr tm es A
 | none=>none
def Zge (f:Opd)(ps:List Nat)(asg body:CT):CT:=fun E call kn kx kr tm A=>Zjs asg body ps E call kn kx kr tm A (Z3f E (look tm f))
inductive IRes where
 | tmp (t:Nat)
 | cell (a:Nat) (ag:Bool) (n:Nat)
def Zti (tm:List AV)(A:List Blk):IRes->Option AV
 | .tmp t=>some (Z0r tm t)
 | .cell a ag n=>Z4p A (Z0r tm a) ag n
def Z1e (tm:List AV)(A:List Blk):List IRes->Option (List AV)
 | []=>some []
 | r::l=>match Zti tm A r,Z1e tm A l with
  | some x,some l=>some (x::l)
  | _,_=>none
def Z8t (A:List Blk):Option (List AV)->Ans
 | some [x]=>some (x,A)
 | some xs=>some (.tup xs,A)
 | none=>none
def Z0u (n0:Nat)(rs:List IRes):K:=fun tm A=>Zl7 n0 (Z8t A (Z1e tm A rs))
def Z77:Nat->List AV
 | 0=>[]
 | n+1=>Z26::Z77 n
def mkF (ntmps:Nat)(rs:List IRes)(c:CT):Env->cT->cT:=fun E call f args A=>
 c { E with live:=E.lives f,nb0:=A.length } call (Z0u A.length rs) (fun _ _ _=>none) (Z0u A.length rs) (args++Z77 (ntmps-args.length)) A
def apF (E:Env)(call:cT)(f:FuncId)(args:List AV)(A:List Blk):Option (Env->cT->cT)->Ans
 | some F=>F E call f args A
 | none=>none
def evC (E:Env)(fn:FuncId->Option (Env->cT->cT)):Nat->cT
 | 0=>fun _ _ _=>none
 | n+1=>fun f args A=>apF E (evC E fn n) f args A (fn f)
end Go.Aug
