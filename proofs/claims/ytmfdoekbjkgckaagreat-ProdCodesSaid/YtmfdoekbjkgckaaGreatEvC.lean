import Derived.Test.YtmfdoekbjkgckaaGreatEvGt
import GoSem.Extern.Table
namespace Go.Aug
open Go
def ofV1:Value->DV
 | .slice none 0 0=>.lst [] 0 (some 0)
 | x=>.v x
def ofV:Value->DV
 | .agg cs=>.agg (cs.toList.map ofV1)
 | x=>ofV1 x
def FP:Sh->Opd->Opd
 | .slice,.c (.lst [] 0 (some 0))=>.c (.v (.slice none 0 0))
 | _,x=>x
def PP:Value->Bool
 | .agg cs=>cs.toList.all Value.oneCell'
 | .tuple _=>false
 | _=>true
def Zx:Operand->Option Opd
 | .tmp t=>some (.t t)
 | .const v=>if PP v then some (.c (ofV v)) else none
 | .func f=>some (.f f)
 | .global g=>(VY g).map fun cs=>.c (.vptr cs)
def Qx:List Operand->Option (List Opd)
 | []=>some []
 | x::l=>match Zx x,Qx l with
  | some a,some b=>some (a::b)
  | _,_=>none
def AQ:Option Operand->Option (Option Opd)
 | none=>some none
 | some x=>(Zx x).map some
def KC (z:Value):Option (List AV):=
 if z.cells.toList.all Value.oneCell' then some (z.cells.toList.map fun x=>.d (ofV1 x)) else none
def Gv (P:Program)(t:TypeId):Option (List AV):=
 match P.info? t with
 | some i=>match i.zero with
  | some z=>KC z
  | none=>none
 | none=>none
def Q0 (P:Program)(t:TypeId):Option Nat:=(P.info? t).map (·.size)
def Aj (P:Program)(t:TypeId):Option Bool:=
 match P.underlying t with
 | some (.struct _) | some (.array _ _)=>some true
 | some _=>some false
 | none=>none
def D9 (place:Nat->Option (Nat×Nat)):List (Nat×Operand)->Option (List (Nat×Nat×Opd))
 | []=>some []
 | (i,x)::l=>match place i,Zx x,D9 place l with
  | some (o,s),some x,some r=>some ((o,s,x)::r)
  | _,_,_=>none
def WV (P:Program)(fields:Array Field)(i:Nat):Option (Nat×Nat):=
 match fields[i]? with
 | some f=>(Q0 P f.type).map fun s=>(f.offset,s)
 | none=>none
def AM (P:Program):Nat->TypeId->Nat->Option (List (Nat×Lf))
 | 0,_,_=>none
 | d+1,t,off=>
  match P.underlying t with
  | some .bool=>some [(off,.bool)]
  | some (.int _)=>some [(off,.int)]
  | some .string=>some [(off,.str)]
  | some (.struct fields)=>
   if P.stoodInHeld t then none else leafFields (AM P d) (Q0 P) (Q0 P t) off fields.toList
  | some (.array len elem)=>if(Q0 P elem).isNone then none else leafItems (AM P d) (Q0 P elem) (Q0 P t) elem off (List.range len)
  | _=>none
where
 leafFields (go:TypeId->Nat->Option (List (Nat×Lf))) (size:TypeId->Option Nat) (n:Option Nat) (off:Nat):List Field->Option (List (Nat×Lf))
 | []=>some []
 | f::fs=>match go f.type (off+f.offset),leafFields go size n off fs,size f.type,n with
  | some l, some r, some s, some n => if f.name = "_" ∨ n < f.offset + s ∨ s = 0 then none else some (l ++ r)
  | _,_,_,_=>none
 leafItems (go:TypeId->Nat->Option (List (Nat×Lf))) (s n:Option Nat) (elem:TypeId) (off:Nat):List Nat->Option (List (Nat×Lf))
 | []=>some []
 | i::is=>match s,n with
  | some s',some n'=>match go elem (off+i*s'),leafItems go s n elem off is with
   | some l,some r=>if n'<i*s'+s'∨s'=0 then none else some (l++r)
   | _,_=>none
  | _,_=>none
def RB (P:Program)(t:TypeId):Option Sh:=
 match P.underlying t with
 | some .bool=>some (.leaf .bool)
 | some (.interface _)=>some .iface
 | some (.slice _)=>some .slice
 | some (.struct _) | some (.array _ _)=>if P.eqGuardType P.depth t then none else match Q0 P t with
  | some n=>(AM P 6 t 0).map (.flds n)
  | none=>none
 | _=>none
def WY (P:Program)(op:BinOp)(t:TypeId)(x y:Opd):Option Zw:=
 match op with
 | .eql | .neq=>match P.underlying t with
  | some (.int _) | some .string=>some (oB op x y)
  | some (.pointer e)=>if(P.info? e).isSome then some (GQ (op==.neq) x y) else none
  | _=>(RB P t).map fun sh=>GR (op==.neq) sh x (FP sh y)
 | _=>some (oB op x y)
def TX (P:Program)(c:Call):Option Zw:=
 match Qx c.args.toList,c.argTypes.toList with
 | some [b, x], [t, u] => match P.underlying t, P.underlying u with
   | some (.slice e),some ud=>match P.info? e,Gv P e with
    | some i,some z=>if i.size=0∨z.length≠i.size∨DD e=false then none else match ud with
     | .slice _=>some (Y5 false i.size i.bytes b x)
     | .string=>if i.size=1 then some (Y5 true i.size i.bytes b x) else none
     | _=>none
    | _,_=>none
   | _,_=>none
 | _,_=>none
def TW (P:Program)(c:Call):Option Zw:=
 match Qx c.args.toList,c.argTypes.toList with
 | some [x],[t]=>match P.underlying t with
  | some (.slice e)=>match Gv P e with
   | some z=>if z.length=0 then none else some (SW z x)
   | none=>none
  | _=>none
 | _,_=>none
def BZ (P:Program)(c:Call):Option Zw:=
 match c.callee with
 | .value f=>match Zx f,Qx c.args.toList with
  | some f,some l=>some (oK f l)
  | _,_=>none
 | .builtin b=>
  match b,Qx c.args.toList,c.argTypes.toList with
  | .len,some [x],t::_=>match P.underlying t with
   | some .string=>some (SU x)
   | some (.slice _)=>some (BS x)
   | some (.array n _)=>some (V7 n)
   | _=>none
  | .min,some l,_=>some (D1 false l)
  | .max,some l,_=>some (D1 true l)
  | .append,_,_=>TX P c
  | .clear,_,_=>TW P c
  | _,_,_=>none
 | _=>none
def XC (P:Program)(g:FuncId):Option Xt:=
 match P.funcs[g]? with
 | some fn=>
  if fn.body.isNone=true/\(Extern.findNext fn).isNone=true then
   (if fn.name = "internal/abi.NoEscape" then some .esc else if fn.name = "internal/bytealg.IndexByteString" then some .ixb else if fn.name = "internal/bytealg.CountString" then some .cnt else none)
  else none
 | none=>none
def KP (P:Program)(c:Call):Option Zw:=
 match c.callee with
 | .value (.func g)=>match XC P g,Qx c.args.toList with
  | some k,some l=>some (Z25 k l)
  | _,_=>none
 | _=>none
def ZN (P:Program):Op->Option Zw
 | .move x | .assign x=>(Zx x).map oV
 | .pick c a b=>match Zx c,Zx a,Zx b with
  | some c,some a,some b=>some (QE c a b)
  | _,_,_=>none
 | .build t parts=>match P.info? t,P.underlying t with
  | some it,some (.array _ e)=>match it.zero,P.info? e with
   | some z,some ie=>match KC z,D9 (fun i=>some (i*ie.size,ie.size)) parts.toList with
    | some zs,some ps=>some (Qq zs ps)
    | _,_=>none
   | _,_=>none
  | some it,some (.struct fields)=>match it.zero,fields.toList.mapM (fun f=>(P.info? f.type).map fun i=>(f.offset,i.size)) with
   | some z,some places=>match KC z,D9 (fun i=>places.toArray[i]?) parts.toList with
    | some zs,some ps=>some (Qq zs ps)
    | _,_=>none
   | _,_=>none
  | _,_=>none
 | .fieldAddr t x i=>match P.underlying t,Zx x with
  | some (.struct fields),some x=>match WV P fields i with
   | some (o,s)=>if s=0 then none else some (oA x o)
   | none=>none
  | _,_=>none
 | .field t x i=>match P.underlying t,Zx x with
  | some (.struct fields),some x=>match fields[i]? with
   | some f=>match Aj P f.type,Q0 P f.type with
    | some ag,some s=>if ag=false/\s≠1 then none else some (GP x f.offset ag s)
    | _,_=>none
   | none=>none
  | _,_=>none
 | .indexAddr t x ix=>match P.underlying t,Zx x,Zx ix with
  | some (.array n e),some x,some ix=>(Q0 P e).map (C5 x ix n)
  | some (.slice e),some x,some ix=>(Q0 P e).map (DE x ix)
  | _,_,_=>none
 | .index t x ix=>match P.underlying t,Zx x,Zx ix with
  | some (.array n e),some x,some ix=>match Aj P e,Q0 P e with
   | some ag,some s=>if ag=false/\s≠1 then none else some (V8 x ix n s ag s)
   | _,_=>none
  | some .string,some x,some ix=>some (V9 x ix)
  | _,_,_=>none
 | .extract x i=>(Zx x).map fun x=>SV x i
 | .unOp op _ x=>(Zx x).map (AG op)
 | .binOp op t x y _=>match Zx x,Zx y with
  | some x,some y=>WY P op t x y
  | _,_=>none
 | .convert s d x=>match P.underlying s,P.underlying d,Zx x with
  | some (.int _),some (.int k),some x=>some (D2 k x)
  | some (.int _),some .string,some x | some .string,some .string,some x=>some (PT x)
  | some (.slice e),some .string,some x=>match P.underlying e with
   | some (.int .u8)=>some (EV false x)
   | some (.int .i32)=>some (EV true x)
   | _=>none
  | _,_,_=>none
 | .nilCheck x=>(Zx x).map Jq
 | .makeInterface t x=>match P.underlying t,Zx x with
  | some (.interface _),_=>none
  | some _,some x=>some (Nq t x)
  | _,_=>none
 | .makeFunc f first captured=>if first.size=0 then(Qx captured.toList).map (PS f) else none
 | .typeAssert x _ t ok=>match P.underlying t,Zx x,(P.info? t).bind (·.zero) with
  | some (.interface _),_,_=>none
  | some _,some x,some z=>if PP z then some (Z26 x t (ofV z) ok) else none
  | _,_,_=>none
 | .slice t x lo hi mx=>match P.underlying t,Zx x,AQ lo,AQ hi,AQ mx with
  | some (.slice e),some x,some lo,some hi,some mx=>(Q0 P e).map (GN x lo hi mx)
  | some .string,some x,some lo,some hi,some none=>some (V6 x lo hi)
  | some (.array n e),some x,some lo,some hi,some mx=>(Q0 P e).map (PQ x lo hi mx n)
  | _,_,_,_,_=>none
 | .load t a=>match Zx a,Aj P t,Q0 P t with
  | some a,some ag,some s=>some (oL a ag s)
  | _,_,_=>none
 | .store t a x=>match Zx a,Zx x,Q0 P t with
  | some a,some x,some s=>some (oS a x s)
  | _,_,_=>none
 | .alloc t=>if DD t=true then(Gv P t).map YC else none
 | .box t x=>if DD t=true then(Zx x).map Y0 else none
 | .buildSlice t len parts=>match P.underlying t with
  | some (.slice e)=>match Q0 P e,Gv P e with
   | some s,some z=>if len*s<=4096/\z.length=s/\s≠0/\DD e=true then(D9 (fun i=>some (i*s,s)) parts.toList).map (Y2 (rep z len) len s) else none
   | _,_=>none
  | _=>none
 | .makeSlice t l c=>match P.underlying t,Zx l,Zx c with
  | some (.slice e),some l,some c=>match P.info? e,Gv P e with
   | some i,some z=>if z.length=i.size/\i.size≠0/\DD e=true then some (M3 z i.size i.bytes l c) else none
   | _,_=>none
  | _,_,_=>none
 | .call c=>match KP P c with
  | some f=>some f
  | none=>BZ P c
 | .range t x=>match P.underlying t,Zx x with
  | some .string,some x=>some (SS x)
  | _,_=>none
 | .next x s=>if s then(Zx x).map ST else none
 | _=>none
def KD (ops:Array Oper):Option (Nat×Bool)->Option (Option (Nat×Bool))
 | none=>some none
 | some (j,want)=>match(ops[j]?).bind (·.dst) with
  | some t=>some (some (t,want))
  | none=>none
def H4 (P:Program)(ops:Array Oper)(o:Oper):Option Stp:=
 match KD ops o.guard with
 | some g=>some ⟨o.dst,g,(ZN P o.op).getD Nk⟩
 | none=>none
def A9 (P:Program)(ops:Array Oper):List Oper->Option (List Stp)
 | []=>some []
 | o::l=>match H4 P ops o,A9 P ops l with
  | some a,some b=>some (a::b)
  | _,_=>none
inductive Kd where
 | P | M | X
 | L (a:Operand)
 | S (a:Operand)
def ZH (P:Program):Op->Kd
 | .convert s _ _=>match P.underlying s with
  | some (.slice _)=>.X
  | _=>.P
 | .slice t _ _ _ _=>match P.underlying t with
  | some (.array _ _)=>.X
  | _=>.P
 | .load _ a=>.L a
 | .store _ a _=>.S a
 | .alloc _ | .box _ _ | .buildSlice _ _ _ | .makeSlice _ _ _ | .range _ _=>.M
 | .next _ _=>.X
 | .binOp _ t _ _ _=>match P.underlying t with
  | some (.pointer _)=>.X
  | _=>.P
 | .call c=>match c.callee with
  | .builtin .append=>.X
  | .builtin .clear=>.X
  | .builtin _=>.P
  | _=>if(KP P c).isSome then .P else .X
 | _=>.P
def Kj (as:List Nat):List Edge->Nat
 | []=>0
 | e::l=>bif Region.binds .any e then 2^e.on ||| (as.getD e.on 0 ||| Kj as l) else Kj as l
def MK:List Oper->List Nat->List Nat
 | [],done=>done
 | o::l,done=>MK l (done++[Kj done o.after.toList])
def TJ (as:List Nat)(j:Nat)(o:Oper):Bool:=
 Nat.beq (as.getD j 0) (Kj as o.after.toList)&&o.after.toList.all (fun e=> !Region.binds .any e || Nat.blt e.on j)
def HF:List Operand->List Nat
 | []=>[]
 | .tmp t::l=>t::HF l
 | _::l=>HF l
def CZ (ops:Array Oper)(o:Oper):List Nat:=
 HF o.op.operands.toList++(match o.guard with
  | some (j,_)=>match(ops[j]?).bind (·.dst) with
   | some t=>[t]
   | none=>[]
  | none=>[])
def UZ:Option Nat->Option Nat->Bool
 | some t,some u=> !Nat.beq t u
 | _,_=>true
def M8 (t:Option Nat)(l:List Nat):Bool:=
 match t with
 | some t=>ZW t l
 | none=>false
def BT (i j:Nat):List (Nat×Nat)->Bool
 | []=>false
 | p::l=>(Nat.beq p.1 i&&Nat.beq p.2 j) || BT i j l
def GW (k:Nat)(ps:List (Nat×Nat)):Bool:=ps.any fun p=>Nat.beq p.1 k || Nat.beq p.2 k
def D8 (fl i:Nat):Bool:=fl.testBit (2*i)&& !fl.testBit (2*i+1)
def F1 (fl i:Nat):Bool:=fl.testBit (2*i+1)
def Tj (fl:Nat)(ps:List (Nat×Nat))(i j:Nat):Kd->Kd->Bool
 | .P,_=>true
 | _,.P=>true
 | .S _,.S _=>false
 | .S _,.X=>false
 | .X,.S _=>false
 | .S _,.L _=>BT i j ps
 | .L _,.S _=>BT j i ps
 | .X,.X=>D8 fl i&&D8 fl j
 | .X,.M=>D8 fl i || F1 fl i
 | .X,.L _=>D8 fl i || BT i j ps
 | .L _,.X=>D8 fl j || BT j i ps
 | _,.X=>D8 fl j
 | _,_=>true
def HP (P:Program)(ops:Array Oper)(as:List Nat)(fl:Nat)(ps:List (Nat×Nat))(i j:Nat)(x y:Oper):Bool:=
 UZ x.dst y.dst&&((as.getD j 0).testBit i || !M8 x.dst (CZ ops y))&&(!M8 y.dst (CZ ops x) || ((as.getD j 0).testBit i&& !GW i ps))&&
  ((as.getD j 0).testBit i || Tj fl ps i j (ZH P x.op) (ZH P y.op))
def Z61 (P:Program)(ops:Array Oper)(as:List Nat)(fl:Nat)(ps:List (Nat×Nat)):Bool:=
 (List.range ops.size).all fun j => match ops[j]? with
  | some y=>TJ as j y&&(!M8 y.dst (CZ ops y) || !GW j ps)&&(List.range j).all fun i=>match ops[i]? with
   | some x=>HP P ops as fl ps i j x y
   | none=>false
  | none=>false
def Kd.isP:Kd->Bool
 | .P=>true
 | _=>false
def Kd.isX:Kd->Bool
 | .X=>true
 | _=>false
def Kd.isL:Kd->Bool
 | .L _=>true
 | _=>false
def Kd.isM:Kd->Bool
 | .M=>true
 | _=>false
def Z40 (ks:List Kd)(as:List Nat)(ys:List Bool):Nat:=
 (List.range ks.length).foldr (fun i r => if (ks.getD i .P).isX && (List.range ks.length).any (fun j => !Nat.beq i j && !(ks.getD j .P).isP && !((ks.getD j .P).isL && ys.getD i false) && !(as.getD (max i j) 0).testBit (min i j)) then
  (if(List.range ks.length).all (fun j=>Nat.beq i j || (ks.getD j .P).isP || ((ks.getD j .P).isL&&ys.getD i false) || (as.getD (max i j) 0).testBit (min i j) || (Nat.blt i j&&(ks.getD j .P).isM)) then 2^(2*i+1) else 2^(2*i)) ||| r else r) 0
def Z1q (ks:List Kd)(as:List Nat)(ys:List Bool):List (Nat×Nat):=
 (List.range ks.length).flatMap fun j => (List.range j).flatMap fun i => if (as.getD j 0).testBit i then [] else match ks.getD i .P, ks.getD j .P with
  | .S _,.L _=>[(i,j)]
  | .L _,.S _=>[(j,i)]
  | .X,.L _=>if ys.getD i false then[(i,j)] else[]
  | .L _,.X=>if ys.getD j false then[(j,i)] else[]
  | _,_=>[]
def Zcn (P:Program):Op->Bool
 | .call c=>match c.callee with
  | .value _=>c.argTypes.any fun t=>match P.underlying t with
   | some (.pointer _)=>true
   | _=>false
  | _=>false
 | _=>false
def QP (P:Program)(ops:Array Oper)(i:Nat):Option Opd:=
 match ops[i]? with
 | some o=>match ZH P o.op with
  | .L a=>Zx a
  | .S a=>Zx a
  | _=>none
 | none=>none
def EY (P:Program)(ops:Array Oper)(i:Nat):Bool:=
 match ops[i]? with
 | some o=>(ZH P o.op).isX
 | none=>false
def RF (P:Program)(ops:Array Oper):List (Nat×Nat)->Option (List (Opd×Opd))
 | []=>some []
 | p::l=>bif EY P ops p.1 then RF P ops l else match QP P ops p.1,QP P ops p.2,RF P ops l with
  | some a,some b,some r=>some ((a,b)::r)
  | _,_,_=>none
def RE (P:Program)(ops:Array Oper):List (Nat×Nat)->Option (List (Nat×Opd))
 | []=>some []
 | p::l=>bif EY P ops p.1 then(match QP P ops p.2,RE P ops l with
  | some b,some r=>some ((p.1,b)::r)
  | _,_=>none) else RE P ops l
def C8 (fl i:Nat):Kd->Fl
 | .P=>.pure
 | .S _=>.any
 | .X=>if F1 fl i then .tn else if D8 fl i then .mk else .any
 | _=>.mk
def G5 (P:Program)(fl:Nat):Nat->List Oper->List Stp->List (Fl×Stp)
 | i,o::os,s::l=>(C8 fl i (ZH P o.op),s)::G5 P fl (i+1) os l
 | _,_,_=>[]
def Z6s (P:Program)(ops:Array Oper)(as:List Nat)(fl:Nat)(ps:List (Nat×Nat)):Option CT:=
 match A9 P ops ops.toList,RF P ops ps,RE P ops ps with
 | some l,some qs,some ls=>if Z61 P ops as fl ps then some (match ls with
  | []=>Q3 (G5 P fl 0 ops.toList l) qs
  | _=>Zih (G5 P fl 0 ops.toList l) qs ls) else none
 | _,_,_=>none
def Zfk:Op->Bool
 | .call c=>match c.callee with
  | .builtin .append=>true
  | _=>false
 | _=>false
def XB (P:Program)(ops:Array Oper)(as:List Nat):List Bool:=
 (List.range ops.size).map fun i => match ops[i]? with
  | some o=>Zcn P o.op || (Zfk o.op&&(List.range ops.size).all fun j=> !Nat.blt i j || (as.getD j 0).testBit i || (match ops[j]? with
   | some y=> !(ZH P y.op).isL
   | none=>true))
  | none=>false
def WW (P:Program)(ops:Array Oper):Option CT:=
 Z6s P ops (MK ops.toList []) (Z40 (ops.toList.map fun o=>ZH P o.op) (MK ops.toList []) (XB P ops (MK ops.toList []))) (Z1q (ops.toList.map fun o=>ZH P o.op) (MK ops.toList []) (XB P ops (MK ops.toList [])))
def F2:Code->Nat
 | .region id _ _=>id+1
 | .seq a b=>match F2 a with
  | 0=>F2 b
  | n=>n
 | .cond _ a b=>match F2 a with
  | 0=>F2 b
  | n=>n
 | .block _ c=>F2 c
 | .loop c=>F2 c
 | _=>0
def QZ (P:Program):Bool->Code->Option CT
 | _,.skip=>some cK
 | _,.region _ ops false=>(A9 P ops ops.toList).map Z3
 | _,.region _ ops true=>WW P ops
 | rg,.seq a b=>match QZ P rg a,QZ P rg b with
  | some a,some b=>some (cQ a b)
  | _,_=>none
 | rg,.cond c' x y=>match Zx c',QZ P rg x,QZ P rg y with
  | some c,some a,some b=>some (cJ (2*F2 (.cond c' x y)+1) c a b)
  | _,_,_=>none
 | rg,.block id c=>(QZ P rg c).map (ZK id)
 | rg,.loop c=>(QZ P rg c).map (Qw (2*F2 c))
 | _,.exit id=>some (Q2 id)
 | _,.label _=>some cK
 | _,.ret=>some cZ
 | true,.rangeFunc f ps a b=>match Zx f,QZ P false a,QZ P false b with
  | some f,some a,some b=>if ps.size=2 then some (RC f ps.toList a b) else none
  | _,_,_=>none
 | _,_=>none
abbrev Zii (P:Program):Code->Option CT:=QZ P true
def F8 (P:Program):List ResultVar->Option (List IRes)
 | []=>some []
 | .tmp t::l=>(F8 P l).map (.tmp t:: ·)
 | .cell a t::l=>match Aj P t,Q0 P t,F8 P l with
  | some ag,some n,some r=>some (.cell a ag n::r)
  | _,_,_=>none
def GA (P:Program)(f:FuncId):Option (Env->cT->cT):=
 match P.funcs[f]? with
 | some fn=>match fn.body with
  | some c => if fn.name = "runtime.NumGoroutine" then none else
   match Zii P c,F8 P fn.results.toList with
   | some c,some r=>some (Y7 fn.ntmps r c)
   | _,_=>none
  | none=>none
 | none=>none
end Go.Aug
