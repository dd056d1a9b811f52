import Derived.Test.YthnhboimcidhgaaGreatDoorEvGt
import GoSem.Extern.Table
namespace Go.Aug
open Go
def ofV1:Value->DV
 | .slice none 0 0=>.lst [] 0 (some 0)
 | x=>.v x
def ofV:Value->DV
 | .agg cs=>.agg (cs.toList.map ofV1)
 | x=>ofV1 x
def rawN:Sh->Opd->Opd
 | .slice,.c (.lst [] 0 (some 0))=>.c (.v (.slice none 0 0))
 | _,x=>x
def okV:Value->Bool
 | .agg cs=>cs.toList.all Value.oneCell'
 | .tuple _=>false
 | _=>true
def cOpd:Operand->Option Opd
 | .tmp t=>some (.t t)
 | .const v=>if okV v then some (.c (ofV v)) else none
 | .func f=>some (.f f)
 | .global g=>(globT g).map fun cs=>.c (.vptr cs)
def cOpds:List Operand->Option (List Opd)
 | []=>some []
 | x::l=>match cOpd x,cOpds l with
  | some a,some b=>some (a::b)
  | _,_=>none
def cOpt:Option Operand->Option (Option Opd)
 | none=>some none
 | some x=>(cOpd x).map some
def cZeroOf (z:Value):Option (List AV):=
 if z.cells.toList.all Value.oneCell' then some (z.cells.toList.map fun x=>.d (ofV1 x)) else none
def cZero (P:Program)(t:TypeId):Option (List AV):=
 match P.info? t with
 | some i=>match i.zero with
  | some z=>cZeroOf z
  | none=>none
 | none=>none
def cSize (P:Program)(t:TypeId):Option Nat:=(P.info? t).map (·.size)
def cAgg (P:Program)(t:TypeId):Option Bool:=
 match P.underlying t with
 | some (.struct _) | some (.array _ _)=>some true
 | some _=>some false
 | none=>none
def cParts (place:Nat->Option (Nat×Nat)):List (Nat×Operand)->Option (List (Nat×Nat×Opd))
 | []=>some []
 | (i,x)::l=>match place i,cOpd x,cParts place l with
  | some (o,s),some x,some r=>some ((o,s,x)::r)
  | _,_,_=>none
def cField (P:Program)(fields:Array Field)(i:Nat):Option (Nat×Nat):=
 match fields[i]? with
 | some f=>(cSize P f.type).map fun s=>(f.offset,s)
 | none=>none
def leaves (P:Program):Nat->TypeId->Nat->Option (List (Nat×Lf))
 | 0,_,_=>none
 | d+1,t,off=>
  match P.underlying t with
  | some .bool=>some [(off,.bool)]
  | some (.int _)=>some [(off,.int)]
  | some .string=>some [(off,.str)]
  | some (.struct fields)=>
   if P.stoodInHeld t then none else leafFields (leaves P d) (cSize P) (cSize P t) off fields.toList
  | some (.array len elem)=>if(cSize P elem).isNone then none else leafItems (leaves P d) (cSize P elem) (cSize P t) elem off (List.range len)
  | _=>none
where
 leafFields (go:TypeId->Nat->Option (List (Nat×Lf))) (size:TypeId->Option Nat) (n:Option Nat) (off:Nat):List Field->Option (List (Nat×Lf))
 | []=>some []
 | f::fs=>match go f.type (off+f.offset),leafFields go size n off fs,size f.type,n with
  | some l, some r, some s, some n => if f.name = "_" ∨ n < f.offset + s ∨ s = 0 then none else some (l ++ r)
  | _,_,_,_=>none
 leafItems (go:TypeId->Nat->Option (List (Nat×Lf))) (s n:Option Nat) (elem:TypeId) (off:Nat):List Nat->Option (List (Nat×Lf))
 | []=>some []
 | i::is=>match s,n with
  | some s',some n'=>match go elem (off+i*s'),leafItems go s n elem off is with
   | some l,some r=>if n'<i*s'+s'∨s'=0 then none else some (l++r)
   | _,_=>none
  | _,_=>none
def cSh (P:Program)(t:TypeId):Option Sh:=
 match P.underlying t with
 | some .bool=>some (.leaf .bool)
 | some (.interface _)=>some .iface
 | some (.slice _)=>some .slice
 | some (.struct _) | some (.array _ _)=>if P.eqGuardType P.depth t then none else match cSize P t with
  | some n=>(leaves P 6 t 0).map (.flds n)
  | none=>none
 | _=>none
def cBin (P:Program)(op:BinOp)(t:TypeId)(x y:Opd):Option OpF:=
 match op with
 | .eql | .neq=>match P.underlying t with
  | some (.int _) | some .string=>some (oB op x y)
  | some (.pointer e)=>if(P.info? e).isSome then some (oEqP (op==.neq) x y) else none
  | _=>(cSh P t).map fun sh=>oEq (op==.neq) sh x (rawN sh y)
 | _=>some (oB op x y)
def cAppend (P:Program)(c:Call):Option OpF:=
 match cOpds c.args.toList,c.argTypes.toList with
 | some [b, x], [t, u] => match P.underlying t, P.underlying u with
   | some (.slice e),some ud=>match P.info? e,cZero P e with
    | some i,some z=>if i.size=0∨z.length≠i.size∨okT e=false then none else match ud with
     | .slice _=>some (oApp false i.size i.bytes b x)
     | .string=>if i.size=1 then some (oApp true i.size i.bytes b x) else none
     | _=>none
    | _,_=>none
   | _,_=>none
 | _,_=>none
def cCall (P:Program)(c:Call):Option OpF:=
 match c.callee with
 | .value f=>match cOpd f,cOpds c.args.toList with
  | some f,some l=>some (oK f l)
  | _,_=>none
 | .builtin b=>
  match b,cOpds c.args.toList,c.argTypes.toList with
  | .len,some [x],t::_=>match P.underlying t with
   | some .string=>some (oLenT x)
   | some (.slice _)=>some (oLenS x)
   | some (.array n _)=>some (oLenA n)
   | _=>none
  | .min,some l,_=>some (oMM false l)
  | .max,some l,_=>some (oMM true l)
  | .append,_,_=>cAppend P c
  | _,_,_=>none
 | _=>none
def xtOf (P:Program)(g:FuncId):Option Xt:=
 match P.funcs[g]? with
 | some fn=>
  if fn.body.isNone=true/\(Extern.findNext fn).isNone=true then
   (if fn.name = "internal/abi.NoEscape" then some .esc else if fn.name = "internal/bytealg.IndexByteString" then some .ixb else if fn.name = "internal/bytealg.CountString" then some .cnt else none)
  else none
 | none=>none
def xtCall (P:Program)(c:Call):Option OpF:=
 match c.callee with
 | .value (.func g)=>match xtOf P g,cOpds c.args.toList with
  | some k,some l=>some (oXt k l)
  | _,_=>none
 | _=>none
def cOp (P:Program):Op->Option OpF
 | .move x | .assign x=>(cOpd x).map oV
 | .pick c a b=>match cOpd c,cOpd a,cOpd b with
  | some c,some a,some b=>some (oPick c a b)
  | _,_,_=>none
 | .build t parts=>match P.info? t,P.underlying t with
  | some it,some (.array _ e)=>match it.zero,P.info? e with
   | some z,some ie=>match cZeroOf z,cParts (fun i=>some (i*ie.size,ie.size)) parts.toList with
    | some zs,some ps=>some (oBuild zs ps)
    | _,_=>none
   | _,_=>none
  | some it,some (.struct fields)=>match it.zero,fields.toList.mapM (fun f=>(P.info? f.type).map fun i=>(f.offset,i.size)) with
   | some z,some places=>match cZeroOf z,cParts (fun i=>places.toArray[i]?) parts.toList with
    | some zs,some ps=>some (oBuild zs ps)
    | _,_=>none
   | _,_=>none
  | _,_=>none
 | .fieldAddr t x i=>match P.underlying t,cOpd x with
  | some (.struct fields),some x=>match cField P fields i with
   | some (o,s)=>if s=0 then none else some (oA x o)
   | none=>none
  | _,_=>none
 | .field t x i=>match P.underlying t,cOpd x with
  | some (.struct fields),some x=>match fields[i]? with
   | some f=>match cAgg P f.type,cSize P f.type with
    | some ag,some s=>if ag=false/\s≠1 then none else some (oPart x f.offset ag s)
    | _,_=>none
   | none=>none
  | _,_=>none
 | .indexAddr t x ix=>match P.underlying t,cOpd x,cOpd ix with
  | some (.array n e),some x,some ix=>(cSize P e).map (oIxA x ix n)
  | some (.slice e),some x,some ix=>(cSize P e).map (oIxS x ix)
  | _,_,_=>none
 | .index t x ix=>match P.underlying t,cOpd x,cOpd ix with
  | some (.array n e),some x,some ix=>match cAgg P e,cSize P e with
   | some ag,some s=>if ag=false/\s≠1 then none else some (oIxP x ix n s ag s)
   | _,_=>none
  | some .string,some x,some ix=>some (oIxB x ix)
  | _,_,_=>none
 | .extract x i=>(cOpd x).map fun x=>oExt x i
 | .unOp op _ x=>(cOpd x).map (oUn op)
 | .binOp op t x y _=>match cOpd x,cOpd y with
  | some x,some y=>cBin P op t x y
  | _,_=>none
 | .convert s d x=>match P.underlying s,P.underlying d,cOpd x with
  | some (.int _),some (.int k),some x=>some (oCint k x)
  | some (.int _),some .string,some x | some .string,some .string,some x=>some (oCstr x)
  | some (.slice e),some .string,some x=>match P.underlying e with
   | some (.int .u8)=>some (oText false x)
   | some (.int .i32)=>some (oText true x)
   | _=>none
  | _,_,_=>none
 | .nilCheck x=>(cOpd x).map oNilck
 | .makeInterface t x=>match P.underlying t,cOpd x with
  | some (.interface _),_=>none
  | some _,some x=>some (oMki t x)
  | _,_=>none
 | .makeFunc f first captured=>if first.size=0 then(cOpds captured.toList).map (oFnc f) else none
 | .typeAssert x _ t ok=>match P.underlying t,cOpd x,(P.info? t).bind (·.zero) with
  | some (.interface _),_,_=>none
  | some _,some x,some z=>if okV z then some (oAsrt x t (ofV z) ok) else none
  | _,_,_=>none
 | .slice t x lo hi mx=>match P.underlying t,cOpd x,cOpt lo,cOpt hi,cOpt mx with
  | some (.slice e),some x,some lo,some hi,some mx=>(cSize P e).map (oSlS x lo hi mx)
  | some .string,some x,some lo,some hi,some none=>some (oSlT x lo hi)
  | some (.array n e),some x,some lo,some hi,some mx=>(cSize P e).map (oSlA x lo hi mx n)
  | _,_,_,_,_=>none
 | .load t a=>match cOpd a,cAgg P t,cSize P t with
  | some a,some ag,some s=>some (oL a ag s)
  | _,_,_=>none
 | .store t a x=>match cOpd a,cOpd x,cSize P t with
  | some a,some x,some s=>some (oS a x s)
  | _,_,_=>none
 | .alloc t=>if okT t=true then(cZero P t).map oNew else none
 | .box t x=>if okT t=true then(cOpd x).map oBox else none
 | .buildSlice t len parts=>match P.underlying t with
  | some (.slice e)=>match cSize P e,cZero P e with
   | some s,some z=>if len*s<=4096/\z.length=s/\s≠0/\okT e=true then(cParts (fun i=>some (i*s,s)) parts.toList).map (oMkS (rep z len) len s) else none
   | _,_=>none
  | _=>none
 | .makeSlice t l c=>match P.underlying t,cOpd l,cOpd c with
  | some (.slice e),some l,some c=>match P.info? e,cZero P e with
   | some i,some z=>if z.length=i.size/\i.size≠0/\okT e=true then some (oMake z i.size i.bytes l c) else none
   | _,_=>none
  | _,_,_=>none
 | .call c=>match xtCall P c with
  | some f=>some f
  | none=>cCall P c
 | .range t x=>match P.underlying t,cOpd x with
  | some .string,some x=>some (oRange x)
  | _,_=>none
 | .next x s=>if s then(cOpd x).map oNext else none
 | _=>none
def cGuard (ops:Array Oper):Option (Nat×Bool)->Option (Option (Nat×Bool))
 | none=>some none
 | some (j,want)=>match(ops[j]?).bind (·.dst) with
  | some t=>some (some (t,want))
  | none=>none
def cOper (P:Program)(ops:Array Oper)(o:Oper):Option Stp:=
 match cGuard ops o.guard with
 | some g=>some ⟨o.dst,g,(cOp P o.op).getD oNone⟩
 | none=>none
def cOpers (P:Program)(ops:Array Oper):List Oper->Option (List Stp)
 | []=>some []
 | o::l=>match cOper P ops o,cOpers P ops l with
  | some a,some b=>some (a::b)
  | _,_=>none
inductive Kd where
 | P | M | X
 | L (a:Operand)
 | S (a:Operand)
def kdOf (P:Program):Op->Kd
 | .convert s _ _=>match P.underlying s with
  | some (.slice _)=>.X
  | _=>.P
 | .slice t _ _ _ _=>match P.underlying t with
  | some (.array _ _)=>.X
  | _=>.P
 | .load _ a=>.L a
 | .store _ a _=>.S a
 | .alloc _ | .box _ _ | .buildSlice _ _ _ | .makeSlice _ _ _ | .range _ _=>.M
 | .next _ _=>.X
 | .binOp _ t _ _ _=>match P.underlying t with
  | some (.pointer _)=>.X
  | _=>.P
 | .call c=>match c.callee with
  | .builtin .append=>.X
  | .builtin _=>.P
  | _=>if(xtCall P c).isSome then .P else .X
 | _=>.P
def edgeBits (as:List Nat):List Edge->Nat
 | []=>0
 | e::l=>bif Region.binds .any e then 2^e.on ||| (as.getD e.on 0 ||| edgeBits as l) else edgeBits as l
def ancB:List Oper->List Nat->List Nat
 | [],done=>done
 | o::l,done=>ancB l (done++[edgeBits done o.after.toList])
def edgesOk (as:List Nat)(j:Nat)(o:Oper):Bool:=
 Nat.beq (as.getD j 0) (edgeBits as o.after.toList)&&o.after.toList.all (fun e=> !Region.binds .any e || Nat.blt e.on j)
def tmpsOf:List Operand->List Nat
 | []=>[]
 | .tmp t::l=>t::tmpsOf l
 | _::l=>tmpsOf l
def readsOf (ops:Array Oper)(o:Oper):List Nat:=
 tmpsOf o.op.operands.toList++(match o.guard with
  | some (j,_)=>match(ops[j]?).bind (·.dst) with
   | some t=>[t]
   | none=>[]
  | none=>[])
def optNe:Option Nat->Option Nat->Bool
 | some t,some u=> !Nat.beq t u
 | _,_=>true
def memO (t:Option Nat)(l:List Nat):Bool:=
 match t with
 | some t=>memN t l
 | none=>false
def memP (i j:Nat):List (Nat×Nat)->Bool
 | []=>false
 | p::l=>(Nat.beq p.1 i&&Nat.beq p.2 j) || memP i j l
def inPs (k:Nat)(ps:List (Nat×Nat)):Bool:=ps.any fun p=>Nat.beq p.1 k || Nat.beq p.2 k
def flM (fl i:Nat):Bool:=fl.testBit (2*i)&& !fl.testBit (2*i+1)
def flT (fl i:Nat):Bool:=fl.testBit (2*i+1)
def kdPair (fl:Nat)(ps:List (Nat×Nat))(i j:Nat):Kd->Kd->Bool
 | .P,_=>true
 | _,.P=>true
 | .S _,.S _=>false
 | .S _,.X=>false
 | .X,.S _=>false
 | .S _,.L _=>memP i j ps
 | .L _,.S _=>memP j i ps
 | .X,.X=>flM fl i&&flM fl j
 | .X,.M=>flM fl i || flT fl i
 | .X,.L _=>flM fl i || memP i j ps
 | .L _,.X=>flM fl j || memP j i ps
 | _,.X=>flM fl j
 | _,_=>true
def pairOk (P:Program)(ops:Array Oper)(as:List Nat)(fl:Nat)(ps:List (Nat×Nat))(i j:Nat)(x y:Oper):Bool:=
 optNe x.dst y.dst&&((as.getD j 0).testBit i || !memO x.dst (readsOf ops y))&&(!memO y.dst (readsOf ops x) || ((as.getD j 0).testBit i&& !inPs i ps))&&
  ((as.getD j 0).testBit i || kdPair fl ps i j (kdOf P x.op) (kdOf P y.op))
def drawnChk (P:Program)(ops:Array Oper)(as:List Nat)(fl:Nat)(ps:List (Nat×Nat)):Bool:=
 (List.range ops.size).all fun j => match ops[j]? with
  | some y=>edgesOk as j y&&(!memO y.dst (readsOf ops y) || !inPs j ps)&&(List.range j).all fun i=>match ops[i]? with
   | some x=>pairOk P ops as fl ps i j x y
   | none=>false
  | none=>false
def Kd.isP:Kd->Bool
 | .P=>true
 | _=>false
def Kd.isX:Kd->Bool
 | .X=>true
 | _=>false
def Kd.isL:Kd->Bool
 | .L _=>true
 | _=>false
def Kd.isM:Kd->Bool
 | .M=>true
 | _=>false
def flOf (ks:List Kd)(as:List Nat)(ys:List Bool):Nat:=
 (List.range ks.length).foldr (fun i r => if (ks.getD i .P).isX && (List.range ks.length).any (fun j => !Nat.beq i j && !(ks.getD j .P).isP && !((ks.getD j .P).isL && ys.getD i false) && !(as.getD (max i j) 0).testBit (min i j)) then
  (if(List.range ks.length).all (fun j=>Nat.beq i j || (ks.getD j .P).isP || ((ks.getD j .P).isL&&ys.getD i false) || (as.getD (max i j) 0).testBit (min i j) || (Nat.blt i j&&(ks.getD j .P).isM)) then 2^(2*i+1) else 2^(2*i)) ||| r else r) 0
def psOf (ks:List Kd)(as:List Nat)(ys:List Bool):List (Nat×Nat):=
 (List.range ks.length).flatMap fun j => (List.range j).flatMap fun i => if (as.getD j 0).testBit i then [] else match ks.getD i .P, ks.getD j .P with
  | .S _,.L _=>[(i,j)]
  | .L _,.S _=>[(j,i)]
  | .X,.L _=>if ys.getD i false then[(i,j)] else[]
  | .L _,.X=>if ys.getD j false then[(j,i)] else[]
  | _,_=>[]
def ptrArg (P:Program):Op->Bool
 | .call c=>match c.callee with
  | .value _=>c.argTypes.any fun t=>match P.underlying t with
   | some (.pointer _)=>true
   | _=>false
  | _=>false
 | _=>false
def addrOf (P:Program)(ops:Array Oper)(i:Nat):Option Opd:=
 match ops[i]? with
 | some o=>match kdOf P o.op with
  | .L a=>cOpd a
  | .S a=>cOpd a
  | _=>none
 | none=>none
def isXAt (P:Program)(ops:Array Oper)(i:Nat):Bool:=
 match ops[i]? with
 | some o=>(kdOf P o.op).isX
 | none=>false
def cAddrs (P:Program)(ops:Array Oper):List (Nat×Nat)->Option (List (Opd×Opd))
 | []=>some []
 | p::l=>bif isXAt P ops p.1 then cAddrs P ops l else match addrOf P ops p.1,addrOf P ops p.2,cAddrs P ops l with
  | some a,some b,some r=>some ((a,b)::r)
  | _,_,_=>none
def cKeeps (P:Program)(ops:Array Oper):List (Nat×Nat)->Option (List (Nat×Opd))
 | []=>some []
 | p::l=>bif isXAt P ops p.1 then(match addrOf P ops p.2,cKeeps P ops l with
  | some b,some r=>some ((p.1,b)::r)
  | _,_=>none) else cKeeps P ops l
def fgOf (fl i:Nat):Kd->Fl
 | .P=>.pure
 | .S _=>.any
 | .X=>if flT fl i then .tn else if flM fl i then .mk else .any
 | _=>.mk
def flagged (P:Program)(fl:Nat):Nat->List Oper->List Stp->List (Fl×Stp)
 | i,o::os,s::l=>(fgOf fl i (kdOf P o.op),s)::flagged P fl (i+1) os l
 | _,_,_=>[]
def cDrawn' (P:Program)(ops:Array Oper)(as:List Nat)(fl:Nat)(ps:List (Nat×Nat)):Option CT:=
 match cOpers P ops ops.toList,cAddrs P ops ps,cKeeps P ops ps with
 | some l,some qs,some ls=>if drawnChk P ops as fl ps then some (match ls with
  | []=>cDrawn (flagged P fl 0 ops.toList l) qs
  | _=>cDrawnX (flagged P fl 0 ops.toList l) qs ls) else none
 | _,_,_=>none
def isApp:Op->Bool
 | .call c=>match c.callee with
  | .builtin .append=>true
  | _=>false
 | _=>false
def ysOf (P:Program)(ops:Array Oper)(as:List Nat):List Bool:=
 (List.range ops.size).map fun i => match ops[i]? with
  | some o=>ptrArg P o.op || (isApp o.op&&(List.range ops.size).all fun j=> !Nat.blt i j || (as.getD j 0).testBit i || (match ops[j]? with
   | some y=> !(kdOf P y.op).isL
   | none=>true))
  | none=>false
def cDrawnOps (P:Program)(ops:Array Oper):Option CT:=
 cDrawn' P ops (ancB ops.toList []) (flOf (ops.toList.map fun o=>kdOf P o.op) (ancB ops.toList []) (ysOf P ops (ancB ops.toList []))) (psOf (ops.toList.map fun o=>kdOf P o.op) (ancB ops.toList []) (ysOf P ops (ancB ops.toList [])))
def firstReg:Code->Nat
 | .region id _ _=>id+1
 | .seq a b=>match firstReg a with
  | 0=>firstReg b
  | n=>n
 | .cond _ a b=>match firstReg a with
  | 0=>firstReg b
  | n=>n
 | .block _ c=>firstReg c
 | .loop c=>firstReg c
 | _=>0
def cCodeR (P:Program):Bool->Code->Option CT
 | _,.skip=>some cK
 | _,.region _ ops false=>(cOpers P ops ops.toList).map cOz
 | _,.region _ ops true=>cDrawnOps P ops
 | rg,.seq a b=>match cCodeR P rg a,cCodeR P rg b with
  | some a,some b=>some (cQ a b)
  | _,_=>none
 | rg,.cond c' x y=>match cOpd c',cCodeR P rg x,cCodeR P rg y with
  | some c,some a,some b=>some (cJ (2*firstReg (.cond c' x y)+1) c a b)
  | _,_,_=>none
 | rg,.block id c=>(cCodeR P rg c).map (cBlock id)
 | rg,.loop c=>(cCodeR P rg c).map (cLoop (2*firstReg c))
 | _,.exit id=>some (cExit id)
 | _,.label _=>some cK
 | _,.ret=>some cZ
 | true,.rangeFunc f ps a b=>match cOpd f,cCodeR P false a,cCodeR P false b with
  | some f,some a,some b=>if ps.size=2 then some (cRange f ps.toList a b) else none
  | _,_,_=>none
 | _,_=>none
abbrev cCode (P:Program):Code->Option CT:=cCodeR P true
def cRes (P:Program):List ResultVar->Option (List IRes)
 | []=>some []
 | .tmp t::l=>(cRes P l).map (.tmp t:: ·)
 | .cell a t::l=>match cAgg P t,cSize P t,cRes P l with
  | some ag,some n,some r=>some (.cell a ag n::r)
  | _,_,_=>none
def cFunc (P:Program)(f:FuncId):Option (Env->cT->cT):=
 match P.funcs[f]? with
 | some fn=>match fn.body with
  | some c => if fn.name = "runtime.NumGoroutine" then none else
   match cCode P c,cRes P fn.results.toList with
   | some c,some r=>some (mkF fn.ntmps r c)
   | _,_=>none
  | none=>none
 | none=>none
end Go.Aug
