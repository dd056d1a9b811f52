import Derived.Test.YtmfdoekbjkgckaaGreatEvGt
import GoSem.Extern.Table
namespace Go.Aug
open Go
def ofV1:Value->DV
 | .slice none 0 0=>.lst [] 0 (some 0)
 | x=>.v x
def ofV:Value->DV
 | .agg cs=>.agg (cs.toList.map ofV1)
 | x=>ofV1 x
def G9:Sh->Opd->Opd
 | .slice,.c (.lst [] 0 (some 0))=>.c (.v (.slice none 0 0))
 | _,x=>x
def RT:Value->Bool
 | .agg cs=>cs.toList.all Value.oneCell'
 | .tuple _=>false
 | _=>true
def ZF:Operand->Option Opd
 | .tmp t=>some (.t t)
 | .const v=>if RT v then some (.c (ofV v)) else none
 | .func f=>some (.f f)
 | .global g=>(XM g).map fun cs=>.c (.vptr cs)
def J1:List Operand->Option (List Opd)
 | []=>some []
 | x::l=>match ZF x,J1 l with
  | some a,some b=>some (a::b)
  | _,_=>none
def Bw:Option Operand->Option (Option Opd)
 | none=>some none
 | some x=>(ZF x).map some
def Mw (z:Value):Option (List AV):=
 if z.cells.toList.all Value.oneCell' then some (z.cells.toList.map fun x=>.d (ofV1 x)) else none
def H7 (P:Program)(t:TypeId):Option (List AV):=
 match P.info? t with
 | some i=>match i.zero with
  | some z=>Mw z
  | none=>none
 | none=>none
def QG (P:Program)(t:TypeId):Option Nat:=(P.info? t).map (·.size)
def AW (P:Program)(t:TypeId):Option Bool:=
 match P.underlying t with
 | some (.struct _) | some (.array _ _)=>some true
 | some _=>some false
 | none=>none
def DN (place:Nat->Option (Nat×Nat)):List (Nat×Operand)->Option (List (Nat×Nat×Opd))
 | []=>some []
 | (i,x)::l=>match place i,ZF x,DN place l with
  | some (o,s),some x,some r=>some ((o,s,x)::r)
  | _,_,_=>none
def Z0r (P:Program)(fields:Array Field)(i:Nat):Option (Nat×Nat):=
 match fields[i]? with
 | some f=>(QG P f.type).map fun s=>(f.offset,s)
 | none=>none
def Bk (P:Program):Nat->TypeId->Nat->Option (List (Nat×Lf))
 | 0,_,_=>none
 | d+1,t,off=>
  match P.underlying t with
  | some .bool=>some [(off,.bool)]
  | some (.int _)=>some [(off,.int)]
  | some .string=>some [(off,.str)]
  | some (.struct fields)=>
   if P.stoodInHeld t then none else leafFields (Bk P d) (QG P) (QG P t) off fields.toList
  | some (.array len elem)=>if(QG P elem).isNone then none else leafItems (Bk P d) (QG P elem) (QG P t) elem off (List.range len)
  | _=>none
where
 leafFields (go:TypeId->Nat->Option (List (Nat×Lf))) (size:TypeId->Option Nat) (n:Option Nat) (off:Nat):List Field->Option (List (Nat×Lf))
 | []=>some []
 | f::fs=>match go f.type (off+f.offset),leafFields go size n off fs,size f.type,n with
  | some l, some r, some s, some n => if f.name = "_" ∨ n < f.offset + s ∨ s = 0 then none else some (l ++ r)
  | _,_,_,_=>none
 leafItems (go:TypeId->Nat->Option (List (Nat×Lf))) (s n:Option Nat) (elem:TypeId) (off:Nat):List Nat->Option (List (Nat×Lf))
 | []=>some []
 | i::is=>match s,n with
  | some s',some n'=>match go elem (off+i*s'),leafItems go s n elem off is with
   | some l,some r=>if n'<i*s'+s'∨s'=0 then none else some (l++r)
   | _,_=>none
  | _,_=>none
def SJ (P:Program)(t:TypeId):Option Sh:=
 match P.underlying t with
 | some .bool=>some (.leaf .bool)
 | some (.interface _)=>some .iface
 | some (.slice _)=>some .slice
 | some (.struct _) | some (.array _ _)=>if P.eqGuardType P.depth t then none else match QG P t with
  | some n=>(Bk P 6 t 0).map (.flds n)
  | none=>none
 | _=>none
def Z0u (P:Program)(op:BinOp)(t:TypeId)(x y:Opd):Option ZM:=
 match op with
 | .eql | .neq=>match P.underlying t with
  | some (.int _) | some .string=>some (oB op x y)
  | some (.pointer e)=>if(P.info? e).isSome then some (HF (op==.neq) x y) else none
  | _=>(SJ P t).map fun sh=>DC (op==.neq) sh x (G9 sh y)
 | _=>some (oB op x y)
def Vk (P:Program)(c:Call):Option ZM:=
 match J1 c.args.toList,c.argTypes.toList with
 | some [b, x], [t, u] => match P.underlying t, P.underlying u with
   | some (.slice e),some ud=>match P.info? e,H7 P e with
    | some i,some z=>if i.size=0∨z.length≠i.size∨E5 e=false then none else match ud with
     | .slice _=>some (QF false i.size i.bytes b x)
     | .string=>if i.size=1 then some (QF true i.size i.bytes b x) else none
     | _=>none
    | _,_=>none
   | _,_=>none
 | _,_=>none
def Vj (P:Program)(c:Call):Option ZM:=
 match J1 c.args.toList,c.argTypes.toList with
 | some [x],[t]=>match P.underlying t with
  | some (.slice e)=>match H7 P e with
   | some z=>if z.length=0 then none else some (P6 z x)
   | none=>none
  | _=>none
 | _,_=>none
def Cv (P:Program)(c:Call):Option ZM:=
 match c.callee with
 | .value f=>match ZF f,J1 c.args.toList with
  | some f,some l=>some (oK f l)
  | _,_=>none
 | .builtin b=>
  match b,J1 c.args.toList,c.argTypes.toList with
  | .len,some [x],t::_=>match P.underlying t with
   | some .string=>some (U2 x)
   | some (.slice _)=>some (JY x)
   | some (.array n _)=>some (WS n)
   | _=>none
  | .min,some l,_=>some (BT false l)
  | .max,some l,_=>some (BT true l)
  | .append,_,_=>Vk P c
  | .clear,_,_=>Vj P c
  | _,_,_=>none
 | _=>none
def Z1h (P:Program)(g:FuncId):Option Xt:=
 match P.funcs[g]? with
 | some fn=>
  if fn.body.isNone=true/\(Extern.findNext fn).isNone=true then
   (if fn.name = "internal/abi.NoEscape" then some .esc else if fn.name = "internal/bytealg.IndexByteString" then some .ixb else if fn.name = "internal/bytealg.CountString" then some .cnt else none)
  else none
 | none=>none
def MH (P:Program)(c:Call):Option ZM:=
 match c.callee with
 | .value (.func g)=>match Z1h P g,J1 c.args.toList with
  | some k,some l=>some (Z3x k l)
  | _,_=>none
 | _=>none
def Y5 (P:Program):Op->Option ZM
 | .move x | .assign x=>(ZF x).map oV
 | .pick c a b=>match ZF c,ZF a,ZF b with
  | some c,some a,some b=>some (YP c a b)
  | _,_,_=>none
 | .build t parts=>match P.info? t,P.underlying t with
  | some it,some (.array _ e)=>match it.zero,P.info? e with
   | some z,some ie=>match Mw z,DN (fun i=>some (i*ie.size,ie.size)) parts.toList with
    | some zs,some ps=>some (Q3 zs ps)
    | _,_=>none
   | _,_=>none
  | some it,some (.struct fields)=>match it.zero,fields.toList.mapM (fun f=>(P.info? f.type).map fun i=>(f.offset,i.size)) with
   | some z,some places=>match Mw z,DN (fun i=>places.toArray[i]?) parts.toList with
    | some zs,some ps=>some (Q3 zs ps)
    | _,_=>none
   | _,_=>none
  | _,_=>none
 | .fieldAddr t x i=>match P.underlying t,ZF x with
  | some (.struct fields),some x=>match Z0r P fields i with
   | some (o,s)=>if s=0 then none else some (oA x o)
   | none=>none
  | _,_=>none
 | .field t x i=>match P.underlying t,ZF x with
  | some (.struct fields),some x=>match fields[i]? with
   | some f=>match AW P f.type,QG P f.type with
    | some ag,some s=>if ag=false/\s≠1 then none else some (EP x f.offset ag s)
    | _,_=>none
   | none=>none
  | _,_=>none
 | .indexAddr t x ix=>match P.underlying t,ZF x,ZF ix with
  | some (.array n e),some x,some ix=>(QG P e).map (E6 x ix n)
  | some (.slice e),some x,some ix=>(QG P e).map (EQ x ix)
  | _,_,_=>none
 | .index t x ix=>match P.underlying t,ZF x,ZF ix with
  | some (.array n e),some x,some ix=>match AW P e,QG P e with
   | some ag,some s=>if ag=false/\s≠1 then none else some (WU x ix n s ag s)
   | _,_=>none
  | some .string,some x,some ix=>some (WV x ix)
  | _,_,_=>none
 | .extract x i=>(ZF x).map fun x=>U3 x i
 | .unOp op _ x=>(ZF x).map (J0 op)
 | .binOp op t x y _=>match ZF x,ZF y with
  | some x,some y=>Z0u P op t x y
  | _,_=>none
 | .convert s d x=>match P.underlying s,P.underlying d,ZF x with
  | some (.int _),some (.int k),some x=>some (FF k x)
  | some (.int _),some .string,some x | some .string,some .string,some x=>some (RU x)
  | some (.slice e),some .string,some x=>match P.underlying e with
   | some (.int .u8)=>some (KJ false x)
   | some (.int .i32)=>some (KJ true x)
   | _=>none
  | _,_,_=>none
 | .nilCheck x=>(ZF x).map JX
 | .makeInterface t x=>match P.underlying t,ZF x with
  | some (.interface _),_=>none
  | some _,some x=>some (U1 t x)
  | _,_=>none
 | .makeFunc f first captured=>if first.size=0 then(J1 captured.toList).map (MZ f) else none
 | .typeAssert x _ t ok=>match P.underlying t,ZF x,(P.info? t).bind (·.zero) with
  | some (.interface _),_,_=>none
  | some _,some x,some z=>if RT z then some (Z3y x t (ofV z) ok) else none
  | _,_,_=>none
 | .slice t x lo hi mx=>match P.underlying t,ZF x,Bw lo,Bw hi,Bw mx with
  | some (.slice e),some x,some lo,some hi,some mx=>(QG P e).map (DB x lo hi mx)
  | some .string,some x,some lo,some hi,some none=>some (WQ x lo hi)
  | some (.array n e),some x,some lo,some hi,some mx=>(QG P e).map (WR x lo hi mx n)
  | _,_,_,_,_=>none
 | .load t a=>match ZF a,AW P t,QG P t with
  | some a,some ag,some s=>some (oL a ag s)
  | _,_,_=>none
 | .store t a x=>match ZF a,ZF x,QG P t with
  | some a,some x,some s=>some (oS a x s)
  | _,_,_=>none
 | .alloc t=>if E5 t=true then(H7 P t).map Y8 else none
 | .box t x=>if E5 t=true then(ZF x).map ZN else none
 | .buildSlice t len parts=>match P.underlying t with
  | some (.slice e)=>match QG P e,H7 P e with
   | some s,some z=>if len*s<=4096/\z.length=s/\s≠0/\E5 e=true then(DN (fun i=>some (i*s,s)) parts.toList).map (Q9 (rep z len) len s) else none
   | _,_=>none
  | _=>none
 | .makeSlice t l c=>match P.underlying t,ZF l,ZF c with
  | some (.slice e),some l,some c=>match P.info? e,H7 P e with
   | some i,some z=>if z.length=i.size/\i.size≠0/\E5 e=true then some (MY z i.size i.bytes l c) else none
   | _,_=>none
  | _,_,_=>none
 | .call c=>match MH P c with
  | some f=>some f
  | none=>Cv P c
 | .range t x=>match P.underlying t,ZF x with
  | some .string,some x=>some (TY x)
  | _,_=>none
 | .next x s=>if s then(ZF x).map U0 else none
 | _=>none
def Mv (ops:Array Oper):Option (Nat×Bool)->Option (Option (Nat×Bool))
 | none=>some none
 | some (j,want)=>match(ops[j]?).bind (·.dst) with
  | some t=>some (some (t,want))
  | none=>none
def HW (P:Program)(ops:Array Oper)(o:Oper):Option Stp:=
 match Mv ops o.guard with
 | some g=>some ⟨o.dst,g,(Y5 P o.op).getD TZ⟩
 | none=>none
def AU (P:Program)(ops:Array Oper):List Oper->Option (List Stp)
 | []=>some []
 | o::l=>match HW P ops o,AU P ops l with
  | some a,some b=>some (a::b)
  | _,_=>none
inductive Kd where
 | P | M | X
 | L (a:Operand)
 | S (a:Operand)
def ZS (P:Program):Op->Kd
 | .convert s _ _=>match P.underlying s with
  | some (.slice _)=>.X
  | _=>.P
 | .slice t _ _ _ _=>match P.underlying t with
  | some (.array _ _)=>.X
  | _=>.P
 | .load _ a=>.L a
 | .store _ a _=>.S a
 | .alloc _ | .box _ _ | .buildSlice _ _ _ | .makeSlice _ _ _ | .range _ _=>.M
 | .next _ _=>.X
 | .binOp _ t _ _ _=>match P.underlying t with
  | some (.pointer _)=>.X
  | _=>.P
 | .call c=>match c.callee with
  | .builtin .append=>.X
  | .builtin .clear=>.X
  | .builtin _=>.P
  | _=>if(MH P c).isSome then .P else .X
 | _=>.P
def M7 (as:List Nat):List Edge->Nat
 | []=>0
 | e::l=>bif Region.binds .any e then 2^e.on ||| (as.getD e.on 0 ||| M7 as l) else M7 as l
def NB:List Oper->List Nat->List Nat
 | [],done=>done
 | o::l,done=>NB l (done++[M7 done o.after.toList])
def UV (as:List Nat)(j:Nat)(o:Oper):Bool:=
 Nat.beq (as.getD j 0) (M7 as o.after.toList)&&o.after.toList.all (fun e=> !Region.binds .any e || Nat.blt e.on j)
def Kw:List Operand->List Nat
 | []=>[]
 | .tmp t::l=>t::Kw l
 | _::l=>Kw l
def DA (ops:Array Oper)(o:Oper):List Nat:=
 Kw o.op.operands.toList++(match o.guard with
  | some (j,_)=>match(ops[j]?).bind (·.dst) with
   | some t=>[t]
   | none=>[]
  | none=>[])
def WM:Option Nat->Option Nat->Bool
 | some t,some u=> !Nat.beq t u
 | _,_=>true
def N6 (t:Option Nat)(l:List Nat):Bool:=
 match t with
 | some t=>Yv t l
 | none=>false
def C8 (i j:Nat):List (Nat×Nat)->Bool
 | []=>false
 | p::l=>(Nat.beq p.1 i&&Nat.beq p.2 j) || C8 i j l
def HK (k:Nat)(ps:List (Nat×Nat)):Bool:=ps.any fun p=>Nat.beq p.1 k || Nat.beq p.2 k
def DG (fl i:Nat):Bool:=fl.testBit (2*i)&& !fl.testBit (2*i+1)
def FK (fl i:Nat):Bool:=fl.testBit (2*i+1)
def UF (fl:Nat)(ps:List (Nat×Nat))(i j:Nat):Kd->Kd->Bool
 | .P,_=>true
 | _,.P=>true
 | .S _,.S _=>false
 | .S _,.X=>false
 | .X,.S _=>false
 | .S _,.L _=>C8 i j ps
 | .L _,.S _=>C8 j i ps
 | .X,.X=>DG fl i&&DG fl j
 | .X,.M=>DG fl i || FK fl i
 | .X,.L _=>DG fl i || C8 i j ps
 | .L _,.X=>DG fl j || C8 j i ps
 | _,.X=>DG fl j
 | _,_=>true
def KG (P:Program)(ops:Array Oper)(as:List Nat)(fl:Nat)(ps:List (Nat×Nat))(i j:Nat)(x y:Oper):Bool:=
 WM x.dst y.dst&&((as.getD j 0).testBit i || !N6 x.dst (DA ops y))&&(!N6 y.dst (DA ops x) || ((as.getD j 0).testBit i&& !HK i ps))&&
  ((as.getD j 0).testBit i || UF fl ps i j (ZS P x.op) (ZS P y.op))
def Z8j (P:Program)(ops:Array Oper)(as:List Nat)(fl:Nat)(ps:List (Nat×Nat)):Bool:=
 (List.range ops.size).all fun j => match ops[j]? with
  | some y=>UV as j y&&(!N6 y.dst (DA ops y) || !HK j ps)&&(List.range j).all fun i=>match ops[i]? with
   | some x=>KG P ops as fl ps i j x y
   | none=>false
  | none=>false
def Kd.isP:Kd->Bool
 | .P=>true
 | _=>false
def Kd.isX:Kd->Bool
 | .X=>true
 | _=>false
def Kd.isL:Kd->Bool
 | .L _=>true
 | _=>false
def Kd.isM:Kd->Bool
 | .M=>true
 | _=>false
def Z5w (ks:List Kd)(as:List Nat)(ys:List Bool):Nat:=
 (List.range ks.length).foldr (fun i r => if (ks.getD i .P).isX && (List.range ks.length).any (fun j => !Nat.beq i j && !(ks.getD j .P).isP && !((ks.getD j .P).isL && ys.getD i false) && !(as.getD (max i j) 0).testBit (min i j)) then
  (if(List.range ks.length).all (fun j=>Nat.beq i j || (ks.getD j .P).isP || ((ks.getD j .P).isL&&ys.getD i false) || (as.getD (max i j) 0).testBit (min i j) || (Nat.blt i j&&(ks.getD j .P).isM)) then 2^(2*i+1) else 2^(2*i)) ||| r else r) 0
def Z3e (ks:List Kd)(as:List Nat)(ys:List Bool):List (Nat×Nat):=
 (List.range ks.length).flatMap fun j => (List.range j).flatMap fun i => if (as.getD j 0).testBit i then [] else match ks.getD i .P, ks.getD j .P with
  | .S _,.L _=>[(i,j)]
  | .L _,.S _=>[(j,i)]
  | .X,.L _=>if ys.getD i false then[(i,j)] else[]
  | .L _,.X=>if ys.getD j false then[(j,i)] else[]
  | _,_=>[]
def Zgo (P:Program):Op->Bool
 | .call c=>match c.callee with
  | .value _=>c.argTypes.any fun t=>match P.underlying t with
   | some (.pointer _)=>true
   | _=>false
  | _=>false
 | _=>false
def JR (P:Program)(ops:Array Oper)(i:Nat):Option Opd:=
 match ops[i]? with
 | some o=>match ZS P o.op with
  | .L a=>ZF a
  | .S a=>ZF a
  | _=>none
 | none=>none
def FJ (P:Program)(ops:Array Oper)(i:Nat):Bool:=
 match ops[i]? with
 | some o=>(ZS P o.op).isX
 | none=>false
def SN (P:Program)(ops:Array Oper):List (Nat×Nat)->Option (List (Opd×Opd))
 | []=>some []
 | p::l=>bif FJ P ops p.1 then SN P ops l else match JR P ops p.1,JR P ops p.2,SN P ops l with
  | some a,some b,some r=>some ((a,b)::r)
  | _,_,_=>none
def SM (P:Program)(ops:Array Oper):List (Nat×Nat)->Option (List (Nat×Opd))
 | []=>some []
 | p::l=>bif FJ P ops p.1 then(match JR P ops p.2,SM P ops l with
  | some b,some r=>some ((p.1,b)::r)
  | _,_=>none) else SM P ops l
def CK (fl i:Nat):Kd->Fl
 | .P=>.pure
 | .S _=>.any
 | .X=>if FK fl i then .tn else if DG fl i then .mk else .any
 | _=>.mk
def GS (P:Program)(fl:Nat):Nat->List Oper->List Stp->List (Fl×Stp)
 | i,o::os,s::l=>(CK fl i (ZS P o.op),s)::GS P fl (i+1) os l
 | _,_,_=>[]
def Z9b (P:Program)(ops:Array Oper)(as:List Nat)(fl:Nat)(ps:List (Nat×Nat)):Option CT:=
 match AU P ops ops.toList,SN P ops ps,SM P ops ps with
 | some l,some qs,some ls=>if Z8j P ops as fl ps then some (match ls with
  | []=>Qz (GS P fl 0 ops.toList l) qs
  | _=>Zmu (GS P fl 0 ops.toList l) qs ls) else none
 | _,_,_=>none
def Zjt:Op->Bool
 | .call c=>match c.callee with
  | .builtin .append=>true
  | _=>false
 | _=>false
def Z1g (P:Program)(ops:Array Oper)(as:List Nat):List Bool:=
 (List.range ops.size).map fun i => match ops[i]? with
  | some o=>Zgo P o.op || (Zjt o.op&&(List.range ops.size).all fun j=> !Nat.blt i j || (as.getD j 0).testBit i || (match ops[j]? with
   | some y=> !(ZS P y.op).isL
   | none=>true))
  | none=>false
def Z0s (P:Program)(ops:Array Oper):Option CT:=
 Z9b P ops (NB ops.toList []) (Z5w (ops.toList.map fun o=>ZS P o.op) (NB ops.toList []) (Z1g P ops (NB ops.toList []))) (Z3e (ops.toList.map fun o=>ZS P o.op) (NB ops.toList []) (Z1g P ops (NB ops.toList [])))
def FM:Code->Nat
 | .region id _ _=>id+1
 | .seq a b=>match FM a with
  | 0=>FM b
  | n=>n
 | .cond _ a b=>match FM a with
  | 0=>FM b
  | n=>n
 | .block _ c=>FM c
 | .loop c=>FM c
 | _=>0
def JG (P:Program):Bool->Code->Option CT
 | _,.skip=>some cK
 | _,.region _ ops false=>(AU P ops ops.toList).map Z3
 | _,.region _ ops true=>Z0s P ops
 | rg,.seq a b=>match JG P rg a,JG P rg b with
  | some a,some b=>some (cQ a b)
  | _,_=>none
 | rg,.cond c' x y=>match ZF c',JG P rg x,JG P rg y with
  | some c,some a,some b=>some (cJ (2*FM (.cond c' x y)+1) c a b)
  | _,_,_=>none
 | rg,.block id c=>(JG P rg c).map (ZQ id)
 | rg,.loop c=>(JG P rg c).map (QW (2*FM c))
 | _,.exit id=>some (QN id)
 | _,.label _=>some cK
 | _,.ret=>some cZ
 | true,.rangeFunc f ps a b=>match ZF f,JG P false a,JG P false b with
  | some f,some a,some b=>if ps.size=2 then some (PP f ps.toList a b) else none
  | _,_,_=>none
 | _,_=>none
abbrev Zmv (P:Program):Code->Option CT:=JG P true
def FT (P:Program):List ResultVar->Option (List IRes)
 | []=>some []
 | .tmp t::l=>(FT P l).map (.tmp t:: ·)
 | .cell a t::l=>match AW P t,QG P t,FT P l with
  | some ag,some n,some r=>some (.cell a ag n::r)
  | _,_,_=>none
def H8 (P:Program)(f:FuncId):Option (Env->cT->cT):=
 match P.funcs[f]? with
 | some fn=>match fn.body with
  | some c => if fn.name = "runtime.NumGoroutine" then none else
   match Zmv P c,FT P fn.results.toList with
   | some c,some r=>some (ZZ fn.ntmps r c)
   | _,_=>none
  | none=>none
 | none=>none
end Go.Aug
