import Derived.Test.YthnhboimcidhgaaGreatDoorEvGt
import GoSem.Extern.Table
namespace Go.Aug
open Go
def ofV1:Value->DV
 | .slice none 0 0=>.lst [] 0 (some 0)
 | x=>.v x
def ofV:Value->DV
 | .agg cs=>.agg (cs.toList.map ofV1)
 | x=>ofV1 x
def HD:Sh->Opd->Opd
 | .slice,.c (.lst [] 0 (some 0))=>.c (.v (.slice none 0 0))
 | _,x=>x
def Tq:Value->Bool
 | .agg cs=>cs.toList.all Value.oneCell'
 | .tuple _=>false
 | _=>true
def ZQ:Operand->Option Opd
 | .tmp t=>some (.t t)
 | .const v=>if Tq v then some (.c (ofV v)) else none
 | .func f=>some (.f f)
 | .global g=>(Z1r g).map fun cs=>.c (.vptr cs)
def JX:List Operand->Option (List Opd)
 | []=>some []
 | x::l=>match ZQ x,JX l with
  | some a,some b=>some (a::b)
  | _,_=>none
def Cz:Option Operand->Option (Option Opd)
 | none=>some none
 | some x=>(ZQ x).map some
def NH (z:Value):Option (List AV):=
 if z.cells.toList.all Value.oneCell' then some (z.cells.toList.map fun x=>.d (ofV1 x)) else none
def NJ (P:Program)(t:TypeId):Option (List AV):=
 match P.info? t with
 | some i=>match i.zero with
  | some z=>NH z
  | none=>none
 | none=>none
def QB (P:Program)(t:TypeId):Option Nat:=(P.info? t).map (·.size)
def BR (P:Program)(t:TypeId):Option Bool:=
 match P.underlying t with
 | some (.struct _) | some (.array _ _)=>some true
 | some _=>some false
 | none=>none
def F6 (place:Nat->Option (Nat×Nat)):List (Nat×Operand)->Option (List (Nat×Nat×Opd))
 | []=>some []
 | (i,x)::l=>match place i,ZQ x,F6 place l with
  | some (o,s),some x,some r=>some ((o,s,x)::r)
  | _,_,_=>none
def Z30 (P:Program)(fields:Array Field)(i:Nat):Option (Nat×Nat):=
 match fields[i]? with
 | some f=>(QB P f.type).map fun s=>(f.offset,s)
 | none=>none
def C8 (P:Program):Nat->TypeId->Nat->Option (List (Nat×Lf))
 | 0,_,_=>none
 | d+1,t,off=>
  match P.underlying t with
  | some .bool=>some [(off,.bool)]
  | some (.int _)=>some [(off,.int)]
  | some .string=>some [(off,.str)]
  | some (.struct fields)=>
   if P.stoodInHeld t then none else leafFields (C8 P d) (QB P) (QB P t) off fields.toList
  | some (.array len elem)=>if(QB P elem).isNone then none else leafItems (C8 P d) (QB P elem) (QB P t) elem off (List.range len)
  | _=>none
where
 leafFields (go:TypeId->Nat->Option (List (Nat×Lf))) (size:TypeId->Option Nat) (n:Option Nat) (off:Nat):List Field->Option (List (Nat×Lf))
 | []=>some []
 | f::fs=>match go f.type (off+f.offset),leafFields go size n off fs,size f.type,n with
  | some l, some r, some s, some n => if f.name = "_" ∨ n < f.offset + s ∨ s = 0 then none else some (l ++ r)
  | _,_,_,_=>none
 leafItems (go:TypeId->Nat->Option (List (Nat×Lf))) (s n:Option Nat) (elem:TypeId) (off:Nat):List Nat->Option (List (Nat×Lf))
 | []=>some []
 | i::is=>match s,n with
  | some s',some n'=>match go elem (off+i*s'),leafItems go s n elem off is with
   | some l,some r=>if n'<i*s'+s'∨s'=0 then none else some (l++r)
   | _,_=>none
  | _,_=>none
def Uj (P:Program)(t:TypeId):Option Sh:=
 match P.underlying t with
 | some .bool=>some (.leaf .bool)
 | some (.interface _)=>some .iface
 | some (.slice _)=>some .slice
 | some (.struct _) | some (.array _ _)=>if P.eqGuardType P.depth t then none else match QB P t with
  | some n=>(C8 P 6 t 0).map (.flds n)
  | none=>none
 | _=>none
def Z34 (P:Program)(op:BinOp)(t:TypeId)(x y:Opd):Option ZV:=
 match op with
 | .eql | .neq=>match P.underlying t with
  | some (.int _) | some .string=>some (oB op x y)
  | some (.pointer e)=>if(P.info? e).isSome then some (KC (op==.neq) x y) else none
  | _=>(Uj P t).map fun sh=>HG (op==.neq) sh x (HD sh y)
 | _=>some (oB op x y)
def Xj (P:Program)(c:Call):Option ZV:=
 match JX c.args.toList,c.argTypes.toList with
 | some [b, x], [t, u] => match P.underlying t, P.underlying u with
   | some (.slice e),some ud=>match P.info? e,NJ P e with
    | some i,some z=>if i.size=0∨z.length≠i.size∨G6 e=false then none else match ud with
     | .slice _=>some (YQ false i.size i.bytes b x)
     | .string=>if i.size=1 then some (YQ true i.size i.bytes b x) else none
     | _=>none
    | _,_=>none
   | _,_=>none
 | _,_=>none
def FS (P:Program)(c:Call):Option ZV:=
 match c.callee with
 | .value f=>match ZQ f,JX c.args.toList with
  | some f,some l=>some (oK f l)
  | _,_=>none
 | .builtin b=>
  match b,JX c.args.toList,c.argTypes.toList with
  | .len,some [x],t::_=>match P.underlying t with
   | some .string=>some (VU x)
   | some (.slice _)=>some (JQ x)
   | some (.array n _)=>some (Z0q n)
   | _=>none
  | .min,some l,_=>some (Bj false l)
  | .max,some l,_=>some (Bj true l)
  | .append,_,_=>Xj P c
  | _,_,_=>none
 | _=>none
def Z3p (P:Program)(g:FuncId):Option Xt:=
 match P.funcs[g]? with
 | some fn=>
  if fn.body.isNone=true/\(Extern.findNext fn).isNone=true then
   (if fn.name = "internal/abi.NoEscape" then some .esc else if fn.name = "internal/bytealg.IndexByteString" then some .ixb else if fn.name = "internal/bytealg.CountString" then some .cnt else none)
  else none
 | none=>none
def NT (P:Program)(c:Call):Option ZV:=
 match c.callee with
 | .value (.func g)=>match Z3p P g,JX c.args.toList with
  | some k,some l=>some (Z6k k l)
  | _,_=>none
 | _=>none
def Y5 (P:Program):Op->Option ZV
 | .move x | .assign x=>(ZQ x).map oV
 | .pick c a b=>match ZQ c,ZQ a,ZQ b with
  | some c,some a,some b=>some (YE c a b)
  | _,_,_=>none
 | .build t parts=>match P.info? t,P.underlying t with
  | some it,some (.array _ e)=>match it.zero,P.info? e with
   | some z,some ie=>match NH z,F6 (fun i=>some (i*ie.size,ie.size)) parts.toList with
    | some zs,some ps=>some (YP zs ps)
    | _,_=>none
   | _,_=>none
  | some it,some (.struct fields)=>match it.zero,fields.toList.mapM (fun f=>(P.info? f.type).map fun i=>(f.offset,i.size)) with
   | some z,some places=>match NH z,F6 (fun i=>places.toArray[i]?) parts.toList with
    | some zs,some ps=>some (YP zs ps)
    | _,_=>none
   | _,_=>none
  | _,_=>none
 | .fieldAddr t x i=>match P.underlying t,ZQ x with
  | some (.struct fields),some x=>match Z30 P fields i with
   | some (o,s)=>if s=0 then none else some (oA x o)
   | none=>none
  | _,_=>none
 | .field t x i=>match P.underlying t,ZQ x with
  | some (.struct fields),some x=>match fields[i]? with
   | some f=>match BR P f.type,QB P f.type with
    | some ag,some s=>if ag=false/\s≠1 then none else some (EW x f.offset ag s)
    | _,_=>none
   | none=>none
  | _,_=>none
 | .indexAddr t x ix=>match P.underlying t,ZQ x,ZQ ix with
  | some (.array n e),some x,some ix=>(QB P e).map (CW x ix n)
  | some (.slice e),some x,some ix=>(QB P e).map (Fv x ix)
  | _,_,_=>none
 | .index t x ix=>match P.underlying t,ZQ x,ZQ ix with
  | some (.array n e),some x,some ix=>match BR P e,QB P e with
   | some ag,some s=>if ag=false/\s≠1 then none else some (Z0r x ix n s ag s)
   | _,_=>none
  | some .string,some x,some ix=>some (Z0s x ix)
  | _,_,_=>none
 | .extract x i=>(ZQ x).map fun x=>VV x i
 | .unOp op _ x=>(ZQ x).map (YX op)
 | .binOp op t x y _=>match ZQ x,ZQ y with
  | some x,some y=>Z34 P op t x y
  | _,_=>none
 | .convert s d x=>match P.underlying s,P.underlying d,ZQ x with
  | some (.int _),some (.int k),some x=>some (G9 k x)
  | some (.int _),some .string,some x | some .string,some .string,some x=>some (Tw x)
  | some (.slice e),some .string,some x=>match P.underlying e with
   | some (.int .u8)=>some (MP false x)
   | some (.int .i32)=>some (MP true x)
   | _=>none
  | _,_,_=>none
 | .nilCheck x=>(ZQ x).map Qk
 | .makeInterface t x=>match P.underlying t,ZQ x with
  | some (.interface _),_=>none
  | some _,some x=>some (VT t x)
  | _,_=>none
 | .makeFunc f first captured=>if first.size=0 then(JX captured.toList).map (Pj f) else none
 | .typeAssert x _ t ok=>match P.underlying t,ZQ x,(P.info? t).bind (·.zero) with
  | some (.interface _),_,_=>none
  | some _,some x,some z=>if Tq z then some (Z6l x t (ofV z) ok) else none
  | _,_,_=>none
 | .slice t x lo hi mx=>match P.underlying t,ZQ x,Cz lo,Cz hi,Cz mx with
  | some (.slice e),some x,some lo,some hi,some mx=>(QB P e).map (DQ x lo hi mx)
  | some .string,some x,some lo,some hi,some none=>some (Z0o x lo hi)
  | some (.array n e),some x,some lo,some hi,some mx=>(QB P e).map (Z0p x lo hi mx n)
  | _,_,_,_,_=>none
 | .load t a=>match ZQ a,BR P t,QB P t with
  | some a,some ag,some s=>some (oL a ag s)
  | _,_,_=>none
 | .store t a x=>match ZQ a,ZQ x,QB P t with
  | some a,some x,some s=>some (oS a x s)
  | _,_,_=>none
 | .alloc t=>if G6 t=true then(NJ P t).map ZT else none
 | .box t x=>if G6 t=true then(ZQ x).map ZA else none
 | .buildSlice t len parts=>match P.underlying t with
  | some (.slice e)=>match QB P e,NJ P e with
   | some s,some z=>if len*s<=4096/\z.length=s/\s≠0/\G6 e=true then(F6 (fun i=>some (i*s,s)) parts.toList).map (YA (rep z len) len s) else none
   | _,_=>none
  | _=>none
 | .makeSlice t l c=>match P.underlying t,ZQ l,ZQ c with
  | some (.slice e),some l,some c=>match P.info? e,NJ P e with
   | some i,some z=>if z.length=i.size/\i.size≠0/\G6 e=true then some (P9 z i.size i.bytes l c) else none
   | _,_=>none
  | _,_,_=>none
 | .call c=>match NT P c with
  | some f=>some f
  | none=>FS P c
 | .range t x=>match P.underlying t,ZQ x with
  | some .string,some x=>some (RM x)
  | _,_=>none
 | .next x s=>if s then(ZQ x).map RN else none
 | _=>none
def NK (ops:Array Oper):Option (Nat×Bool)->Option (Option (Nat×Bool))
 | none=>some none
 | some (j,want)=>match(ops[j]?).bind (·.dst) with
  | some t=>some (some (t,want))
  | none=>none
def KY (P:Program)(ops:Array Oper)(o:Oper):Option Stp:=
 match NK ops o.guard with
 | some g=>some ⟨o.dst,g,(Y5 P o.op).getD VS⟩
 | none=>none
def BQ (P:Program)(ops:Array Oper):List Oper->Option (List Stp)
 | []=>some []
 | o::l=>match KY P ops o,BQ P ops l with
  | some a,some b=>some (a::b)
  | _,_=>none
inductive Kd where
 | P | M | X
 | L (a:Operand)
 | S (a:Operand)
def Y0 (P:Program):Op->Kd
 | .convert s _ _=>match P.underlying s with
  | some (.slice _)=>.X
  | _=>.P
 | .slice t _ _ _ _=>match P.underlying t with
  | some (.array _ _)=>.X
  | _=>.P
 | .load _ a=>.L a
 | .store _ a _=>.S a
 | .alloc _ | .box _ _ | .buildSlice _ _ _ | .makeSlice _ _ _ | .range _ _=>.M
 | .next _ _=>.X
 | .binOp _ t _ _ _=>match P.underlying t with
  | some (.pointer _)=>.X
  | _=>.P
 | .call c=>match c.callee with
  | .builtin .append=>.X
  | .builtin _=>.P
  | _=>if(NT P c).isSome then .P else .X
 | _=>.P
def Nx (as:List Nat):List Edge->Nat
 | []=>0
 | e::l=>bif Region.binds .any e then 2^e.on ||| (as.getD e.on 0 ||| Nx as l) else Nx as l
def PW:List Oper->List Nat->List Nat
 | [],done=>done
 | o::l,done=>PW l (done++[Nx done o.after.toList])
def WR (as:List Nat)(j:Nat)(o:Oper):Bool:=
 Nat.beq (as.getD j 0) (Nx as o.after.toList)&&o.after.toList.all (fun e=> !Region.binds .any e || Nat.blt e.on j)
def MD:List Operand->List Nat
 | []=>[]
 | .tmp t::l=>t::MD l
 | _::l=>MD l
def EU (ops:Array Oper)(o:Oper):List Nat:=
 MD o.op.operands.toList++(match o.guard with
  | some (j,_)=>match(ops[j]?).bind (·.dst) with
   | some t=>[t]
   | none=>[]
  | none=>[])
def Z0l:Option Nat->Option Nat->Bool
 | some t,some u=> !Nat.beq t u
 | _,_=>true
def PD (t:Option Nat)(l:List Nat):Bool:=
 match t with
 | some t=>Y8 t l
 | none=>false
def Dx (i j:Nat):List (Nat×Nat)->Bool
 | []=>false
 | p::l=>(Nat.beq p.1 i&&Nat.beq p.2 j) || Dx i j l
def KM (k:Nat)(ps:List (Nat×Nat)):Bool:=ps.any fun p=>Nat.beq p.1 k || Nat.beq p.2 k
def F2 (fl i:Nat):Bool:=fl.testBit (2*i)&& !fl.testBit (2*i+1)
def GZ (fl i:Nat):Bool:=fl.testBit (2*i+1)
def WC (fl:Nat)(ps:List (Nat×Nat))(i j:Nat):Kd->Kd->Bool
 | .P,_=>true
 | _,.P=>true
 | .S _,.S _=>false
 | .S _,.X=>false
 | .X,.S _=>false
 | .S _,.L _=>Dx i j ps
 | .L _,.S _=>Dx j i ps
 | .X,.X=>F2 fl i&&F2 fl j
 | .X,.M=>F2 fl i || GZ fl i
 | .X,.L _=>F2 fl i || Dx i j ps
 | .L _,.X=>F2 fl j || Dx j i ps
 | _,.X=>F2 fl j
 | _,_=>true
def MK (P:Program)(ops:Array Oper)(as:List Nat)(fl:Nat)(ps:List (Nat×Nat))(i j:Nat)(x y:Oper):Bool:=
 Z0l x.dst y.dst&&((as.getD j 0).testBit i || !PD x.dst (EU ops y))&&(!PD y.dst (EU ops x) || ((as.getD j 0).testBit i&& !KM i ps))&&
  ((as.getD j 0).testBit i || WC fl ps i j (Y0 P x.op) (Y0 P y.op))
def Zc8 (P:Program)(ops:Array Oper)(as:List Nat)(fl:Nat)(ps:List (Nat×Nat)):Bool:=
 (List.range ops.size).all fun j => match ops[j]? with
  | some y=>WR as j y&&(!PD y.dst (EU ops y) || !KM j ps)&&(List.range j).all fun i=>match ops[i]? with
   | some x=>MK P ops as fl ps i j x y
   | none=>false
  | none=>false
def Kd.isP:Kd->Bool
 | .P=>true
 | _=>false
def Kd.isX:Kd->Bool
 | .X=>true
 | _=>false
def Kd.isL:Kd->Bool
 | .L _=>true
 | _=>false
def Kd.isM:Kd->Bool
 | .M=>true
 | _=>false
def Z8i (ks:List Kd)(as:List Nat)(ys:List Bool):Nat:=
 (List.range ks.length).foldr (fun i r => if (ks.getD i .P).isX && (List.range ks.length).any (fun j => !Nat.beq i j && !(ks.getD j .P).isP && !((ks.getD j .P).isL && ys.getD i false) && !(as.getD (max i j) 0).testBit (min i j)) then
  (if(List.range ks.length).all (fun j=>Nat.beq i j || (ks.getD j .P).isP || ((ks.getD j .P).isL&&ys.getD i false) || (as.getD (max i j) 0).testBit (min i j) || (Nat.blt i j&&(ks.getD j .P).isM)) then 2^(2*i+1) else 2^(2*i)) ||| r else r) 0
def Z61 (ks:List Kd)(as:List Nat)(ys:List Bool):List (Nat×Nat):=
 (List.range ks.length).flatMap fun j => (List.range j).flatMap fun i => if (as.getD j 0).testBit i then [] else match ks.getD i .P, ks.getD j .P with
  | .S _,.L _=>[(i,j)]
  | .L _,.S _=>[(j,i)]
  | .X,.L _=>if ys.getD i false then[(i,j)] else[]
  | .L _,.X=>if ys.getD j false then[(j,i)] else[]
  | _,_=>[]
def Zm8 (P:Program):Op->Bool
 | .call c=>match c.callee with
  | .value _=>c.argTypes.any fun t=>match P.underlying t with
   | some (.pointer _)=>true
   | _=>false
  | _=>false
 | _=>false
def QU (P:Program)(ops:Array Oper)(i:Nat):Option Opd:=
 match ops[i]? with
 | some o=>match Y0 P o.op with
  | .L a=>ZQ a
  | .S a=>ZQ a
  | _=>none
 | none=>none
def GY (P:Program)(ops:Array Oper)(i:Nat):Bool:=
 match ops[i]? with
 | some o=>(Y0 P o.op).isX
 | none=>false
def Ux (P:Program)(ops:Array Oper):List (Nat×Nat)->Option (List (Opd×Opd))
 | []=>some []
 | p::l=>bif GY P ops p.1 then Ux P ops l else match QU P ops p.1,QU P ops p.2,Ux P ops l with
  | some a,some b,some r=>some ((a,b)::r)
  | _,_,_=>none
def Uq (P:Program)(ops:Array Oper):List (Nat×Nat)->Option (List (Nat×Opd))
 | []=>some []
 | p::l=>bif GY P ops p.1 then(match QU P ops p.2,Uq P ops l with
  | some b,some r=>some ((p.1,b)::r)
  | _,_=>none) else Uq P ops l
def DW (fl i:Nat):Kd->Fl
 | .P=>.pure
 | .S _=>.any
 | .X=>if GZ fl i then .tn else if F2 fl i then .mk else .any
 | _=>.mk
def HW (P:Program)(fl:Nat):Nat->List Oper->List Stp->List (Fl×Stp)
 | i,o::os,s::l=>(DW fl i (Y0 P o.op),s)::HW P fl (i+1) os l
 | _,_,_=>[]
def Zd6 (P:Program)(ops:Array Oper)(as:List Nat)(fl:Nat)(ps:List (Nat×Nat)):Option CT:=
 match BQ P ops ops.toList,Ux P ops ps,Uq P ops ps with
 | some l,some qs,some ls=>if Zc8 P ops as fl ps then some (match ls with
  | []=>YG (HW P fl 0 ops.toList l) qs
  | _=>Z31 (HW P fl 0 ops.toList l) qs ls) else none
 | _,_,_=>none
def Zpd:Op->Bool
 | .call c=>match c.callee with
  | .builtin .append=>true
  | _=>false
 | _=>false
def Z3o (P:Program)(ops:Array Oper)(as:List Nat):List Bool:=
 (List.range ops.size).map fun i => match ops[i]? with
  | some o=>Zm8 P o.op || (Zpd o.op&&(List.range ops.size).all fun j=> !Nat.blt i j || (as.getD j 0).testBit i || (match ops[j]? with
   | some y=> !(Y0 P y.op).isL
   | none=>true))
  | none=>false
def Z32 (P:Program)(ops:Array Oper):Option CT:=
 Zd6 P ops (PW ops.toList []) (Z8i (ops.toList.map fun o=>Y0 P o.op) (PW ops.toList []) (Z3o P ops (PW ops.toList []))) (Z61 (ops.toList.map fun o=>Y0 P o.op) (PW ops.toList []) (Z3o P ops (PW ops.toList [])))
def H0:Code->Nat
 | .region id _ _=>id+1
 | .seq a b=>match H0 a with
  | 0=>H0 b
  | n=>n
 | .cond _ a b=>match H0 a with
  | 0=>H0 b
  | n=>n
 | .block _ c=>H0 c
 | .loop c=>H0 c
 | _=>0
def JY (P:Program):Bool->Code->Option CT
 | _,.skip=>some cK
 | _,.region _ ops false=>(BQ P ops ops.toList).map Z1
 | _,.region _ ops true=>Z32 P ops
 | rg,.seq a b=>match JY P rg a,JY P rg b with
  | some a,some b=>some (cQ a b)
  | _,_=>none
 | rg,.cond c' x y=>match ZQ c',JY P rg x,JY P rg y with
  | some c,some a,some b=>some (cJ (2*H0 (.cond c' x y)+1) c a b)
  | _,_,_=>none
 | rg,.block id c=>(JY P rg c).map (ZR id)
 | rg,.loop c=>(JY P rg c).map (QD (2*H0 c))
 | _,.exit id=>some (Q4 id)
 | _,.label _=>some cK
 | _,.ret=>some cZ
 | true,.rangeFunc f ps a b=>match ZQ f,JY P false a,JY P false b with
  | some f,some a,some b=>if ps.size=2 then some (Sj f ps.toList a b) else none
  | _,_,_=>none
 | _,_=>none
abbrev Zsw (P:Program):Code->Option CT:=JY P true
def H9 (P:Program):List ResultVar->Option (List IRes)
 | []=>some []
 | .tmp t::l=>(H9 P l).map (.tmp t:: ·)
 | .cell a t::l=>match BR P t,QB P t,H9 P l with
  | some ag,some n,some r=>some (.cell a ag n::r)
  | _,_,_=>none
def DE (P:Program)(f:FuncId):Option (Env->cT->cT):=
 match P.funcs[f]? with
 | some fn=>match fn.body with
  | some c => if fn.name = "runtime.NumGoroutine" then none else
   match Zsw P c,H9 P fn.results.toList with
   | some c,some r=>some (ZB fn.ntmps r c)
   | _,_=>none
  | none=>none
 | none=>none
end Go.Aug
