import Derived.Test.YtogckbgcldmaeaaMc2
namespace Go.Aug.Mc
open Go Go.Aug
set_option linter.unusedSimpArgs false
set_option linter.unusedVariables false
set_option maxHeartbeats 40000000
variable {E:Env} {fn:FuncId->Option (Env->CallT->CallT)}
section
variable (S:Sur E fn)
include S
end
end Go.Aug.Mc
namespace Go.Aug.Md
open Go Go.Aug
def ent0:Ent:=⟨0,0,0,0,0,false,false,false⟩
def entAt (l:List Ent)(i:Int):Ent:=(l[i.toNat]?).getD ent0
def openM (p:Prog)(c:Conf)(i:Int):Bool:=c.end_==0&&decide (0<=i)&&decide (i<c.buf.length)&& !blocked p c.buf i
def insM (p:Prog)(c:Conf)(i:Int):Ins:=at_ p (entAt c.buf i).pc
def valM (p:Prog)(c:Conf)(i:Int)(v:Val):Int×Bool:=val p c.state.regs c.buf i v
def regM (p:Prog)(c:Conf)(i r:Int):Int×Bool:=reg p c.state.regs c.buf i r
def loadM (p:Prog)(c:Conf)(i addr:Int):Int×Int×Bool:=load p c.state.mem c.buf i addr
def ready (N:Int)(p:Prog)(c:Conf)(i:Int)(x:Ins)(a b d:Int×Bool):Bool:=
 if x.kind=1∨x.kind=5 then a.2&&b.2
 else if x.kind=4 then a.2&&b.2&&d.2
 else if x.kind=2 then a.2&&b.2&&(decide (mask p.w (a.1+b.1)>=N) || (loadM p c i (mask p.w (a.1+b.1))).2.2)
 else if x.kind=3 then d.2
 else if x.kind=7 then a.2
 else decide (x.kind=9)
def can (N:Int)(p:Prog)(c:Conf)(i:Int):Bool:=
 openM p c i&& !(entAt c.buf i).done&&ready N p c i (insM p c i) (valM p c i (insM p c i).a) (valM p c i (insM p c i).b) (regM p c i (insM p c i).d)
def put (c:Conf)(i:Int)(e:Ent):Conf:={ c with buf:=c.buf.set i.toNat e }
def goesM (c:Conf)(i:Int)(e:Ent)(to:Int):Conf×List Obs:=
 (if e.next = to then put c i { e with done := true }
  else { c with buf:=(c.buf.set i.toNat { e with done:=true,next:=to }).take (i.toNat+1),state:={ c.state with pc:=to } },[⟨3,to⟩])
def conf0:Conf:=⟨⟨⟨0,0,0,0⟩,[],[],0⟩,[],[],0⟩
def lastI (l:List Int):Int:=l.getLast?.getD 0
def doK (N:Int)(p:Prog)(c:Conf)(i:Int)(e:Ent)(x:Ins)(a b d:Int):Conf×List Obs:=
 if x.kind=1 then(put c i { e with val:=wdo p.w x.op a b,done:=true },[])
 else if x.kind=4 then(put c i { e with val:=if a=0 then d else b,done:=true },[])
 else if x.kind=3 then(put c i { e with val:=d,done:=true },[])
 else if x.kind=2 then
  (if mask p.w (a + b) >= N then (put c i ⟨e.pc, 0, mask p.w (a + b), -1, e.next, true, true, true⟩, [])
   else(put c i ⟨e.pc,(loadM p c i (mask p.w (a+b))).1,mask p.w (a+b),(loadM p c i (mask p.w (a+b))).2.1,e.next,true,true,e.fault⟩,[⟨1,mask p.w (a+b)⟩]))
 else if x.kind=5 then goesM c i e (if wdo p.w x.op a b=0 then w64 (e.pc+1) else x.target)
 else if x.kind=7 then goesM c i e (min a p.ins.length)
 else if x.kind=9 then
  (match real p c.state.stack c.buf i with
   | none=>(put c i { e with done:=true,fault:=true },[])
   | some l=>if l.length=0 then(put c i { e with done:=true,fault:=true },[]) else goesM c i e (lastI l))
 else(put c i { e with done:=true },[])
def doM (N:Int)(p:Prog)(c:Conf)(i:Int):Conf×List Obs:=
 doK N p c i (entAt c.buf i) (insM p c i) (valM p c i (insM p c i).a).1 (valM p c i (insM p c i).b).1 (regM p c i (insM p c i).d).1
def canAddr (p:Prog)(c:Conf)(i:Int):Bool:=
 openM p c i&& !(entAt c.buf i).known&&decide ((insM p c i).kind=3)&&(valM p c i (insM p c i).a).2&&(valM p c i (insM p c i).b).2
def addrOf (p:Prog)(c:Conf)(i:Int):Int:=mask p.w ((valM p c i (insM p c i).a).1+(valM p c i (insM p c i).b).1)
def drop1 (p:Prog)(c:Conf)(i addr:Int)(l:List Ent):Conf:=
 bif (hazard p l i addr).2 then { c with buf:=l.take (hazard p l i addr).1.toNat,state:={ c.state with pc:=(entAt l (hazard p l i addr).1).pc } } else { c with buf:=l }
def addrK (N:Int)(p:Prog)(c:Conf)(i:Int)(e:Ent)(addr:Int):Conf×List Obs:=
 if addr>=N then(put c i { e with addr:=addr,known:=true,fault:=true },[])
 else(drop1 p c i addr (c.buf.set i.toNat { e with addr:=addr,known:=true,fault:=false }),[⟨2,addr⟩])
def addrM (N:Int)(p:Prog)(c:Conf)(i:Int):Conf×List Obs:=addrK N p c i (entAt c.buf i) (addrOf p c i)
def guesses (p:Prog)(c:Conf):Int:=
 if c.end_≠0∨c.state.pc= -1∨(c.buf.length:Int)>=p.window then 0
 else if(at_ p c.state.pc).kind=5 then 2
 else if(at_ p c.state.pc).kind=7∨(at_ p c.state.pc).kind=9/\c.rsb.length=0 then p.ins.length+1
 else 1
def entry (p:Prog)(c:Conf)(g:Int):Ent×List Int:=
 let pc:=c.state.pc
 let x:=at_ p pc
 let e:Ent:=⟨pc,0,0,-1,w64 (pc+1),false,false,false⟩
 if x.kind=5 then({ e with next:=if g=1 then x.target else w64 (pc+1) },c.rsb)
 else if x.kind=6 then({ e with next:=x.target,done:=true },c.rsb)
 else if x.kind=7 then({ e with next:=g },c.rsb)
 else if x.kind=8 then({ e with next:=x.target,done:=true,fault:=match real p c.state.stack c.buf c.buf.length with | none=>true | some l=>decide (4<=l.length) },push c.rsb (w64 (pc+1)))
 else if x.kind=9 then(if c.rsb.length=0 then({ e with next:=g },c.rsb) else({ e with next:=lastI c.rsb },c.rsb.dropLast))
 else if x.kind=11∨x.kind=12 then({ e with next:= -1,done:=true },c.rsb)
 else(e,c.rsb)
def canFetch (p:Prog)(c:Conf)(g:Int):Bool:=decide (0<=g)&&decide (g<guesses p c)
def fetch (p:Prog)(c:Conf)(g:Int):Conf:=
 {c with buf:=c.buf++[(entry p c g).1],rsb:=(entry p c g).2,state:={ c.state with pc:=(entry p c g).1.next } }
def canRetire (p:Prog)(c:Conf):Bool:=
 c.end_==0&&decide (c.buf.length≠0)&&((entAt c.buf 0).done || decide ((at_ p (entAt c.buf 0).pc).kind=10))&&(decide ((at_ p (entAt c.buf 0).pc).kind≠3) || (entAt c.buf 0).known)
def popE (e:Ent):Ent:=if 0<=e.frm then { e with frm:=w64 (e.frm-1) } else e
def popL (l:List Ent):List Ent:=(l.drop 1).map popE
def endedM (e:Ent)(x:Ins):Int:=bif e.fault || decide (x.kind=12) then 2 else if x.kind=11 then 1 else 0
def commitM (s:State)(e:Ent)(x:Ins):State:=
 if x.kind=1∨x.kind=2∨x.kind=4 then { s with regs:=setR s.regs x.d e.val }
 else if x.kind=3 then(if 0<=e.addr/\e.addr<s.mem.length then { s with mem:=s.mem.set e.addr.toNat e.val } else s)
 else if x.kind=8 then { s with stack:=s.stack++[w64 (e.pc+1)] }
 else if x.kind=9 then { s with stack:=s.stack.dropLast }
 else s
def retire (p:Prog)(c:Conf):Conf:=
 let e:=entAt c.buf 0
 let x:=at_ p e.pc
 if endedM e x=0 then { c with buf:=popL c.buf,state:=commitM c.state e x }
 else { c with buf:=[],rsb:=[],end_:=endedM e x,state:={ c.state with pc:=e.pc } }
def all (N:Int)(p:Prog)(c:Conf):List Dir:=
 ((List.range (guesses p c).toNat).map fun n:Nat=>(⟨1,(n:Int)⟩:Dir))++
 (((List.range c.buf.length).filter fun n:Nat=>can N p c (n:Int)).map fun n:Nat=>(⟨2,(n:Int)⟩:Dir))++
 (((List.range c.buf.length).filter fun n:Nat=>canAddr p c (n:Int)).map fun n:Nat=>(⟨3,(n:Int)⟩:Dir))++
 (bif canRetire p c then[⟨4,0⟩] else[])
def canSay (N:Int)(p:Prog)(c:Conf)(d:Dir):Bool:=
 if d.kind=1 then canFetch p c d.n else if d.kind=2 then can N p c d.n else if d.kind=3 then canAddr p c d.n
 else decide (d.kind=4)&&decide (d.n=0)&&canRetire p c
def say (N:Int)(p:Prog)(c:Conf)(d:Dir):Conf×List Obs:=
 if d.kind=1 then(fetch p c d.n,[]) else if d.kind=2 then doM N p c d.n else if d.kind=3 then addrM N p c d.n else(retire p c,[])
end Go.Aug.Md
namespace Go.Aug.Mc
open Go Go.Aug
set_option linter.unusedSimpArgs false
set_option linter.unusedVariables false
set_option maxHeartbeats 40000000
theorem open_get {p:Prog}{c:Conf}{i:Int}(h:Md.openM p c i=true):0<=i/\c.buf[i.toNat]? =some (Md.entAt c.buf i)/\i<c.buf.length:=by
 simp only[Md.openM,Bool.and_eq_true,decide_eq_true_eq] at h
 obtain⟨e,he⟩:=get_of (show i.toNat<c.buf.length by omega)
 exact⟨h.1.1.2,by rw[Md.entAt,he];rfl,h.1.2⟩
variable {E:Env} {fn:FuncId->Option (Env->CallT->CallT)}
section
variable (S:Sur E fn)
include S
theorem raw_r9_Begin (dp:Nat)(s:State):Says E fn (dp+1) 21 [stateD s] (confD ⟨s,[],[],0⟩):=by
 unfold Says
 show ansOf (evC E fn (dp+1) 21 [.d (stateD s)] [])=_
 rw[evC_succ,S.f_r9_Begin,apF_some,F_r9_Begin,mkF_run _ _ _ _ _ _ _ _ rfl]
 simp only[eG,go_sem,thq S,nbr S,Nat.reduceLT,Nat.reduceEqDiff,Nat.reduceAdd,Nat.reduceMul,Nat.reduceLeDiff,Int.reduceEq,Int.reduceLT,Int.reduceLE,Int.reduceNeg,reduceCtorEq]
theorem c_r9_Begin (dp:Nat)(s_r0 s_r1 s_r2 s_r3:Int)(s_mm s_st:List Int)(s_pc:Int)(A:List Blk)(nb:Nat):evOwnK false E (evC E fn (dp+1)) 21 A nb (some ([.agg [vi s_r0,vi s_r1,vi s_r2,vi s_r3,rowD s_mm,rowD s_st,vi s_pc]],[]))=some (.made (.d (confD ⟨(⟨⟨s_r0,s_r1,s_r2,s_r3⟩,s_mm,s_st,s_pc⟩:State),[],[],0⟩)) []):=
 Says.deep (raw_r9_Begin S dp (⟨⟨s_r0,s_r1,s_r2,s_r3⟩,s_mm,s_st,s_pc⟩:State) ) (np S 21 (by decide)) A nb
end
variable {E:Env} {fn:FuncId->Option (Env->CallT->CallT)}
section
variable (S:Sur E fn)
include S
end
end Go.Aug.Mc
