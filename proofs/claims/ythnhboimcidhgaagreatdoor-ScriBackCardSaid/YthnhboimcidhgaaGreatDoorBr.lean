import Derived.Test.YthnhboimcidhgaaGreatDoorMc3
import Derived.Test.YthnhboimcidhgaaGreatDoorEvPc
namespace Go.Aug.Md
open Go Go.Aug
def Nq:Ent:=⟨0,0,0,0,0,false,false,false⟩
def ZP (l:List Ent)(i:Int):Ent:=(l[i.toNat]?).getD Nq
def QE (p:Prog)(c:Conf)(i:Int):Bool:=c.end_==0&&decide (0<=i)&&decide (i<c.buf.length)&& !NN p c.buf i
def Yk (p:Prog)(c:Conf)(i:Int):Ins:=at_ p (ZP c.buf i).pc
def Y2 (p:Prog)(c:Conf)(i:Int)(v:Val):Int×Bool:=val p c.state.regs c.buf i v
def C5 (p:Prog)(c:Conf)(i r:Int):Int×Bool:=reg p c.state.regs c.buf i r
def F0 (p:Prog)(c:Conf)(i addr:Int):Int×Int×Bool:=load p c.state.mem c.buf i addr
def ready (N:Int)(p:Prog)(c:Conf)(i:Int)(x:Ins)(a b d:Int×Bool):Bool:=
 if x.kind=1∨x.kind=5 then a.2&&b.2
 else if x.kind=4 then a.2&&b.2&&d.2
 else if x.kind=2 then a.2&&b.2&&(decide (Y1 p.w (a.1+b.1)>=N) || (F0 p c i (Y1 p.w (a.1+b.1))).2.2)
 else if x.kind=3 then d.2
 else if x.kind=7 then a.2
 else decide (x.kind=9)
def can (N:Int)(p:Prog)(c:Conf)(i:Int):Bool:=
 QE p c i&& !(ZP c.buf i).done&&ready N p c i (Yk p c i) (Y2 p c i (Yk p c i).a) (Y2 p c i (Yk p c i).b) (C5 p c i (Yk p c i).d)
def put (c:Conf)(i:Int)(e:Ent):Conf:={ c with buf:=c.buf.set i.toNat e }
def B0 (c:Conf)(i:Int)(e:Ent)(to:Int):Conf×List Obs:=
 (if e.next = to then put c i { e with done := true }
  else { c with buf:=(c.buf.set i.toNat { e with done:=true,next:=to }).take (i.toNat+1),state:={ c.state with pc:=to } },[⟨3,to⟩])
def B1:Conf:=⟨⟨⟨0,0,0,0⟩,[],[],0⟩,[],[],0⟩
def C9 (l:List Int):Int:=l.getLast?.getD 0
def QQ (N:Int)(p:Prog)(c:Conf)(i:Int)(e:Ent)(x:Ins)(a b d:Int):Conf×List Obs:=
 if x.kind=1 then(put c i { e with val:=DJ p.w x.op a b,done:=true },[])
 else if x.kind=4 then(put c i { e with val:=if a=0 then d else b,done:=true },[])
 else if x.kind=3 then(put c i { e with val:=d,done:=true },[])
 else if x.kind=2 then
  (if Y1 p.w (a + b) >= N then (put c i ⟨e.pc, 0, Y1 p.w (a + b), -1, e.next, true, true, true⟩, [])
   else(put c i ⟨e.pc,(F0 p c i (Y1 p.w (a+b))).1,Y1 p.w (a+b),(F0 p c i (Y1 p.w (a+b))).2.1,e.next,true,true,e.fault⟩,[⟨1,Y1 p.w (a+b)⟩]))
 else if x.kind=5 then B0 c i e (if DJ p.w x.op a b=0 then ZW (e.pc+1) else x.target)
 else if x.kind=7 then B0 c i e (min a p.ins.length)
 else if x.kind=9 then
  (match real p c.state.stack c.buf i with
   | none=>(put c i { e with done:=true,fault:=true },[])
   | some l=>if l.length=0 then(put c i { e with done:=true,fault:=true },[]) else B0 c i e (C9 l))
 else(put c i { e with done:=true },[])
def JU (N:Int)(p:Prog)(c:Conf)(i:Int):Conf×List Obs:=
 QQ N p c i (ZP c.buf i) (Yk p c i) (Y2 p c i (Yk p c i).a).1 (Y2 p c i (Yk p c i).b).1 (C5 p c i (Yk p c i).d).1
def Q8 (p:Prog)(c:Conf)(i:Int):Bool:=
 QE p c i&& !(ZP c.buf i).known&&decide ((Yk p c i).kind=3)&&(Y2 p c i (Yk p c i).a).2&&(Y2 p c i (Yk p c i).b).2
def QU (p:Prog)(c:Conf)(i:Int):Int:=Y1 p.w ((Y2 p c i (Yk p c i).a).1+(Y2 p c i (Yk p c i).b).1)
def Nz (p:Prog)(c:Conf)(i addr:Int)(l:List Ent):Conf:=
 bif (J9 p l i addr).2 then { c with buf:=l.take (J9 p l i addr).1.toNat,state:={ c.state with pc:=(ZP l (J9 p l i addr).1).pc } } else { c with buf:=l }
def M2 (N:Int)(p:Prog)(c:Conf)(i:Int)(e:Ent)(addr:Int):Conf×List Obs:=
 if addr>=N then(put c i { e with addr:=addr,known:=true,fault:=true },[])
 else(Nz p c i addr (c.buf.set i.toNat { e with addr:=addr,known:=true,fault:=false }),[⟨2,addr⟩])
def EG (N:Int)(p:Prog)(c:Conf)(i:Int):Conf×List Obs:=M2 N p c i (ZP c.buf i) (QU p c i)
def Qq (p:Prog)(c:Conf):Int:=
 if c.end_≠0∨c.state.pc= -1∨(c.buf.length:Int)>=p.window then 0
 else if(at_ p c.state.pc).kind=5 then 2
 else if(at_ p c.state.pc).kind=7∨(at_ p c.state.pc).kind=9/\c.rsb.length=0 then p.ins.length+1
 else 1
def Qx (p:Prog)(c:Conf)(g:Int):Ent×List Int:=
 let pc:=c.state.pc
 let x:=at_ p pc
 let e:Ent:=⟨pc,0,0,-1,ZW (pc+1),false,false,false⟩
 if x.kind=5 then({ e with next:=if g=1 then x.target else ZW (pc+1) },c.rsb)
 else if x.kind=6 then({ e with next:=x.target,done:=true },c.rsb)
 else if x.kind=7 then({ e with next:=g },c.rsb)
 else if x.kind=8 then({ e with next:=x.target,done:=true,fault:=match real p c.state.stack c.buf c.buf.length with | none=>true | some l=>decide (4<=l.length) },push c.rsb (ZW (pc+1)))
 else if x.kind=9 then(if c.rsb.length=0 then({ e with next:=g },c.rsb) else({ e with next:=C9 c.rsb },c.rsb.dropLast))
 else if x.kind=11∨x.kind=12 then({ e with next:= -1,done:=true },c.rsb)
 else(e,c.rsb)
def BC (p:Prog)(c:Conf)(g:Int):Bool:=decide (0<=g)&&decide (g<Qq p c)
def BK (p:Prog)(c:Conf)(g:Int):Conf:=
 {c with buf:=c.buf++[(Qx p c g).1],rsb:=(Qx p c g).2,state:={ c.state with pc:=(Qx p c g).1.next } }
def QC (p:Prog)(c:Conf):Bool:=
 c.end_==0&&decide (c.buf.length≠0)&&((ZP c.buf 0).done || decide ((at_ p (ZP c.buf 0).pc).kind=10))&&(decide ((at_ p (ZP c.buf 0).pc).kind≠3) || (ZP c.buf 0).known)
def J5 (e:Ent):Ent:=if 0<=e.frm then { e with frm:=ZW (e.frm-1) } else e
def J1 (l:List Ent):List Ent:=(l.drop 1).map J5
def QY (e:Ent)(x:Ins):Int:=bif e.fault || decide (x.kind=12) then 2 else if x.kind=11 then 1 else 0
def Az (s:State)(e:Ent)(x:Ins):State:=
 if x.kind=1∨x.kind=2∨x.kind=4 then { s with regs:=CD s.regs x.d e.val }
 else if x.kind=3 then(if 0<=e.addr/\e.addr<s.mem.length then { s with mem:=s.mem.set e.addr.toNat e.val } else s)
 else if x.kind=8 then { s with stack:=s.stack++[ZW (e.pc+1)] }
 else if x.kind=9 then { s with stack:=s.stack.dropLast }
 else s
def QS (p:Prog)(c:Conf):Conf:=
 let e:=ZP c.buf 0
 let x:=at_ p e.pc
 if QY e x=0 then { c with buf:=J1 c.buf,state:=Az c.state e x }
 else { c with buf:=[],rsb:=[],end_:=QY e x,state:={ c.state with pc:=e.pc } }
def all (N:Int)(p:Prog)(c:Conf):List Dir:=
 ((List.range (Qq p c).toNat).map fun n:Nat=>(⟨1,(n:Int)⟩:Dir))++
 (((List.range c.buf.length).filter fun n:Nat=>can N p c (n:Int)).map fun n:Nat=>(⟨2,(n:Int)⟩:Dir))++
 (((List.range c.buf.length).filter fun n:Nat=>Q8 p c (n:Int)).map fun n:Nat=>(⟨3,(n:Int)⟩:Dir))++
 (bif QC p c then[⟨4,0⟩] else[])
def Q0 (N:Int)(p:Prog)(c:Conf)(d:Dir):Bool:=
 if d.kind=1 then BC p c d.n else if d.kind=2 then can N p c d.n else if d.kind=3 then Q8 p c d.n
 else decide (d.kind=4)&&decide (d.n=0)&&QC p c
def say (N:Int)(p:Prog)(c:Conf)(d:Dir):Conf×List Obs:=
 if d.kind=1 then(BK p c d.n,[]) else if d.kind=2 then JU N p c d.n else if d.kind=3 then EG N p c d.n else(QS p c,[])
end Go.Aug.Md
namespace Go.Aug.Mc
open Go Go.Aug
open Nat renaming reduceLT -> zN0, reduceEqDiff -> zN1, reduceAdd -> zN2, reduceMul -> zN3, reduceLeDiff -> zN4
open Int renaming reduceEq -> zI0, reduceLT -> zI1, reduceLE -> zI2, reduceNeg -> zI3
set_option linter.unusedSimpArgs false
set_option linter.unusedVariables false
set_option maxHeartbeats 40000000
theorem P6 {p:Prog}{c:Conf}{i:Int}(h:Md.QE p c i=true):0<=i/\c.buf[i.toNat]? =some (Md.ZP c.buf i)/\i<c.buf.length:=by
 simp only[Md.QE,Bool.and_eq_true,decide_eq_true_eq] at h
 obtain⟨e,he⟩:=YK (show i.toNat<c.buf.length by omega)
 exact⟨h.1.1.2,by rw[Md.ZP,he];rfl,h.1.2⟩
variable {E:Env} {fn:FuncId->Option (Env->cT->cT)}
section
variable (S:Sur E fn)
include S
theorem VZ:E.lives 77 7=none/\E.lives 77 17=none/\E.lives 77 19=none/\E.lives 77 23=none/\E.lives 77 27=none/\E.lives 77 35=none/\E.lives 77 39=none:=⟨off S 77 7 (by decide) rfl,off S 77 17 (by decide) rfl,off S 77 19 (by decide) rfl,off S 77 23 (by decide) rfl,off S 77 27 (by decide) rfl,off S 77 35 (by decide) rfl,off S 77 39 (by decide) rfl⟩
theorem Z5u (dp:Nat)(s:State):Z6 E fn (dp+1) 17 [B5 s] (ZS ⟨s,[],[],0⟩):=by
 unfold Z6
 show Z7 (Z4 E fn (dp+1) 17 [.d (B5 s)] [])=_
 rw[ZD,S.Zae,ZG,Zfr,ZC _ _ _ _ _ _ _ _ rfl]
 simp only[eG,go_sem,Z3 S,Z2 S,zN0,zN1,zN2,zN3,zN4,zI0,zI1,zI2,zI3,reduceCtorEq]
theorem Zsg (dp:Nat)(s_r0 s_r1 s_r2 s_r3:Int)(s_mm s_st:List Int)(s_pc:Int)(A:List Blk)(nb:Nat):Zv false E (Z4 E fn (dp+1)) 17 A nb (some ([.agg [vi s_r0,vi s_r1,vi s_r2,vi s_r3,rD s_mm,rD s_st,vi s_pc]],[]))=some (.made (.d (ZS ⟨(⟨⟨s_r0,s_r1,s_r2,s_r3⟩,s_mm,s_st,s_pc⟩:State),[],[],0⟩)) []):=
 Z6.deep (Z5u S dp (⟨⟨s_r0,s_r1,s_r2,s_r3⟩,s_mm,s_st,s_pc⟩:State) ) (np S 17 (by decide)) A nb
theorem Zjt (dp:Nat)(p:Prog)(c:Conf)(i:Int)(hl:c.buf.length<1073741824):Z6 E fn (dp+3) 129 [Zw p,ZS c,vi i] (vb (Md.QE p c i)):=by
 unfold Z6
 show Z7 (Z4 E fn (dp+2+1) 129 [.d (Zw p),.d (ZS c),.d (vi i)] [])=_
 rw[ZD,S.Z9t,ZG,Zf6,ZC _ _ _ _ _ _ _ _ rfl]
 by_cases h1:c.end_=0
 ·by_cases h2 : 0 <= i
  ·by_cases h3 : i < c.buf.length
   ·simp only[eG,go_sem,Z3 S,Z2 S,zN0,zN1,zN2,zN3,zN4,zI0,zI1,zI2,zI3,reduceCtorEq,h1,h2,h3,ge_iff_le,Zsf S,hl,Md.QE]
   ·simp only[eG,go_sem,Z3 S,Z2 S,zN0,zN1,zN2,zN3,zN4,zI0,zI1,zI2,zI3,reduceCtorEq,h1,h2,h3,ge_iff_le,Md.QE]
  ·simp only[eG,go_sem,Z3 S,Z2 S,zN0,zN1,zN2,zN3,zN4,zI0,zI1,zI2,zI3,reduceCtorEq,h1,h2,ge_iff_le,Md.QE]
 ·simp only[eG,go_sem,Z3 S,Z2 S,zN0,zN1,zN2,zN3,zN4,zI0,zI1,zI2,zI3,reduceCtorEq,h1,Md.QE]
theorem ND (dp:Nat)(p_w p_wn p_fu p_r0 p_r1 p_r2 p_r3:Int)(p_ms:List MemT)(p_ls:List Label)(p_is:List Ins)(c_r0 c_r1 c_r2 c_r3:Int)(c_mm c_st:List Int)(c_pc:Int)(c_bf:List Ent)(c_rb:List Int)(c_en i:Int)(hl:(⟨⟨⟨c_r0,c_r1,c_r2,c_r3⟩,c_mm,c_st,c_pc⟩,c_bf,c_rb,c_en⟩:Conf).buf.length<1073741824)(A:List Blk)(nb:Nat)(us:List Nat):Zv false E (Z4 E fn (dp+3)) 129 A nb (some ([.agg [vi p_w,vi p_wn,vi p_fu,vi p_r0,vi p_r1,vi p_r2,vi p_r3,rD p_ms,rD p_ls,rD p_is],.agg [vi c_r0,vi c_r1,vi c_r2,vi c_r3,rD c_mm,rD c_st,vi c_pc,rD c_bf,rD c_rb,vi c_en],vi i],us))=some (.made (.d (vb (Md.QE (⟨p_w,p_wn,p_fu,⟨p_r0,p_r1,p_r2,p_r3⟩,p_ms,p_ls,p_is⟩:Prog) (⟨⟨⟨c_r0,c_r1,c_r2,c_r3⟩,c_mm,c_st,c_pc⟩,c_bf,c_rb,c_en⟩:Conf) i))) []):=
 Z6.flat (Zjt S dp (⟨p_w,p_wn,p_fu,⟨p_r0,p_r1,p_r2,p_r3⟩,p_ms,p_ls,p_is⟩:Prog) (⟨⟨⟨c_r0,c_r1,c_r2,c_r3⟩,c_mm,c_st,c_pc⟩,c_bf,c_rb,c_en⟩:Conf) i hl) (np S 129 (by decide)) (rfl) A nb us
theorem Zjs (dp:Nat)(p:Prog)(c:Conf)(i:Int)(x:Ins)(hl:c.buf.length<1073741824):Z6 E fn (dp+4) 130 [Zw p,ZS c,vi i,.agg (Cl.cells x)] (.tup [vi (Md.Y2 p c i x.a).1,vi (Md.Y2 p c i x.b).1,vi (Md.C5 p c i x.d).1,vb ((Md.Y2 p c i x.a).2&&(Md.Y2 p c i x.b).2),vb (Md.C5 p c i x.d).2]):=by
 unfold Z6
 show Z7 (Z4 E fn (dp+3+1) 130 [.d (Zw p),.d (ZS c),.d (vi i),.d (.agg (Cl.cells x))] [])=_
 rw[ZD,S.Z9s,ZG,Zf5,ZC _ _ _ _ _ _ _ _ rfl]
 cases h:(Md.val p c.state.regs c.buf i x.a).2<;>simp only[eG,go_sem,Z3 S,Z2 S,zN0,zN1,zN2,zN3,zN4,zI0,zI1,zI2,zI3,reduceCtorEq,h,Z2q S,Zcz S,hl,Md.Y2,Md.C5]
theorem AW (dp:Nat)(p_w p_wn p_fu p_r0 p_r1 p_r2 p_r3:Int)(p_ms:List MemT)(p_ls:List Label)(p_is:List Ins)(c_r0 c_r1 c_r2 c_r3:Int)(c_mm c_st:List Int)(c_pc:Int)(c_bf:List Ent)(c_rb:List Int)(c_en i x_k x_o x_d:Int)(x_ag:Bool)(x_an:Int)(x_bg:Bool)(x_bn:Int)(x_nm:ByteArray)(x_tg:Int)(hl:(⟨⟨⟨c_r0,c_r1,c_r2,c_r3⟩,c_mm,c_st,c_pc⟩,c_bf,c_rb,c_en⟩:Conf).buf.length<1073741824)(A:List Blk)(nb:Nat)(us:List Nat):Zv false E (Z4 E fn (dp+4)) 130 A nb (some ([.agg [vi p_w,vi p_wn,vi p_fu,vi p_r0,vi p_r1,vi p_r2,vi p_r3,rD p_ms,rD p_ls,rD p_is],.agg [vi c_r0,vi c_r1,vi c_r2,vi c_r3,rD c_mm,rD c_st,vi c_pc,rD c_bf,rD c_rb,vi c_en],vi i,.agg [vi x_k,vi x_o,vi x_d,vb x_ag,vi x_an,vb x_bg,vi x_bn,vt x_nm,vi x_tg]],us))=some (.made (.d (.tup [vi (Md.Y2 (⟨p_w,p_wn,p_fu,⟨p_r0,p_r1,p_r2,p_r3⟩,p_ms,p_ls,p_is⟩:Prog) (⟨⟨⟨c_r0,c_r1,c_r2,c_r3⟩,c_mm,c_st,c_pc⟩,c_bf,c_rb,c_en⟩:Conf) i (⟨x_k,x_o,x_d,⟨x_ag,x_an⟩,⟨x_bg,x_bn⟩,x_nm,x_tg⟩:Ins).a).1,vi (Md.Y2 (⟨p_w,p_wn,p_fu,⟨p_r0,p_r1,p_r2,p_r3⟩,p_ms,p_ls,p_is⟩:Prog) (⟨⟨⟨c_r0,c_r1,c_r2,c_r3⟩,c_mm,c_st,c_pc⟩,c_bf,c_rb,c_en⟩:Conf) i (⟨x_k,x_o,x_d,⟨x_ag,x_an⟩,⟨x_bg,x_bn⟩,x_nm,x_tg⟩:Ins).b).1,vi (Md.C5 (⟨p_w,p_wn,p_fu,⟨p_r0,p_r1,p_r2,p_r3⟩,p_ms,p_ls,p_is⟩:Prog) (⟨⟨⟨c_r0,c_r1,c_r2,c_r3⟩,c_mm,c_st,c_pc⟩,c_bf,c_rb,c_en⟩:Conf) i (⟨x_k,x_o,x_d,⟨x_ag,x_an⟩,⟨x_bg,x_bn⟩,x_nm,x_tg⟩:Ins).d).1,vb ((Md.Y2 (⟨p_w,p_wn,p_fu,⟨p_r0,p_r1,p_r2,p_r3⟩,p_ms,p_ls,p_is⟩:Prog) (⟨⟨⟨c_r0,c_r1,c_r2,c_r3⟩,c_mm,c_st,c_pc⟩,c_bf,c_rb,c_en⟩:Conf) i (⟨x_k,x_o,x_d,⟨x_ag,x_an⟩,⟨x_bg,x_bn⟩,x_nm,x_tg⟩:Ins).a).2&&(Md.Y2 (⟨p_w,p_wn,p_fu,⟨p_r0,p_r1,p_r2,p_r3⟩,p_ms,p_ls,p_is⟩:Prog) (⟨⟨⟨c_r0,c_r1,c_r2,c_r3⟩,c_mm,c_st,c_pc⟩,c_bf,c_rb,c_en⟩:Conf) i (⟨x_k,x_o,x_d,⟨x_ag,x_an⟩,⟨x_bg,x_bn⟩,x_nm,x_tg⟩:Ins).b).2),vb (Md.C5 (⟨p_w,p_wn,p_fu,⟨p_r0,p_r1,p_r2,p_r3⟩,p_ms,p_ls,p_is⟩:Prog) (⟨⟨⟨c_r0,c_r1,c_r2,c_r3⟩,c_mm,c_st,c_pc⟩,c_bf,c_rb,c_en⟩:Conf) i (⟨x_k,x_o,x_d,⟨x_ag,x_an⟩,⟨x_bg,x_bn⟩,x_nm,x_tg⟩:Ins).d).2])) []):=
 Z6.flat (Zjs S dp (⟨p_w,p_wn,p_fu,⟨p_r0,p_r1,p_r2,p_r3⟩,p_ms,p_ls,p_is⟩:Prog) (⟨⟨⟨c_r0,c_r1,c_r2,c_r3⟩,c_mm,c_st,c_pc⟩,c_bf,c_rb,c_en⟩:Conf) i (⟨x_k,x_o,x_d,⟨x_ag,x_an⟩,⟨x_bg,x_bn⟩,x_nm,x_tg⟩:Ins) hl) (np S 130 (by decide)) (rfl) A nb us
theorem Zkc (dp:Nat)(p:Prog)(c:Conf)(i:Int)(hl:c.buf.length<1073741824):Z6 E fn (dp+5) 77 [Zw p,ZS c,vi i] (vb (Md.can (c.state.mem.length:Int) p c i)):=by
 unfold Z6
 show Z7 (Z4 E fn (dp+4+1) 77 [.d (Zw p),.d (ZS c),.d (vi i)] [])=_
 rw[ZD,S.Zac,ZG,Zfp,ZC _ _ _ _ _ _ _ _ rfl]
 cases ho:Md.QE p c i with
 | false=>simp only[eG,go_sem,Z3 S,Z2 S,zN0,zN1,zN2,zN3,zN4,zI0,zI1,zI2,zI3,reduceCtorEq,VZ S,ND S,hl,ho,Md.can]
 | true=>
  obtain⟨h0,he,_⟩:=P6 ho
  cases hd:(Md.ZP c.buf i).done with
  | true=>simp only[eG,go_sem,Z3 S,Z2 S,zN0,zN1,zN2,zN3,zN4,zI0,zI1,zI2,zI3,reduceCtorEq,VZ S,ND S,hl,ho,E1 h0 he,hd,Md.can]
  | false=>
   simp only[eG,go_sem,Z3 S,Z2 S,zN0,zN1,zN2,zN3,zN4,zI0,zI1,zI2,zI3,reduceCtorEq,VZ S,ND S,hl,ho,E1 h0 he,hd,Md.can,ZU S,AW S,Aw S,CJ S,Z2q S,Md.JR]
   have hm:Md.Yk p c i=Md.at_ p (Md.ZP c.buf i).pc:=rfl
   rw[hm]
   generalize hx:Md.at_ p (Md.ZP c.buf i).pc=x
   cases hab:((Md.Y2 p c i x.a).2&&(Md.Y2 p c i x.b).2)<;>by_cases hN:Md.Y1 p.w ((Md.Y2 p c i x.a).1+(Md.Y2 p c i x.b).1)>=(c.state.mem.length:Int)
   all_goals
    simp only[eG,go_sem,Z3 S,Z2 S,zN0,zN1,zN2,zN3,zN4,zI0,zI1,zI2,zI3,reduceCtorEq,VZ S,hab,hN,ND S,hl,ho,E1 h0 he,hd,Md.can,ZU S,AW S,Aw S,CJ S,Z2q S,Md.JR]
    by_cases k1:x.kind=1
    ·simp only[k1,Md.ready,hab,if_true,decide_true,cond_true,true_or]
    by_cases k5:x.kind=5
    ·simp only[k5,Md.ready,hab,if_true,decide_true,cond_true,or_true,zI0,decide_false,cond_false]
    by_cases k4:x.kind=4
    ·simp only[k4,Md.ready,hab,if_true,if_false,decide_true,cond_true,or_self,zI0,decide_false,cond_false,Bool.true_and,Bool.false_and]
    by_cases k2:x.kind=2
    ·simp only[k2,Md.ready,hab,hN,if_true,if_false,decide_true,cond_true,or_self,zI0,decide_false,cond_false,Bool.true_and,Bool.false_and,Bool.true_or,Bool.false_or,Md.F0]
    by_cases k3:x.kind=3
    ·simp only[k3,Md.ready,if_true,if_false,decide_true,cond_true,or_self,zI0,decide_false,cond_false]
    by_cases k7:x.kind=7
    ·simp only[k7,Md.ready,if_true,if_false,decide_true,cond_true,or_self,zI0,decide_false,cond_false,Md.Y2]
    ·simp only[k1,k2,k3,k4,k5,k7,Md.ready,if_true,if_false,decide_true,cond_true,or_self,zI0,decide_false,cond_false]
theorem B8 (dp:Nat)(p_w p_wn p_fu p_r0 p_r1 p_r2 p_r3:Int)(p_ms:List MemT)(p_ls:List Label)(p_is:List Ins)(c_r0 c_r1 c_r2 c_r3:Int)(c_mm c_st:List Int)(c_pc:Int)(c_bf:List Ent)(c_rb:List Int)(c_en i:Int)(hl:(⟨⟨⟨c_r0,c_r1,c_r2,c_r3⟩,c_mm,c_st,c_pc⟩,c_bf,c_rb,c_en⟩:Conf).buf.length<1073741824)(A:List Blk)(nb:Nat)(us:List Nat):Zv false E (Z4 E fn (dp+5)) 77 A nb (some ([.agg [vi p_w,vi p_wn,vi p_fu,vi p_r0,vi p_r1,vi p_r2,vi p_r3,rD p_ms,rD p_ls,rD p_is],.agg [vi c_r0,vi c_r1,vi c_r2,vi c_r3,rD c_mm,rD c_st,vi c_pc,rD c_bf,rD c_rb,vi c_en],vi i],us))=some (.made (.d (vb (Md.can ((⟨⟨⟨c_r0,c_r1,c_r2,c_r3⟩,c_mm,c_st,c_pc⟩,c_bf,c_rb,c_en⟩:Conf).state.mem.length:Int) (⟨p_w,p_wn,p_fu,⟨p_r0,p_r1,p_r2,p_r3⟩,p_ms,p_ls,p_is⟩:Prog) (⟨⟨⟨c_r0,c_r1,c_r2,c_r3⟩,c_mm,c_st,c_pc⟩,c_bf,c_rb,c_en⟩:Conf) i))) []):=
 Z6.flat (Zkc S dp (⟨p_w,p_wn,p_fu,⟨p_r0,p_r1,p_r2,p_r3⟩,p_ms,p_ls,p_is⟩:Prog) (⟨⟨⟨c_r0,c_r1,c_r2,c_r3⟩,c_mm,c_st,c_pc⟩,c_bf,c_rb,c_en⟩:Conf) i hl) (np S 77 (by decide)) (rfl) A nb us
end
theorem Zpk (l:List Ent)(i:Int):Md.Cq l i<=l.length+1:=by unfold Md.Cq;omega
theorem Zpi (l:List Ent)(i:Int):min (max i (-1)) (l.length:Int)+1=(Md.Cq l i:Int):=by unfold Md.Cq;omega
variable {E:Env} {fn:FuncId->Option (Env->cT->cT)}
section
variable (S:Sur E fn)
include S
theorem VY:E.lives 78 7=none:=off S 78 7 (by decide) rfl
theorem Tv:E.lives 76 7=none/\E.lives 76 13=none/\E.lives 76 17=none/\E.lives 76 21=none/\E.lives 76 23=none:=⟨off S 76 7 (by decide) rfl,off S 76 13 (by decide) rfl,off S 76 17 (by decide) rfl,off S 76 21 (by decide) rfl,off S 76 23 (by decide) rfl⟩
theorem FE:E.lives 138 1=none/\E.lives 138 13=none:=⟨off S 138 1 (by decide) rfl,off S 138 13 (by decide) rfl⟩
theorem Zkb (dp:Nat)(p:Prog)(c:Conf)(i:Int)(hl:c.buf.length<1073741824):Z6 E fn (dp+5) 78 [Zw p,ZS c,vi i] (vb (Md.Q8 p c i)):=by
 unfold Z6
 show Z7 (Z4 E fn (dp+4+1) 78 [.d (Zw p),.d (ZS c),.d (vi i)] [])=_
 rw[ZD,S.Zab,ZG,Zfo,ZC _ _ _ _ _ _ _ _ rfl]
 cases ho:Md.QE p c i with
 | false=>simp only[eG,go_sem,Z3 S,Z2 S,zN0,zN1,zN2,zN3,zN4,zI0,zI1,zI2,zI3,reduceCtorEq,VY S,ND S,hl,ho,Md.Q8]
 | true=>
  obtain⟨h0,he,_⟩:=P6 ho
  cases hd:(Md.ZP c.buf i).known with
  | true=>simp only[eG,go_sem,Z3 S,Z2 S,zN0,zN1,zN2,zN3,zN4,zI0,zI1,zI2,zI3,reduceCtorEq,VY S,ND S,hl,ho,E1 h0 he,hd,Md.Q8]
  | false=>
   by_cases k3:(Md.at_ p (Md.ZP c.buf i).pc).kind=3
   ·simp only[eG,go_sem,Z3 S,Z2 S,zN0,zN1,zN2,zN3,zN4,zI0,zI1,zI2,zI3,reduceCtorEq,VY S,ND S,hl,ho,E1 h0 he,hd,Md.Q8,ZU S,AW S,Md.Yk,k3]
   ·simp only[eG,go_sem,Z3 S,Z2 S,zN0,zN1,zN2,zN3,zN4,zI0,zI1,zI2,zI3,reduceCtorEq,VY S,ND S,hl,ho,E1 h0 he,hd,Md.Q8,ZU S,AW S,Md.Yk,k3]
theorem NE (dp:Nat)(p_w p_wn p_fu p_r0 p_r1 p_r2 p_r3:Int)(p_ms:List MemT)(p_ls:List Label)(p_is:List Ins)(c_r0 c_r1 c_r2 c_r3:Int)(c_mm c_st:List Int)(c_pc:Int)(c_bf:List Ent)(c_rb:List Int)(c_en i:Int)(hl:(⟨⟨⟨c_r0,c_r1,c_r2,c_r3⟩,c_mm,c_st,c_pc⟩,c_bf,c_rb,c_en⟩:Conf).buf.length<1073741824)(A:List Blk)(nb:Nat)(us:List Nat):Zv false E (Z4 E fn (dp+5)) 78 A nb (some ([.agg [vi p_w,vi p_wn,vi p_fu,vi p_r0,vi p_r1,vi p_r2,vi p_r3,rD p_ms,rD p_ls,rD p_is],.agg [vi c_r0,vi c_r1,vi c_r2,vi c_r3,rD c_mm,rD c_st,vi c_pc,rD c_bf,rD c_rb,vi c_en],vi i],us))=some (.made (.d (vb (Md.Q8 (⟨p_w,p_wn,p_fu,⟨p_r0,p_r1,p_r2,p_r3⟩,p_ms,p_ls,p_is⟩:Prog) (⟨⟨⟨c_r0,c_r1,c_r2,c_r3⟩,c_mm,c_st,c_pc⟩,c_bf,c_rb,c_en⟩:Conf) i))) []):=
 Z6.flat (Zkb S dp (⟨p_w,p_wn,p_fu,⟨p_r0,p_r1,p_r2,p_r3⟩,p_ms,p_ls,p_is⟩:Prog) (⟨⟨⟨c_r0,c_r1,c_r2,c_r3⟩,c_mm,c_st,c_pc⟩,c_bf,c_rb,c_en⟩:Conf) i hl) (np S 78 (by decide)) (rfl) A nb us
theorem Zk6 (dp:Nat)(p:Prog)(c:Conf)(hi:p.ins.length<1073741824):Z6 E fn (dp+2) 76 [Zw p,ZS c] (vi (Md.Qq p c)):=by
 unfold Z6
 show Z7 (Z4 E fn (dp+1+1) 76 [.d (Zw p),.d (ZS c)] [])=_
 rw[ZD,S.Za6,ZG,Zfj,ZC _ _ _ _ _ _ _ _ rfl]
 have hw:IntKind.i64.wrap ((p.ins.length:Int)+1)=p.ins.length+1:=by rw[YH (by omega) (by omega)]
 by_cases h1:c.end_=0
 ·by_cases h2 : c.state.pc = -1
  ·simp only[eG,go_sem,Z3 S,Z2 S,zN0,zN1,zN2,zN3,zN4,zI0,zI1,zI2,zI3,reduceCtorEq,Tv S,h1,h2,Md.Qq,ne_eq,not_true_eq_false,not_false_eq_true]
  ·by_cases h3 : (c.buf.length : Int) >= p.window
   ·simp only[eG,go_sem,Z3 S,Z2 S,zN0,zN1,zN2,zN3,zN4,zI0,zI1,zI2,zI3,reduceCtorEq,Tv S,h1,h2,h3,Md.Qq,ne_eq,not_true_eq_false,not_false_eq_true]
   ·by_cases h9 : c.rsb.length = 0
    ·simp only [eG, go_sem, Z3 S, Z2 S, zN0, zN1, zN2, zN3, zN4, zI0, zI1, zI2, zI3, reduceCtorEq, Tv S, h1, h2, h3, h9, Md.Qq, ne_eq, not_true_eq_false, not_false_eq_true, ZU S, hw, Int.natCast_eq_zero]
     by_cases k5:(Md.at_ p c.state.pc).kind=5
     ·simp only[k5,decide_true,decide_false,cond_true,cond_false,if_true,if_false,zI0]
     by_cases k7:(Md.at_ p c.state.pc).kind=7
     ·simp only[k7,decide_true,decide_false,cond_true,cond_false,if_true,if_false,zI0,true_or]
     by_cases k9:(Md.at_ p c.state.pc).kind=9
     ·simp only[k9,decide_true,decide_false,cond_true,cond_false,if_true,if_false,zI0,or_true,and_self]
     ·simp only[k5,k7,k9,decide_true,decide_false,cond_true,cond_false,if_true,if_false,zI0,or_self,false_and]
    ·simp only [eG, go_sem, Z3 S, Z2 S, zN0, zN1, zN2, zN3, zN4, zI0, zI1, zI2, zI3, reduceCtorEq, Tv S, h1, h2, h3, h9, Md.Qq, ne_eq, not_true_eq_false, not_false_eq_true, ZU S, hw, Int.natCast_eq_zero]
     by_cases k5:(Md.at_ p c.state.pc).kind=5
     ·simp only[k5,decide_true,decide_false,cond_true,cond_false,if_true,if_false,zI0]
     by_cases k7:(Md.at_ p c.state.pc).kind=7
     ·simp only[k7,decide_true,decide_false,cond_true,cond_false,if_true,if_false,zI0,true_or]
     by_cases k9:(Md.at_ p c.state.pc).kind=9
     ·simp only[k9,decide_true,decide_false,cond_true,cond_false,if_true,if_false,zI0,or_true,and_self,and_false,or_self]
     ·simp only[k5,k7,k9,decide_true,decide_false,cond_true,cond_false,if_true,if_false,zI0,or_self,false_and]
 ·simp only[eG,go_sem,Z3 S,Z2 S,zN0,zN1,zN2,zN3,zN4,zI0,zI1,zI2,zI3,reduceCtorEq,Tv S,h1,Md.Qq,ne_eq,not_true_eq_false,not_false_eq_true]
theorem EB (dp:Nat)(p_w p_wn p_fu p_r0 p_r1 p_r2 p_r3:Int)(p_ms:List MemT)(p_ls:List Label)(p_is:List Ins)(c_r0 c_r1 c_r2 c_r3:Int)(c_mm c_st:List Int)(c_pc:Int)(c_bf:List Ent)(c_rb:List Int)(c_en:Int)(hi:(⟨p_w,p_wn,p_fu,⟨p_r0,p_r1,p_r2,p_r3⟩,p_ms,p_ls,p_is⟩:Prog).ins.length<1073741824)(A:List Blk)(nb:Nat)(us:List Nat):Zv false E (Z4 E fn (dp+2)) 76 A nb (some ([.agg [vi p_w,vi p_wn,vi p_fu,vi p_r0,vi p_r1,vi p_r2,vi p_r3,rD p_ms,rD p_ls,rD p_is],.agg [vi c_r0,vi c_r1,vi c_r2,vi c_r3,rD c_mm,rD c_st,vi c_pc,rD c_bf,rD c_rb,vi c_en]],us))=some (.made (.d (vi (Md.Qq (⟨p_w,p_wn,p_fu,⟨p_r0,p_r1,p_r2,p_r3⟩,p_ms,p_ls,p_is⟩:Prog) (⟨⟨⟨c_r0,c_r1,c_r2,c_r3⟩,c_mm,c_st,c_pc⟩,c_bf,c_rb,c_en⟩:Conf)))) []):=
 Z6.flat (Zk6 S dp (⟨p_w,p_wn,p_fu,⟨p_r0,p_r1,p_r2,p_r3⟩,p_ms,p_ls,p_is⟩:Prog) (⟨⟨⟨c_r0,c_r1,c_r2,c_r3⟩,c_mm,c_st,c_pc⟩,c_bf,c_rb,c_en⟩:Conf) hi) (np S 76 (by decide)) (rfl) A nb us
theorem Zoa (dp:Nat)(p:Prog)(l:List Ent)(i addr:Int)(hl:l.length<1073741824)(kx:Nat->K)
  (hx:∀ T,Z7 (kx 0 (mk .bot 58 T) [.cells ((Y3 p).map .d) 0 false])=some (.tup [vi 0,vb false])):
  ∀(m k fuel:Nat),(k+m=l.length∨(m=0/\l.length<=k))->k<=l.length+1->m<=fuel->Z7 (R2 (Zj E 138) (Z4 E fn (dp+1)) (Z9 6 R2 (Zj E 138) (Z4 E fn (dp+1)) kx (ZY 0 [.tmp 8,.tmp 9]) fuel) kx (ZY 0 [.tmp 8,.tmp 9])
   (mk .bot 58 [(1,.d (rD l)),(2,aI i),(3,aI addr),(4,.ref 0 0 0),(10,aI k)]) [.cells ((Y3 p).map .d) 0 false])=
   some (.tup [vi (Md.JM p i addr k (l.drop k)).1,vb (Md.JM p i addr k (l.drop k)).2]):=by
 intro m
 induction m with
 | zero=>
  intro k fuel hk hk2 _
  generalize Z9 6 R2 _ _ kx _ fuel=KK
  rw[R2,List.drop_of_length_le (by omega)]
  simp only[eG,go_sem,Z3 S,Z2 S,zN0,zN1,zN2,zN3,zN4,zI0,zI1,zI2,zI3,reduceCtorEq,FE S,show ¬(k:Int)<l.length by omega,Md.JM]
  exact hx _
 | succ m ih=>
  intro k fuel hk hk2 hf
  obtain⟨e,he⟩:=YK (show k<l.length by omega)
  obtain⟨fuel,rfl⟩:∃ m,fuel=m+1:=⟨fuel-1,by omega⟩
  generalize hK:Z9 6 R2 _ _ kx _ (fuel+1)=KK
  rw[R2,Aj he]
  have h2:(k:Int)<l.length:=by omega
  have next:∀ X,(Md.JM p i addr (k+1) (l.drop (k+1)))=X->X=Md.JM p i addr (k+1) (l.drop (k+1)):=fun _ h=>h.symm
  by_cases k2:(Md.at_ p e.pc).kind=2
  ·cases hk : e.known with
   | true=>
    by_cases ha:e.addr=addr
    ·by_cases hfr : e.frm < i
     ·simp only[eG,go_sem,Z3 S,Z2 S,zN0,zN1,zN2,zN3,zN4,zI0,zI1,zI2,zI3,reduceCtorEq,FE S,Zx he,ZU S,wi k (by omega),h2,k2,hk,ha,hfr,Md.JM,Md.FN]
     ·simp only [eG, go_sem, Z3 S, Z2 S, zN0, zN1, zN2, zN3, zN4, zI0, zI1, zI2, zI3, reduceCtorEq, FE S, Zx he, ZU S, wi k (by omega), h2, k2, hk, ha, hfr, Md.JM, Md.FN]
      rw[<-hK,Z8 (on S _ _ [1,2,3,4,10] (by decide) rfl) rfl _ _ _ _ _ _ _ _ _ rfl]
      simp only[eG,go_sem,Z3 S,Z2 S,zN0,zN1,zN2,zN3,zN4,zI0,zI1,zI2,zI3,reduceCtorEq,FE S,Zx he,ZU S,wi k (by omega),h2]
      exact ih (k+1) fuel (by omega) (by omega) (by omega)
    ·simp only [eG, go_sem, Z3 S, Z2 S, zN0, zN1, zN2, zN3, zN4, zI0, zI1, zI2, zI3, reduceCtorEq, FE S, Zx he, ZU S, wi k (by omega), h2, k2, hk, ha, Md.JM, Md.FN]
     rw[<-hK,Z8 (on S _ _ [1,2,3,4,10] (by decide) rfl) rfl _ _ _ _ _ _ _ _ _ rfl]
     simp only[eG,go_sem,Z3 S,Z2 S,zN0,zN1,zN2,zN3,zN4,zI0,zI1,zI2,zI3,reduceCtorEq,FE S,Zx he,ZU S,wi k (by omega),h2]
     exact ih (k+1) fuel (by omega) (by omega) (by omega)
   | false=>
    simp only[eG,go_sem,Z3 S,Z2 S,zN0,zN1,zN2,zN3,zN4,zI0,zI1,zI2,zI3,reduceCtorEq,FE S,Zx he,ZU S,wi k (by omega),h2,k2,hk,Md.JM,Md.FN]
    rw[<-hK,Z8 (on S _ _ [1,2,3,4,10] (by decide) rfl) rfl _ _ _ _ _ _ _ _ _ rfl]
    simp only[eG,go_sem,Z3 S,Z2 S,zN0,zN1,zN2,zN3,zN4,zI0,zI1,zI2,zI3,reduceCtorEq,FE S,Zx he,ZU S,wi k (by omega),h2]
    exact ih (k+1) fuel (by omega) (by omega) (by omega)
  ·simp only [eG, go_sem, Z3 S, Z2 S, zN0, zN1, zN2, zN3, zN4, zI0, zI1, zI2, zI3, reduceCtorEq, FE S, Zx he, ZU S, wi k (by omega), h2, k2, Md.JM, Md.FN]
   rw[<-hK,Z8 (on S _ _ [1,2,3,4,10] (by decide) rfl) rfl _ _ _ _ _ _ _ _ _ rfl]
   simp only[eG,go_sem,Z3 S,Z2 S,zN0,zN1,zN2,zN3,zN4,zI0,zI1,zI2,zI3,reduceCtorEq,FE S,Zx he,ZU S,wi k (by omega),h2]
   exact ih (k+1) fuel (by omega) (by omega) (by omega)
theorem Zk5 (dp:Nat)(p:Prog)(l:List Ent)(i addr:Int)(hl:l.length<1073741824):Z6 E fn (dp+2) 138 [Zw p,rD l,vi i,vi addr] (.tup [vi (Md.J9 p l i addr).1,vb (Md.J9 p l i addr).2]):=by
 unfold Z6
 show Z7 (Z4 E fn (dp+1+1) 138 [.d (Zw p),.d (rD l),.d (vi i),.d (vi addr)] [])=_
 rw[ZD,S.Za5,ZG,Zfi,ZC _ _ _ _ _ _ _ _ rfl]
 have hh:=Zpk l i
 have hr:IntKind.i64.wrap (min (max i (-1)) (l.length:Int)+1)=(Md.Cq l i:Int):=by rw[Zpi];exact YH (by omega) (by omega)
 simp only[eG,go_sem,Z3 S,Z2 S,zN0,zN1,zN2,zN3,zN4,zI0,zI1,zI2,zI3,reduceCtorEq,FE S,hr]
 rw[Y7,Z8 (on S _ _ [1,2,3,4,10] (by decide) rfl) rfl _ _ _ _ _ _ _ _ _ rfl]
 simp only[eG,go_sem,Z3 S,Z2 S,zN0,zN1,zN2,zN3,zN4,zI0,zI1,zI2,zI3,reduceCtorEq,FE S]
 refine Zoa S dp p l i addr hl _ ?_ (l.length-Md.Cq l i) (Md.Cq l i) _ (by omega) hh (by omega)
 intro T
 simp only[eG,go_sem,Z3 S,Z2 S,zN0,zN1,zN2,zN3,zN4,zI0,zI1,zI2,zI3,reduceCtorEq,FE S]
theorem Zd0 (dp:Nat)(p_w p_wn p_fu p_r0 p_r1 p_r2 p_r3:Int)(p_ms:List MemT)(p_ls:List Label)(p_is:List Ins)(l:List Ent)(i addr:Int)(hl:l.length<1073741824)(A:List Blk)(nb:Nat)(us:List Nat):Zv false E (Z4 E fn (dp+2)) 138 A nb (some ([.agg [vi p_w,vi p_wn,vi p_fu,vi p_r0,vi p_r1,vi p_r2,vi p_r3,rD p_ms,rD p_ls,rD p_is],rD l,vi i,vi addr],us))=some (.made (.d (.tup [vi (Md.J9 (⟨p_w,p_wn,p_fu,⟨p_r0,p_r1,p_r2,p_r3⟩,p_ms,p_ls,p_is⟩:Prog) l i addr).1,vb (Md.J9 (⟨p_w,p_wn,p_fu,⟨p_r0,p_r1,p_r2,p_r3⟩,p_ms,p_ls,p_is⟩:Prog) l i addr).2])) []):=
 Z6.flat (Zk5 S dp (⟨p_w,p_wn,p_fu,⟨p_r0,p_r1,p_r2,p_r3⟩,p_ms,p_ls,p_is⟩:Prog) l i addr hl) (np S 138 (by decide)) (rfl) A nb us
end
variable {E:Env} {fn:FuncId->Option (Env->cT->cT)}
section
variable (S:Sur E fn)
include S
theorem Z0u:E.lives 79 7=none:=off S 79 7 (by decide) rfl
theorem Z13:E.lives 143 7=none/\E.lives 143 15=none/\E.lives 143 19=none:=⟨off S 143 7 (by decide) rfl,off S 143 15 (by decide) rfl,off S 143 19 (by decide) rfl⟩
theorem Znf:E.lives 159 7=none/\E.lives 159 11=none:=⟨off S 159 7 (by decide) rfl,off S 159 11 (by decide) rfl⟩
theorem Zka (dp:Nat)(p:Prog)(c:Conf):Z6 E fn (dp+2) 79 [Zw p,ZS c] (vb (Md.QC p c)):=by
 unfold Z6
 show Z7 (Z4 E fn (dp+1+1) 79 [.d (Zw p),.d (ZS c)] [])=_
 rw[ZD,S.Zaa,ZG,Zfn,ZC _ _ _ _ _ _ _ _ rfl]
 by_cases h1:c.end_=0
 ·by_cases h2 : c.buf.length = 0
  ·simp only [eG, go_sem, Z3 S, Z2 S, zN0, zN1, zN2, zN3, zN4, zI0, zI1, zI2, zI3, reduceCtorEq, Z0u S, h1, h2, Md.QC]
   simp
  ·obtain ⟨e, he⟩ := YK (show 0 < c.buf.length by omega)
   have e0:Md.ZP c.buf 0=e:=by show(c.buf[0]?).getD _=_;rw[he];rfl
   have hz:(c.buf.length:Int)≠0:=by omega
   have w0:=E1 (l:=c.buf) (i:=0) (by decide) he .i64 8 rfl
   cases hd:e.done<;>cases hk:e.known<;>by_cases k10:(Md.at_ p e.pc).kind=10<;>by_cases k3:(Md.at_ p e.pc).kind=3
   all_goals first | omega | simp only[eG,go_sem,Z3 S,Z2 S,zN0,zN1,zN2,zN3,zN4,zI0,zI1,zI2,zI3,reduceCtorEq,Z0u S,h1,h2,hz,w0,Md.QC,e0,ZU S,hd,hk,k10,k3,ne_eq,not_false_eq_true,not_true_eq_false,Bool.not_true,Bool.not_false]
 ·simp only[eG,go_sem,Z3 S,Z2 S,zN0,zN1,zN2,zN3,zN4,zI0,zI1,zI2,zI3,reduceCtorEq,Z0u S,h1,Md.QC]
theorem Jz (dp:Nat)(p_w p_wn p_fu p_r0 p_r1 p_r2 p_r3:Int)(p_ms:List MemT)(p_ls:List Label)(p_is:List Ins)(c_r0 c_r1 c_r2 c_r3:Int)(c_mm c_st:List Int)(c_pc:Int)(c_bf:List Ent)(c_rb:List Int)(c_en:Int)(A:List Blk)(nb:Nat)(us:List Nat):Zv false E (Z4 E fn (dp+2)) 79 A nb (some ([.agg [vi p_w,vi p_wn,vi p_fu,vi p_r0,vi p_r1,vi p_r2,vi p_r3,rD p_ms,rD p_ls,rD p_is],.agg [vi c_r0,vi c_r1,vi c_r2,vi c_r3,rD c_mm,rD c_st,vi c_pc,rD c_bf,rD c_rb,vi c_en]],us))=some (.made (.d (vb (Md.QC (⟨p_w,p_wn,p_fu,⟨p_r0,p_r1,p_r2,p_r3⟩,p_ms,p_ls,p_is⟩:Prog) (⟨⟨⟨c_r0,c_r1,c_r2,c_r3⟩,c_mm,c_st,c_pc⟩,c_bf,c_rb,c_en⟩:Conf)))) []):=
 Z6.flat (Zka S dp (⟨p_w,p_wn,p_fu,⟨p_r0,p_r1,p_r2,p_r3⟩,p_ms,p_ls,p_is⟩:Prog) (⟨⟨⟨c_r0,c_r1,c_r2,c_r3⟩,c_mm,c_st,c_pc⟩,c_bf,c_rb,c_en⟩:Conf) ) (np S 79 (by decide)) (rfl) A nb us
theorem Zjj (dp:Nat)(p:Prog)(c:Conf):Z6 E fn (dp+2) 143 [Zw p,ZS c] (vb (Md.QC p c)):=by
 unfold Z6
 show Z7 (Z4 E fn (dp+1+1) 143 [.d (Zw p),.d (ZS c)] [])=_
 rw[ZD,S.Z9i,ZG,Zev,ZC _ _ _ _ _ _ _ _ rfl]
 by_cases h1:c.end_=0
 ·by_cases h2 : c.buf.length = 0
  ·simp only [eG, go_sem, Z3 S, Z2 S, zN0, zN1, zN2, zN3, zN4, zI0, zI1, zI2, zI3, reduceCtorEq, Z13 S, h1, h2, Md.QC, EC S]
   simp
  ·obtain ⟨e, he⟩ := YK (show 0 < c.buf.length by omega)
   have e0:Md.ZP c.buf 0=e:=by show(c.buf[0]?).getD _=_;rw[he];rfl
   have hz:(c.buf.length:Int)≠0:=by omega
   have w0:=E1 (l:=c.buf) (i:=0) (by decide) he .i64 8 rfl
   cases hd:e.done<;>cases hk:e.known<;>by_cases k10:(Md.at_ p e.pc).kind=10<;>by_cases k3:(Md.at_ p e.pc).kind=3
   all_goals first | omega | simp only[eG,go_sem,Z3 S,Z2 S,zN0,zN1,zN2,zN3,zN4,zI0,zI1,zI2,zI3,reduceCtorEq,Z13 S,h1,h2,hz,w0,Md.QC,e0,Yj S,EC S,hd,hk,k10,k3,ne_eq,not_false_eq_true,not_true_eq_false,Bool.not_true,Bool.not_false]
 ·simp only[eG,go_sem,Z3 S,Z2 S,zN0,zN1,zN2,zN3,zN4,zI0,zI1,zI2,zI3,reduceCtorEq,Z13 S,h1,Md.QC,EC S]
theorem DB (dp:Nat)(p_w p_wn p_fu p_r0 p_r1 p_r2 p_r3:Int)(p_ms:List MemT)(p_ls:List Label)(p_is:List Ins)(c_r0 c_r1 c_r2 c_r3:Int)(c_mm c_st:List Int)(c_pc:Int)(c_bf:List Ent)(c_rb:List Int)(c_en:Int)(A:List Blk)(nb:Nat)(us:List Nat):Zv false E (Z4 E fn (dp+2)) 143 A nb (some ([.agg [vi p_w,vi p_wn,vi p_fu,vi p_r0,vi p_r1,vi p_r2,vi p_r3,rD p_ms,rD p_ls,rD p_is],.agg [vi c_r0,vi c_r1,vi c_r2,vi c_r3,rD c_mm,rD c_st,vi c_pc,rD c_bf,rD c_rb,vi c_en]],us))=some (.made (.d (vb (Md.QC (⟨p_w,p_wn,p_fu,⟨p_r0,p_r1,p_r2,p_r3⟩,p_ms,p_ls,p_is⟩:Prog) (⟨⟨⟨c_r0,c_r1,c_r2,c_r3⟩,c_mm,c_st,c_pc⟩,c_bf,c_rb,c_en⟩:Conf)))) []):=
 Z6.flat (Zjj S dp (⟨p_w,p_wn,p_fu,⟨p_r0,p_r1,p_r2,p_r3⟩,p_ms,p_ls,p_is⟩:Prog) (⟨⟨⟨c_r0,c_r1,c_r2,c_r3⟩,c_mm,c_st,c_pc⟩,c_bf,c_rb,c_en⟩:Conf) ) (np S 143 (by decide)) (rfl) A nb us
theorem Zjh (dp:Nat)(e:Ent)(x:Ins):Z6 E fn (dp+1) 159 [.agg (Cl.cells e),.agg (Cl.cells x)] (vi (Md.QY e x)):=by
 unfold Z6
 show Z7 (Z4 E fn (dp+1) 159 [.d (.agg (Cl.cells e)),.d (.agg (Cl.cells x))] [])=_
 rw[ZD,S.Z9f,ZG,Zet,ZC _ _ _ _ _ _ _ _ rfl]
 cases h1:e.fault<;>by_cases h2:x.kind=12<;>by_cases h3:x.kind=11
 all_goals first | omega | simp only[eG,go_sem,Z3 S,Z2 S,zN0,zN1,zN2,zN3,zN4,zI0,zI1,zI2,zI3,reduceCtorEq,Znf S,h1,h2,h3,Md.QY]
theorem EA (dp:Nat)(e_pc e_vl e_ad e_fr e_nx:Int)(e_dn e_kn e_ft:Bool)(x_k x_o x_d:Int)(x_ag:Bool)(x_an:Int)(x_bg:Bool)(x_bn:Int)(x_nm:ByteArray)(x_tg:Int)(A:List Blk)(nb:Nat)(us:List Nat):Zv false E (Z4 E fn (dp+1)) 159 A nb (some ([.agg [vi e_pc,vi e_vl,vi e_ad,vi e_fr,vi e_nx,vb e_dn,vb e_kn,vb e_ft],.agg [vi x_k,vi x_o,vi x_d,vb x_ag,vi x_an,vb x_bg,vi x_bn,vt x_nm,vi x_tg]],us))=some (.made (.d (vi (Md.QY (⟨e_pc,e_vl,e_ad,e_fr,e_nx,e_dn,e_kn,e_ft⟩:Ent) (⟨x_k,x_o,x_d,⟨x_ag,x_an⟩,⟨x_bg,x_bn⟩,x_nm,x_tg⟩:Ins)))) []):=
 Z6.flat (Zjh S dp (⟨e_pc,e_vl,e_ad,e_fr,e_nx,e_dn,e_kn,e_ft⟩:Ent) (⟨x_k,x_o,x_d,⟨x_ag,x_an⟩,⟨x_bg,x_bn⟩,x_nm,x_tg⟩:Ins) ) (np S 159 (by decide)) (rfl) A nb us
theorem Zkh (dp:Nat)(p:Prog)(a:Int):Z6 E fn (dp+1) 137 [Zw p,vi a] (vi (min a p.ins.length)):=by
 unfold Z6
 show Z7 (Z4 E fn (dp+1) 137 [.d (Zw p),.d (vi a)] [])=_
 rw[ZD,S.Zak,ZG,Zfx,ZC _ _ _ _ _ _ _ _ rfl]
 simp only[eG,go_sem,Z3 S,Z2 S,zN0,zN1,zN2,zN3,zN4,zI0,zI1,zI2,zI3,reduceCtorEq]
theorem DC (dp:Nat)(p_w p_wn p_fu p_r0 p_r1 p_r2 p_r3:Int)(p_ms:List MemT)(p_ls:List Label)(p_is:List Ins)(a:Int)(A:List Blk)(nb:Nat)(us:List Nat):Zv false E (Z4 E fn (dp+1)) 137 A nb (some ([.agg [vi p_w,vi p_wn,vi p_fu,vi p_r0,vi p_r1,vi p_r2,vi p_r3,rD p_ms,rD p_ls,rD p_is],vi a],us))=some (.made (.d (vi (min a (⟨p_w,p_wn,p_fu,⟨p_r0,p_r1,p_r2,p_r3⟩,p_ms,p_ls,p_is⟩:Prog).ins.length))) []):=
 Z6.flat (Zkh S dp (⟨p_w,p_wn,p_fu,⟨p_r0,p_r1,p_r2,p_r3⟩,p_ms,p_ls,p_is⟩:Prog) a ) (np S 137 (by decide)) (rfl) A nb us
end
theorem Z1l:48<=Z5:=by unfold Z5;decide
theorem Z1m:1<=Z5:=by unfold Z5;decide
variable {E:Env} {fn:FuncId->Option (Env->cT->cT)}
section
variable (S:Sur E fn)
include S
theorem EZ:E.lives 139 1=none/\E.lives 139 17=none:=⟨off S 139 1 (by decide) rfl,off S 139 17 (by decide) rfl⟩
theorem Znh (dp:Nat)(l:List Ent)(hl:l.length<1073741824)(kx:Nat->K)(kr:K)(k f:Nat)(out:List Ent)(e:Ent)(he:l[k]? =some e)(ho:out.length<1073741824):
  B9 (Zj E 139) (Z4 E fn dp) (Z9 8 B9 (Zj E 139) (Z4 E fn dp) kx kr (f+1)) kx kr (mk .bot 28 [(0,.d (rD l)),(3,.sref 0 0 0 out.length 8 none),(4,aI k)]) [.cells ((rC out).map .d) 0 false]=
  B9 (Zj E 139) (Z4 E fn dp) (Z9 8 B9 (Zj E 139) (Z4 E fn dp) kx kr f) kx kr (mk .bot 28 [(0,.d (rD l)),(3,.sref 0 0 0 (out.length+1) 8 none),(4,aI ((k+1:Nat):Int))]) [.cells ((rC (out++[Md.J5 e])).map .d) 0 false]:=by
 have hk:k<l.length:=(List.getElem?_eq_some_iff.1 he).1
 have k1:(out.length+1)*48<=Z5:=by unfold Z5;omega
 have k2:out.length+1<=Z5:=by unfold Z5;omega
 generalize hK:Z9 8 B9 _ _ kx kr (f+1)=KK
 first | (conv=>lhs;rw[B9]) | rw[B9]
 by_cases h:0<=e.frm
 ·simp only [eG, go_sem, Z3 S, Z2 S, zN0, zN1, zN2, zN3, zN4, zI0, zI1, zI2, zI3, reduceCtorEq, EZ S, show (k : Int) < l.length by omega, Zx he, wi k (by omega), ge_iff_le, h, Zq, FW, k1, k2, Md.J5]
  rw[<-hK,Z8 (on S _ _ [0,3,4] (by decide) rfl) rfl _ _ _ _ _ _ _ _ _ rfl]
  simp only[eG,go_sem,Z3 S,Z2 S,zN0,zN1,zN2,zN3,zN4,zI0,zI1,zI2,zI3,reduceCtorEq,EZ S]
  rfl
 ·simp only [eG, go_sem, Z3 S, Z2 S, zN0, zN1, zN2, zN3, zN4, zI0, zI1, zI2, zI3, reduceCtorEq, EZ S, show (k : Int) < l.length by omega, Zx he, wi k (by omega), ge_iff_le, h, Zq, FW, k1, k2, Md.J5]
  rw[<-hK,Z8 (on S _ _ [0,3,4] (by decide) rfl) rfl _ _ _ _ _ _ _ _ _ rfl]
  simp only[eG,go_sem,Z3 S,Z2 S,zN0,zN1,zN2,zN3,zN4,zI0,zI1,zI2,zI3,reduceCtorEq,EZ S]
theorem Zq1 (dp:Nat)(l:List Ent)(hl:l.length<1073741824)(kx:Nat->K)(kr:K)(k f:Nat)(e:Ent)(he:l[k]? =some e):
  B9 (Zj E 139) (Z4 E fn dp) (Z9 8 B9 (Zj E 139) (Z4 E fn dp) kx kr (f+1)) kx kr (mk .bot 28 [(0,.d (rD l)),(3,zn),(4,aI k)]) []=
  B9 (Zj E 139) (Z4 E fn dp) (Z9 8 B9 (Zj E 139) (Z4 E fn dp) kx kr f) kx kr (mk .bot 28 [(0,.d (rD l)),(3,.sref 0 0 0 1 8 none),(4,aI ((k+1:Nat):Int))]) [.cells ((rC [Md.J5 e]).map .d) 0 false]:=by
 have hk:k<l.length:=(List.getElem?_eq_some_iff.1 he).1
 generalize hK:Z9 8 B9 _ _ kx kr (f+1)=KK
 first | (conv=>lhs;rw[B9]) | rw[B9]
 by_cases h:0<=e.frm
 ·simp only [eG, go_sem, Z3 S, Z2 S, zN0, zN1, zN2, zN3, zN4, zI0, zI1, zI2, zI3, reduceCtorEq, EZ S, show (k : Int) < l.length by omega, Zx he, wi k (by omega), ge_iff_le, h, Zq, Z1l, Z1m, Nat.zero_add, Nat.one_mul, Nat.zero_mul, and_self, true_and, Md.J5]
  rw[<-hK,Z8 (on S _ _ [0,3,4] (by decide) rfl) rfl _ _ _ _ _ _ _ _ _ rfl]
  simp only[eG,go_sem,Z3 S,Z2 S,zN0,zN1,zN2,zN3,zN4,zI0,zI1,zI2,zI3,reduceCtorEq,EZ S]
  rfl
 ·simp only [eG, go_sem, Z3 S, Z2 S, zN0, zN1, zN2, zN3, zN4, zI0, zI1, zI2, zI3, reduceCtorEq, EZ S, show (k : Int) < l.length by omega, Zx he, wi k (by omega), ge_iff_le, h, Zq, Z1l, Z1m, Nat.zero_add, Nat.one_mul, Nat.zero_mul, and_self, true_and, Md.J5]
  rw[<-hK,Z8 (on S _ _ [0,3,4] (by decide) rfl) rfl _ _ _ _ _ _ _ _ _ rfl]
  simp only[eG,go_sem,Z3 S,Z2 S,zN0,zN1,zN2,zN3,zN4,zI0,zI1,zI2,zI3,reduceCtorEq,EZ S]
  try rfl
theorem Zpo (dp:Nat)(l:List Ent)(hl:l.length<1073741824)(kx:Nat->K)(kr:K):∀ m k f out,k+m=l.length->m<=f->out.length<=k->
  B9 (Zj E 139) (Z4 E fn dp) (Z9 8 B9 (Zj E 139) (Z4 E fn dp) kx kr f) kx kr (mk .bot 28 [(0,.d (rD l)),(3,.sref 0 0 0 out.length 8 none),(4,aI k)]) [.cells ((rC out).map .d) 0 false]=
  kx 0 (mk .bot 28 [(9,Yx false),(8,aI l.length),(7,.d (rD l)),(6,aI l.length),(0,.d (rD l)),(3,.sref 0 0 0 (out++(l.drop k).map Md.J5).length 8 none),(4,aI l.length)]) [.cells ((rC (out++(l.drop k).map Md.J5)).map .d) 0 false]:=by
 intro m
 induction m with
 | zero=>
  intro k f out hk _ _
  obtain rfl:k=l.length:=by omega
  rw[List.drop_length,List.map_nil,List.append_nil]
  generalize Z9 8 B9 _ _ kx kr f=KK
  first | (conv=>lhs;rw[B9]) | rw[B9]
  simp only[eG,go_sem,Z3 S,Z2 S,zN0,zN1,zN2,zN3,zN4,zI0,zI1,zI2,zI3,reduceCtorEq,EZ S,Int.lt_irrefl]
 | succ m ih=>
  intro k f out hk hf ho
  obtain⟨e,he⟩:=YK (show k<l.length by omega)
  obtain⟨f,rfl⟩:∃ g,f=g+1:=⟨f-1,by omega⟩
  rw[Znh S dp l hl kx kr k f out e he (by omega),Aj he,List.map_cons]
  have:=ih (k+1) f (out++[Md.J5 e]) (by omega) (by omega) (by simp;omega)
  simp only[List.append_assoc,List.singleton_append,List.cons_append,List.nil_append] at this
  rw[show(out++[Md.J5 e]).length=out.length+1 by simp] at this
  exact this
theorem Zk2 (dp:Nat)(l:List Ent)(hl:l.length<1073741824):Z6 E fn (dp+1) 139 [rD l] (rD (Md.J1 l)):=by
 unfold Z6
 show Z7 (Z4 E fn (dp+1) 139 [.d (rD l)] [])=_
 rw[ZD,S.Za2,ZG,Zff,ZC _ _ _ _ _ _ _ _ rfl]
 simp only[eG,go_sem,Z3 S,Z2 S,zN0,zN1,zN2,zN3,zN4,zI0,zI1,zI2,zI3,reduceCtorEq,EZ S]
 rw[Y7,Z8 (on S _ _ [0,3,4] (by decide) rfl) rfl _ _ _ _ _ _ _ _ _ rfl]
 simp only[eG,go_sem,Z3 S,Z2 S,zN0,zN1,zN2,zN3,zN4,zI0,zI1,zI2,zI3,reduceCtorEq,EZ S]
 by_cases h:l.length<=1
 ·generalize Z9 8 B9 _ _ _ _ _ = KK
  first | (conv=>lhs;rw[B9]) | rw[B9]
  have hd:Md.J1 l=[]:=by unfold Md.J1;rw[List.drop_of_length_le h];rfl
  rw[hd]
  simp only[eG,go_sem,Z3 S,Z2 S,zN0,zN1,zN2,zN3,zN4,zI0,zI1,zI2,zI3,reduceCtorEq,EZ S,show ¬(1:Int)<l.length by omega]
 ·obtain ⟨e, he⟩ := YK (show 1 < l.length by omega)
  have e1:=fun kx kr=>Zq1 S dp l hl kx kr 1 999999999999999999999999999998 e he
  simp only[Int.cast_ofNat_Int] at e1
  rw[show(999999999999999999999999999999:Nat)=999999999999999999999999999998+1 from rfl,e1]
  have e2:=fun kx kr=>Zpo S dp l hl kx kr (l.length-2) 2 999999999999999999999999999998 [Md.J5 e] (by omega) (by omega) (by simp)
  have e3:[Md.J5 e]++(l.drop 2).map Md.J5=Md.J1 l:=by unfold Md.J1;rw[Aj he];rfl
  simp only[e3,List.length_cons,List.length_nil,Nat.zero_add,Int.cast_ofNat_Int] at e2
  rw[show(((1+1:Nat)):Int)=2 from rfl,e2]
  have hne:Md.J1 l≠[]:=by rw[<-e3];simp
  simp only[eG,go_sem,Z3 S,Z2 S,zN0,zN1,zN2,zN3,zN4,zI0,zI1,zI2,zI3,reduceCtorEq,EZ S]
  rw[Ax (Md.J1 l) hne _ rfl 6 8 none rfl]
  simp only[eG,go_sem,Z3 S,Z2 S,zN0,zN1,zN2,zN3,zN4,zI0,zI1,zI2,zI3,reduceCtorEq,EZ S]
  rfl
theorem Gv (dp:Nat)(l:List Ent)(hl:l.length<1073741824)(A:List Blk)(nb:Nat):Zv false E (Z4 E fn (dp+1)) 139 A nb (some ([rD l],[]))=some (.made (.d (rD (Md.J1 l))) []):=
 Z6.deep (Zk2 S dp l hl) (np S 139 (by decide)) A nb
end
def P4 (l:List Ent)(e:Ent)(n:Int):List Ent:=if(l.length:Int)>=n then[] else l++[e]
variable {E:Env} {fn:FuncId->Option (Env->cT->cT)}
section
variable (S:Sur E fn)
include S
theorem Z0x:E.lives 162 7=none:=off S 162 7 (by decide) rfl
theorem Zje (dp:Nat)(l:List Ent)(e:Ent)(n:Int)(hl:l.length<1073741823):Z6 E fn (dp+1) 162 [rD l,.agg (Cl.cells e),vi n] (.tup [rD (P4 l e n),vb (!decide ((l.length:Int)>=n))]):=by
 unfold Z6
 show Z7 (Z4 E fn (dp+1) 162 [.d (rD l),.d (.agg (Cl.cells e)),.d (vi n)] [])=_
 rw[ZD,S.Z9c,ZG,Zeq,ZC _ _ _ _ _ _ _ _ rfl]
 have hl2:l.length<1073741824:=by omega
 by_cases h:(l.length:Int)>=n
 ·simp only[eG,go_sem,Z3 S,Z2 S,Nat.reduceLT,Nat.reduceEqDiff,Nat.reduceAdd,Nat.reduceMul,Nat.reduceLeDiff,Int.reduceEq,Int.reduceLT,Int.reduceLE,Int.reduceNeg,reduceCtorEq,Z0x S,h,P4,Bool.not_true,Bool.not_false]
 ·by_cases h0 : l.length = 0
  ·have : l = [] := List.length_eq_zero_iff.1 h0
   have oa:∀ i,YN i l=.d (.lst [] 0 (some 0)):=fun i=>by rw[this];rfl
   have ob:Yz l=[]:=by rw[this];rfl
   have hle:l++[e]=[e]:=by rw[this];rfl
   have hd:deep [.cells [.d (vi e.pc),.d (vi e.val),.d (vi e.addr),.d (vi e.frm),.d (vi e.next),.d (vb e.done),.d (vb e.known),.d (vb e.fault)] 0 false] 7 (.sref 0 0 0 1 8 none)=some (.lst (rC [e]) 1 none,[0]):=Ax [e] (by simp) 1 rfl 5 8 none rfl
   simp only[eG,go_sem,Z3 S,Z2 S,Nat.reduceLT,Nat.reduceEqDiff,Nat.reduceAdd,Nat.reduceMul,Nat.reduceLeDiff,Int.reduceEq,Int.reduceLT,Int.reduceLE,Int.reduceNeg,reduceCtorEq,Z0x S,h,P4,Bool.not_true,Bool.not_false,RK S hl2,oa,ob,hle,hd,Zq,Z1l,Z1m,Nat.zero_add,Nat.one_mul,Nat.zero_mul,and_self,true_and]
   try rfl
  ·have hne : l.length ≠ 0 := h0
   have k1:(l.length+1)*48<=Z5:=by unfold Z5;omega
   have k2:l.length+1<=Z5:=by unfold Z5;omega
   have hd:deep [.cells ((rC (l++[e])).map .d) 0 false] 7 (.sref 0 0 0 (l.length+1) 8 none)=some (.lst (rC (l++[e])) (l++[e]).length none,[0]):=Ax _ (by simp) _ (by simp) 5 8 none rfl
   simp only[eG,go_sem,Z3 S,Z2 S,Nat.reduceLT,Nat.reduceEqDiff,Nat.reduceAdd,Nat.reduceMul,Nat.reduceLeDiff,Int.reduceEq,Int.reduceLT,Int.reduceLE,Int.reduceNeg,reduceCtorEq,Z0x S,h,P4,Bool.not_true,Bool.not_false,RK S hl2,ZN hne,ZM hne,Zq,FW,k1,k2,hd,QZ]
theorem Zs6 (dp:Nat)(l:List Ent)(e_pc e_vl e_ad e_fr e_nx:Int)(e_dn e_kn e_ft:Bool)(n:Int)(hl:l.length<1073741823)(A:List Blk)(nb:Nat):Zv false E (Z4 E fn (dp+1)) 162 A nb (some ([rD l,.agg [vi e_pc,vi e_vl,vi e_ad,vi e_fr,vi e_nx,vb e_dn,vb e_kn,vb e_ft],vi n],[]))=some (.made (.d (.tup [rD (P4 l (⟨e_pc,e_vl,e_ad,e_fr,e_nx,e_dn,e_kn,e_ft⟩:Ent) n),vb (!decide ((l.length:Int)>=n))])) []):=
 Z6.deep (Zje S dp l (⟨e_pc,e_vl,e_ad,e_fr,e_nx,e_dn,e_kn,e_ft⟩:Ent) n hl) (np S 162 (by decide)) A nb
end
end Go.Aug.Mc
namespace Go.Aug
open Go
set_option linter.unusedSimpArgs false
theorem AR (E:Env)(l:Nat->Option (List Nat))(m:Nat)(call:cT)(tm:List AV)(A:List Blk)(nb:Nat)(g:FuncId)(args:List Opd)(h:Y8 g E.br=true):
  oK (.f g) args { br:=E.br,th:=E.th,prim:=E.prim,back:=E.back,lives:=E.lives,live:=l,nb0:=m } call tm A nb=Sz call g (args.map (look tm)) A (QK A 0 100000 ((args.map (look tm)).flatMap (Qj 8)) []):=by
 show K5 { br:=E.br,th:=E.th,prim:=E.prim,back:=E.back,lives:=E.lives,live:=l,nb0:=m } call A nb (some (g,args.map (look tm)++[]))=_
 rw[List.append_nil]
 show FR { br:=E.br,th:=E.th,prim:=E.prim,back:=E.back,lives:=E.lives,live:=l,nb0:=m } call g (args.map (look tm)) A nb=_
 unfold FR
 show(bif Y8 g E.br then _ else _)=_
 rw[h,cond_true]
theorem AX (call:cT)(f:FuncId)(args:List AV)(A:List Blk)(ids:List Nat):Sz call f args A ids=Hj A ids (YB A ids) (call f (args.map (YM A 0 ids 8)) (Yq A 0 ids)):=id rfl
theorem AZ (A:List Blk)(ids vs:List Nat)(x:AV)(B:List Blk):Hj A ids vs (some (x,B))=bif Nat.ble ids.length B.length&&FT vs B then some (.turned (J0 ids vs A.length 8 x) (D9 ids vs A.length A ids vs B++(B.drop ids.length).map (B3 ids vs A.length 0))) else none:=id rfl
theorem AY (A:List Blk)(ids vs:List Nat)(b:Bool)(x y:Option (AV×List Blk)):Hj A ids vs (bif b then x else y)=bif b then Hj A ids vs x else Hj A ids vs y:=by cases b<;>rfl
theorem ED (A:List Blk)(ids vs:List Nat)(b:Prop) [Decidable b] (x y:Option (AV×List Blk)):Hj A ids vs (if b then x else y)=if b then Hj A ids vs x else Hj A ids vs y:=by split<;>rfl
def Z42:Option Blk->Nat
 | some (.cells _ v _)=>v
 | _=>0
theorem Av (cs:List AV)(v:Nat)(ro:Bool):Z42 (some (.cells cs v ro))=v:=id rfl
theorem AA (A:List Blk):YB A []=[]:=id rfl
theorem AB (A:List Blk)(i:Nat)(l:List Nat):YB A (i::l)=Z42 A[i]? ::YB A l:=by
 show(QF A i).getD 0::YB A l=_
 unfold QF
 cases A[i]? with
 | none=>rfl
 | some b=>cases b<;>rfl
theorem AP (B:List Blk):FT [] B=true:=id rfl
theorem AQ (v:Nat)(vs:List Nat)(cs:List AV)(w:Nat)(ro:Bool)(bs:List Blk):FT (v::vs) (.cells cs w ro::bs)=FT vs bs:=id rfl
theorem AF (ids vs:List Nat)(nb n:Nat)(y:DV):J0 ids vs nb (n+1) (.d y)=.d y:=id rfl
theorem AG (ids vs:List Nat)(nb n:Nat)(cs:List AV):J0 ids vs nb (n+1) (.agg cs)=.agg (cs.map (J0 ids vs nb n)):=id rfl
theorem AC (ids vs:List Nat)(nb n:Nat)(cs:List AV):J0 ids vs nb (n+1) (.tup cs)=.tup (cs.map (J0 ids vs nb n)):=id rfl
def XT (o len sz:Nat)(k:Option Nat)(v0 v nb:Nat):Option Nat->AV
 | some i=>.sref i v0 o len sz k
 | none=>.sref nb v o len sz k
theorem AH (o len sz:Nat)(k:Option Nat)(v0 v nb i:Nat):XT o len sz k v0 v nb (some i)=.sref i v0 o len sz k:=id rfl
theorem AJ (o len sz:Nat)(k:Option Nat)(v0 v nb:Nat):XT o len sz k v0 v nb none=.sref nb v o len sz k:=id rfl
theorem AD (ids vs:List Nat)(nb n m v o len sz:Nat)(k:Option Nat):J0 ids vs nb (n+1) (.sref m v o len sz k)=XT o len sz k (vs.getD m 0+v) v (nb+(m-ids.length)) ids[m]? :=by
 show(match ids[m]? with | some i=>AV.sref i (vs.getD m 0+v) o len sz k | none=>.sref (nb+(m-ids.length)) v o len sz k)=_
 cases ids[m]? <;>rfl
theorem GN (ids vs:List Nat)(nb n:Nat):(J0 ids vs nb (n+1)) ∘ AV.d=AV.d:=rfl
theorem AE (ids vs:List Nat)(nb n:Nat)(l:List DV):(l.map AV.d).map (J0 ids vs nb (n+1))=l.map AV.d:=by rw[List.map_map,GN]
theorem AK (ids vs:List Nat)(nb dv:Nat)(cs:List AV)(v:Nat)(ro:Bool):B3 ids vs nb dv (.cells cs v ro)=.cells (cs.map (J0 ids vs nb 8)) (dv+v) ro:=id rfl
theorem AM (ids vs:List Nat)(nb:Nat)(A:List Blk)(us:List Nat)(bs:List Blk):D9 ids vs nb A [] us bs=A:=by cases us<;>cases bs<;>rfl
theorem AN (ids vs:List Nat)(nb:Nat)(A:List Blk)(i:Nat)(is:List Nat)(v:Nat)(us:List Nat)(b:Blk)(bs:List Blk):D9 ids vs nb A (i::is) (v::us) (b::bs)=D9 ids vs nb (A.set i (B3 ids vs nb v b)) is us bs:=id rfl
theorem Ej (b:Bool)(x y:List AV)(f:AV->AV):(bif b then x else y).map f=bif b then x.map f else y.map f:=by cases b<;>rfl
theorem JN (n0:Nat)(x:AV)(A:List Blk):Dw n0 (some (x,A))=some (YM A n0 (QK A n0 100000 (Qj 8 x++(A.take n0).flatMap fun b=>ET (some b)) []) 8 x,Yq A n0 (QK A n0 100000 (Qj 8 x++(A.take n0).flatMap fun b=>ET (some b)) [])):=id rfl
def Z4s (n0 v:Nat):Option Blk->Option Nat->Option (Nat×Nat)
 | some (.cells _ v' _),some m=>if v'=v then some (n0+m,0) else none
 | some (.iter _ _),some m=>if 0=v then some (n0+m,0) else none
 | _,_=>none
theorem JA (n0 v v':Nat)(cs:List AV)(ro:Bool)(m:Nat):Z4s n0 v (some (.cells cs v' ro)) (some m)=if v'=v then some (n0+m,0) else none:=id rfl
theorem Zdh {α:Type}(a b:Nat)(x y:α):(bif Nat.beq a b then x else y)=if a=b then x else y:=by
 by_cases h:a=b
 ·subst h;simp
 ·have:Nat.beq a b=false:=by
   cases hb:Nat.beq a b with
   | false=>rfl
   | true=>exact absurd (Nat.eq_of_beq_eq_true hb) h
  rw[this,if_neg h];rfl
theorem Jv (A:List Blk)(n0:Nat)(ids:List Nat)(i v:Nat):spot A n0 ids i v=if i<n0 then some (i,v) else Z4s n0 v A[i]? (QP ids i):=by
 show(bif Nat.blt i n0 then _ else _)=_
 by_cases h:i<n0
 ·rw[show Nat.blt i n0=true from Nat.ble_eq_true_of_le h,if_pos h];rfl
 ·have hb:Nat.blt i n0=false:=by
   cases hq:Nat.blt i n0 with
   | false=>rfl
   | true=>exact absurd (Nat.le_of_ble_eq_true hq) h
  rw[hb,cond_false,if_neg h]
  unfold QF
  cases A[i]? with
  | none=>rfl
  | some b=>
   cases b with
   | cells cs v' ro=>
    cases QP ids i with
    | none=>rfl
    | some m=>exact Zdh _ _ _ _
   | iter s p=>
    cases QP ids i with
    | none=>rfl
    | some m=>exact Zdh _ _ _ _
   | free=>rfl
theorem JE (A:List Blk)(n0:Nat)(ids:List Nat):Yq A n0 ids=(A.take n0).map (C4 A n0 ids true)++ids.map fun i=>C4 A n0 ids false (A.getD i .free):=id rfl
theorem JF (A:List Blk)(n0:Nat)(ids:List Nat)(keep:Bool)(cs:List AV)(v:Nat)(ro:Bool):C4 A n0 ids keep (.cells cs v ro)=.cells (cs.map (YM A n0 ids 8)) (bif keep then v else 0) ro:=id rfl
theorem ZH (len s nb:Nat)(cs:List AV):KE true len s nb (some cs)=PB len s nb cs (Ez cs):=id rfl
theorem ZJ (len s nb:Nat)(cs:List AV)(ds:List DV):PB len s nb cs (some ds)=some (.made (.d (.lst ds len (some len))) []):=id rfl
theorem ZE:Ez []=some []:=id rfl
theorem ZF (x:DV)(l:List AV):Ez (.d x::l)=(Ez l).map (x:: ·):=id rfl
section
variable {l:List Ent} {k:Nat} {e:Ent}
theorem Zpx (h:k<l.length):(l.set k e)[k]? =some e:=by rw[List.getElem?_set_self h]
theorem TW (h:k<l.length)(j:Nat)(hj:j<=8):((rC (l.set k e)).map AV.d).drop (k*8+j)=((Cl.cells e).map AV.d).drop j++((rC (l.drop (k+1))).map AV.d):=by
 have e2:l.set k e=l.take k++e::l.drop (k+1):=List.set_eq_take_append_cons_drop.trans (if_pos h)
 have e3:rC (l.set k e)=rC (l.take k)++(Cl.cells e++rC (l.drop (k+1))):=by rw[e2,Kq];rfl
 have hl:(rC (l.take k)).length=k*8:=by rw[J4,List.length_take,Nat.min_eq_left (by omega)];rfl
 have hl':((rC (l.take k)).map AV.d).length=k*8:=by rw[List.length_map,hl]
 rw[e3]
 simp only[List.map_append]
 rw[<-hl',<-List.drop_drop,List.drop_left,List.drop_append_of_le_length (by simpa [Z2j] using hj)]
section
variable (h:k<l.length)
include h
theorem CG:BF false 1 (((rC (l.set k e)).map AV.d).drop (k*8))=some (.d (vi e.pc)):=by
 have:=TW (e:=e) h 0 (by decide)
 rw[Nat.add_zero] at this;rw[this];rfl
theorem BH:BF false 1 (((rC (l.set k e)).map AV.d).drop (k*8+2))=some (.d (vi e.addr)):=by rw[TW h 2 (by decide)];rfl
theorem Z7q:BF false 1 (((rC (l.set k e)).map AV.d).drop (k*8+4))=some (.d (vi e.next)):=by rw[TW h 4 (by decide)];rfl
theorem wr (i v o:Nat)(A:List Blk)(e':Ent)(x:DV)(h1:AV.one (.d x)=true)(ho:o<8)(hs:splice (Cl.cells e) o [x]=Cl.cells e'):
  storeAt A i v (k*8+o) [.d x] 1 (some (.cells ((rC (l.set k e)).map .d) v false))=some (A.set i (.cells ((rC (l.set k e')).map .d) v false)):=by
 have:=NX (A:=A) (i:=i) (v:=v) (o:=o) (n:=1) (e':=e') (xs:=[.d x]) [x] (Zpx (e:=e) h) rfl rfl (by simp[h1]) hs (by simp;exact ho) 8 rfl (k*8+o) rfl
 rw[this,List.set_set]
theorem D5 (i v:Nat)(A:List Blk)(n:Int):storeAt A i v (k*8+1) [.d (vi n)] 1 (some (.cells ((rC (l.set k e)).map .d) v false))=some (A.set i (.cells ((rC (l.set k { e with val:=n })).map .d) v false)):=wr h i v 1 A _ _ rfl (by decide) rfl
theorem D4 (i v:Nat)(A:List Blk)(n:Int):storeAt A i v (k*8+2) [.d (vi n)] 1 (some (.cells ((rC (l.set k e)).map .d) v false))=some (A.set i (.cells ((rC (l.set k { e with addr:=n })).map .d) v false)):=wr h i v 2 A _ _ rfl (by decide) rfl
theorem CP (i v:Nat)(A:List Blk)(n:Int):storeAt A i v (k*8+3) [.d (vi n)] 1 (some (.cells ((rC (l.set k e)).map .d) v false))=some (A.set i (.cells ((rC (l.set k { e with frm:=n })).map .d) v false)):=wr h i v 3 A _ _ rfl (by decide) rfl
theorem Zh3 (i v:Nat)(A:List Blk)(n:Int):storeAt A i v (k*8+4) [.d (vi n)] 1 (some (.cells ((rC (l.set k e)).map .d) v false))=some (A.set i (.cells ((rC (l.set k { e with next:=n })).map .d) v false)):=wr h i v 4 A _ _ rfl (by decide) rfl
theorem BW (i v:Nat)(A:List Blk)(b:Bool):storeAt A i v (k*8+6) [.d (vb b)] 1 (some (.cells ((rC (l.set k e)).map .d) v false))=some (A.set i (.cells ((rC (l.set k { e with known:=b })).map .d) v false)):=wr h i v 6 A _ _ rfl (by decide) rfl
theorem BV (i v:Nat)(A:List Blk)(b:Bool):storeAt A i v (k*8+7) [.d (vb b)] 1 (some (.cells ((rC (l.set k e)).map .d) v false))=some (A.set i (.cells ((rC (l.set k { e with fault:=b })).map .d) v false)):=wr h i v 7 A _ _ rfl (by decide) rfl
end
theorem Bw (n:Nat)(hn:n<=l.length):n*8<=((rC l).map AV.d).length:=by
 rw[List.length_map,J4];exact Nat.mul_le_mul_right _ hn
theorem BP (A:List Blk)(m n:Nat):YD (deep A (m+1)) (((rC l).map AV.d).take (n*8))=some (rC (l.take n),[]):=by
 rw[<-List.map_take,show n*8=n*Cl.n Ent from rfl,SV,KF]
theorem BD:DV.lst (rC (l.set k e)) l.length none=rD (l.set k e):=by
 unfold rD;rw[List.length_set]
theorem BE (n:Nat)(hn:n=l.length):(l.set k e).take n=l.set k e:=List.take_of_length_le (by rw[List.length_set];omega)
end
end Go.Aug
