import Derived.Test.YtmfdoekbjkgckaaGreatMc3
namespace Go.Aug.Md
open Go Go.Aug
def M6:Ent:=⟨0,0,0,0,0,false,false,false⟩
def ZT (l:List Ent)(i:Int):Ent:=(l[i.toNat]?).getD M6
def QX (p:Prog)(c:Conf)(i:Int):Bool:=c.end_==0&&decide (0<=i)&&decide (i<c.buf.length)&& !K0 p c.buf i
def Qk (p:Prog)(c:Conf)(i:Int):Ins:=at_ p (ZT c.buf i).pc
def Y7 (p:Prog)(c:Conf)(i:Int)(v:Val):Int×Bool:=val p c.state.regs c.buf i v
def AH (p:Prog)(c:Conf)(i r:Int):Int×Bool:=reg p c.state.regs c.buf i r
def D2 (p:Prog)(c:Conf)(i addr:Int):Int×Int×Bool:=load p c.state.mem c.buf i addr
def ready (N:Int)(p:Prog)(c:Conf)(i:Int)(x:Ins)(a b d:Int×Bool):Bool:=
 if x.kind=1∨x.kind=5 then a.2&&b.2
 else if x.kind=4 then a.2&&b.2&&d.2
 else if x.kind=2 then a.2&&b.2&&(decide (Y4 p.w (a.1+b.1)>=N) || (D2 p c i (Y4 p.w (a.1+b.1))).2.2)
 else if x.kind=3 then d.2
 else if x.kind=7 then a.2
 else decide (x.kind=9)
def can (N:Int)(p:Prog)(c:Conf)(i:Int):Bool:=
 QX p c i&& !(ZT c.buf i).done&&ready N p c i (Qk p c i) (Y7 p c i (Qk p c i).a) (Y7 p c i (Qk p c i).b) (AH p c i (Qk p c i).d)
def put (c:Conf)(i:Int)(e:Ent):Conf:={ c with buf:=c.buf.set i.toNat e }
def BW (c:Conf)(i:Int)(e:Ent)(to:Int):Conf×List Obs:=
 (if e.next = to then put c i { e with done := true }
  else { c with buf:=(c.buf.set i.toNat { e with done:=true,next:=to }).take (i.toNat+1),state:={ c.state with pc:=to } },[⟨3,to⟩])
def JU:Conf:=⟨⟨⟨0,0,0,0⟩,[],[],0⟩,[],[],0⟩
def GG (l:List Int):Int:=l.getLast?.getD 0
def Bz (N:Int)(p:Prog)(c:Conf)(i:Int)(e:Ent)(x:Ins)(a b d:Int):Conf×List Obs:=
 if x.kind=1 then(put c i { e with val:=Hq p.w x.op a b,done:=true },[])
 else if x.kind=4 then(put c i { e with val:=if a=0 then d else b,done:=true },[])
 else if x.kind=3 then(put c i { e with val:=d,done:=true },[])
 else if x.kind=2 then
  (if Y4 p.w (a + b) >= N then (put c i ⟨e.pc, 0, Y4 p.w (a + b), -1, e.next, true, true, true⟩, [])
   else(put c i ⟨e.pc,(D2 p c i (Y4 p.w (a+b))).1,Y4 p.w (a+b),(D2 p c i (Y4 p.w (a+b))).2.1,e.next,true,true,e.fault⟩,[⟨1,Y4 p.w (a+b)⟩]))
 else if x.kind=5 then BW c i e (if Hq p.w x.op a b=0 then YC (e.pc+1) else x.target)
 else if x.kind=7 then BW c i e (min a p.ins.length)
 else if x.kind=9 then
  (match real p c.state.stack c.buf i with
   | none=>(put c i { e with done:=true,fault:=true },[])
   | some l=>if l.length=0 then(put c i { e with done:=true,fault:=true },[]) else BW c i e (GG l))
 else(put c i { e with done:=true },[])
def A9 (N:Int)(p:Prog)(c:Conf)(i:Int):Conf×List Obs:=
 Bz N p c i (ZT c.buf i) (Qk p c i) (Y7 p c i (Qk p c i).a).1 (Y7 p c i (Qk p c i).b).1 (AH p c i (Qk p c i).d).1
def YU (p:Prog)(c:Conf)(i:Int):Bool:=
 QX p c i&& !(ZT c.buf i).known&&decide ((Qk p c i).kind=3)&&(Y7 p c i (Qk p c i).a).2&&(Y7 p c i (Qk p c i).b).2
def JR (p:Prog)(c:Conf)(i:Int):Int:=Y4 p.w ((Y7 p c i (Qk p c i).a).1+(Y7 p c i (Qk p c i).b).1)
def PG (p:Prog)(c:Conf)(i addr:Int)(l:List Ent):Conf:=
 bif (A6 p l i addr).2 then { c with buf:=l.take (A6 p l i addr).1.toNat,state:={ c.state with pc:=(ZT l (A6 p l i addr).1).pc } } else { c with buf:=l }
def R1 (N:Int)(p:Prog)(c:Conf)(i:Int)(e:Ent)(addr:Int):Conf×List Obs:=
 if addr>=N then(put c i { e with addr:=addr,known:=true,fault:=true },[])
 else(PG p c i addr (c.buf.set i.toNat { e with addr:=addr,known:=true,fault:=false }),[⟨2,addr⟩])
def K4 (N:Int)(p:Prog)(c:Conf)(i:Int):Conf×List Obs:=R1 N p c i (ZT c.buf i) (JR p c i)
def YE (p:Prog)(c:Conf):Int:=
 if c.end_≠0∨c.state.pc= -1∨(c.buf.length:Int)>=p.window then 0
 else if(at_ p c.state.pc).kind=5 then 2
 else if(at_ p c.state.pc).kind=7∨(at_ p c.state.pc).kind=9/\c.rsb.length=0 then p.ins.length+1
 else 1
def A8 (p:Prog)(c:Conf)(g:Int):Ent×List Int:=
 let pc:=c.state.pc
 let x:=at_ p pc
 let e:Ent:=⟨pc,0,0,-1,YC (pc+1),false,false,false⟩
 if x.kind=5 then({ e with next:=if g=1 then x.target else YC (pc+1) },c.rsb)
 else if x.kind=6 then({ e with next:=x.target,done:=true },c.rsb)
 else if x.kind=7 then({ e with next:=g },c.rsb)
 else if x.kind=8 then({ e with next:=x.target,done:=true,fault:=match real p c.state.stack c.buf c.buf.length with | none=>true | some l=>decide (4<=l.length) },push c.rsb (YC (pc+1)))
 else if x.kind=9 then(if c.rsb.length=0 then({ e with next:=g },c.rsb) else({ e with next:=GG c.rsb },c.rsb.dropLast))
 else if x.kind=11∨x.kind=12 then({ e with next:= -1,done:=true },c.rsb)
 else(e,c.rsb)
def DM (p:Prog)(c:Conf)(g:Int):Bool:=decide (0<=g)&&decide (g<YE p c)
def EC (p:Prog)(c:Conf)(g:Int):Conf:=
 {c with buf:=c.buf++[(A8 p c g).1],rsb:=(A8 p c g).2,state:={ c.state with pc:=(A8 p c g).1.next } }
def YM (p:Prog)(c:Conf):Bool:=
 c.end_==0&&decide (c.buf.length≠0)&&((ZT c.buf 0).done || decide ((at_ p (ZT c.buf 0).pc).kind=10))&&(decide ((at_ p (ZT c.buf 0).pc).kind≠3) || (ZT c.buf 0).known)
def AK (e:Ent):Ent:=if 0<=e.frm then { e with frm:=YC (e.frm-1) } else e
def AJ (l:List Ent):List Ent:=(l.drop 1).map AK
def D5 (e:Ent)(x:Ins):Int:=bif e.fault || decide (x.kind=12) then 2 else if x.kind=11 then 1 else 0
def D7 (s:State)(e:Ent)(x:Ins):State:=
 if x.kind=1∨x.kind=2∨x.kind=4 then { s with regs:=CW s.regs x.d e.val }
 else if x.kind=3 then(if 0<=e.addr/\e.addr<s.mem.length then { s with mem:=s.mem.set e.addr.toNat e.val } else s)
 else if x.kind=8 then { s with stack:=s.stack++[YC (e.pc+1)] }
 else if x.kind=9 then { s with stack:=s.stack.dropLast }
 else s
def CF (p:Prog)(c:Conf):Conf:=
 let e:=ZT c.buf 0
 let x:=at_ p e.pc
 if D5 e x=0 then { c with buf:=AJ c.buf,state:=D7 c.state e x }
 else { c with buf:=[],rsb:=[],end_:=D5 e x,state:={ c.state with pc:=e.pc } }
def all (N:Int)(p:Prog)(c:Conf):List Dir:=
 ((List.range (YE p c).toNat).map fun n:Nat=>(⟨1,(n:Int)⟩:Dir))++
 (((List.range c.buf.length).filter fun n:Nat=>can N p c (n:Int)).map fun n:Nat=>(⟨2,(n:Int)⟩:Dir))++
 (((List.range c.buf.length).filter fun n:Nat=>YU p c (n:Int)).map fun n:Nat=>(⟨3,(n:Int)⟩:Dir))++
 (bif YM p c then[⟨4,0⟩] else[])
def Jx (N:Int)(p:Prog)(c:Conf)(d:Dir):Bool:=
 if d.kind=1 then DM p c d.n else if d.kind=2 then can N p c d.n else if d.kind=3 then YU p c d.n
 else decide (d.kind=4)&&decide (d.n=0)&&YM p c
def say (N:Int)(p:Prog)(c:Conf)(d:Dir):Conf×List Obs:=
 if d.kind=1 then(EC p c d.n,[]) else if d.kind=2 then A9 N p c d.n else if d.kind=3 then K4 N p c d.n else(CF p c,[])
end Go.Aug.Md
namespace Go.Aug.Mc
open Go Go.Aug
open Nat renaming reduceLT -> zN0, reduceEqDiff -> zN1, reduceAdd -> zN2, reduceMul -> zN3, reduceLeDiff -> zN4
open Int renaming reduceEq -> zI0, reduceLT -> zI1, reduceLE -> zI2, reduceNeg -> zI3
set_option linter.unusedSimpArgs false
set_option linter.unusedVariables false
set_option maxHeartbeats 40000000
theorem RR {p:Prog}{c:Conf}{i:Int}(h:Md.QX p c i=true):0<=i/\c.buf[i.toNat]? =some (Md.ZT c.buf i)/\i<c.buf.length:=by
 simp only[Md.QX,Bool.and_eq_true,decide_eq_true_eq] at h
 obtain⟨e,he⟩:=QB (show i.toNat<c.buf.length by omega)
 exact⟨h.1.1.2,by rw[Md.ZT,he];rfl,h.1.2⟩
variable {E:Env} {fn:FuncId->Option (Env->cT->cT)}
section
variable (S:Sur E fn)
include S
theorem U7:E.lives 40 7=none/\E.lives 40 17=none/\E.lives 40 19=none/\E.lives 40 23=none/\E.lives 40 27=none/\E.lives 40 35=none/\E.lives 40 39=none:=⟨off S 40 7 (by decide) rfl,off S 40 17 (by decide) rfl,off S 40 19 (by decide) rfl,off S 40 23 (by decide) rfl,off S 40 27 (by decide) rfl,off S 40 35 (by decide) rfl,off S 40 39 (by decide) rfl⟩
theorem Zf3 (dp:Nat)(s:State):Z6 E fn (dp+1) 29 [A4 s] (ZV ⟨s,[],[],0⟩):=by
 unfold Z6
 show Zw (Z5 E fn (dp+1) 29 [.d (A4 s)] [])=_
 rw[ZU,S.Z74,ZW,Zbc,ZY _ _ _ _ _ _ _ _ rfl]
 simp only[eG,go_sem,Z2 S,Z1 S,zN0,zN1,zN2,zN3,zN4,zI0,zI1,zI2,zI3,reduceCtorEq]
theorem Zme (dp:Nat)(s_r0 s_r1 s_r2 s_r3:Int)(s_mm s_st:List Int)(s_pc:Int)(A:List Blk)(nb:Nat):Y1 false E (Z5 E fn (dp+1)) 29 A nb (some ([.agg [vi s_r0,vi s_r1,vi s_r2,vi s_r3,rD s_mm,rD s_st,vi s_pc]],[]))=some (.made (.d (ZV ⟨(⟨⟨s_r0,s_r1,s_r2,s_r3⟩,s_mm,s_st,s_pc⟩:State),[],[],0⟩)) []):=
 Z6.deep (Zf3 S dp (⟨⟨s_r0,s_r1,s_r2,s_r3⟩,s_mm,s_st,s_pc⟩:State) ) (np S 29 (by decide)) A nb
theorem Zel (dp:Nat)(p:Prog)(c:Conf)(i:Int)(hl:c.buf.length<1073741824):Z6 E fn (dp+3) 71 [ZD p,ZV c,vi i] (vb (Md.QX p c i)):=by
 unfold Z6
 show Zw (Z5 E fn (dp+2+1) 71 [.d (ZD p),.d (ZV c),.d (vi i)] [])=_
 rw[ZU,S.Z6m,ZW,Zau,ZY _ _ _ _ _ _ _ _ rfl]
 by_cases h1:c.end_=0
 ·by_cases h2 : 0 <= i
  ·by_cases h3 : i < c.buf.length
   ·simp only[eG,go_sem,Z2 S,Z1 S,zN0,zN1,zN2,zN3,zN4,zI0,zI1,zI2,zI3,reduceCtorEq,h1,h2,h3,ge_iff_le,Zmd S,hl,Md.QX]
   ·simp only[eG,go_sem,Z2 S,Z1 S,zN0,zN1,zN2,zN3,zN4,zI0,zI1,zI2,zI3,reduceCtorEq,h1,h2,h3,ge_iff_le,Md.QX]
  ·simp only[eG,go_sem,Z2 S,Z1 S,zN0,zN1,zN2,zN3,zN4,zI0,zI1,zI2,zI3,reduceCtorEq,h1,h2,ge_iff_le,Md.QX]
 ·simp only[eG,go_sem,Z2 S,Z1 S,zN0,zN1,zN2,zN3,zN4,zI0,zI1,zI2,zI3,reduceCtorEq,h1,Md.QX]
theorem Mx (dp:Nat)(p_w p_wn p_fu p_r0 p_r1 p_r2 p_r3:Int)(p_ms:List MemT)(p_ls:List Label)(p_is:List Ins)(c_r0 c_r1 c_r2 c_r3:Int)(c_mm c_st:List Int)(c_pc:Int)(c_bf:List Ent)(c_rb:List Int)(c_en i:Int)(hl:(⟨⟨⟨c_r0,c_r1,c_r2,c_r3⟩,c_mm,c_st,c_pc⟩,c_bf,c_rb,c_en⟩:Conf).buf.length<1073741824)(A:List Blk)(nb:Nat)(us:List Nat):Y1 false E (Z5 E fn (dp+3)) 71 A nb (some ([.agg [vi p_w,vi p_wn,vi p_fu,vi p_r0,vi p_r1,vi p_r2,vi p_r3,rD p_ms,rD p_ls,rD p_is],.agg [vi c_r0,vi c_r1,vi c_r2,vi c_r3,rD c_mm,rD c_st,vi c_pc,rD c_bf,rD c_rb,vi c_en],vi i],us))=some (.made (.d (vb (Md.QX (⟨p_w,p_wn,p_fu,⟨p_r0,p_r1,p_r2,p_r3⟩,p_ms,p_ls,p_is⟩:Prog) (⟨⟨⟨c_r0,c_r1,c_r2,c_r3⟩,c_mm,c_st,c_pc⟩,c_bf,c_rb,c_en⟩:Conf) i))) []):=
 Z6.flat (Zel S dp (⟨p_w,p_wn,p_fu,⟨p_r0,p_r1,p_r2,p_r3⟩,p_ms,p_ls,p_is⟩:Prog) (⟨⟨⟨c_r0,c_r1,c_r2,c_r3⟩,c_mm,c_st,c_pc⟩,c_bf,c_rb,c_en⟩:Conf) i hl) (np S 71 (by decide)) (rfl) A nb us
theorem Zek (dp:Nat)(p:Prog)(c:Conf)(i:Int)(x:Ins)(hl:c.buf.length<1073741824):Z6 E fn (dp+4) 72 [ZD p,ZV c,vi i,.agg (Cl.cells x)] (.tup [vi (Md.Y7 p c i x.a).1,vi (Md.Y7 p c i x.b).1,vi (Md.AH p c i x.d).1,vb ((Md.Y7 p c i x.a).2&&(Md.Y7 p c i x.b).2),vb (Md.AH p c i x.d).2]):=by
 unfold Z6
 show Zw (Z5 E fn (dp+3+1) 72 [.d (ZD p),.d (ZV c),.d (vi i),.d (.agg (Cl.cells x))] [])=_
 rw[ZU,S.Z6l,ZW,Zat,ZY _ _ _ _ _ _ _ _ rfl]
 cases h:(Md.val p c.state.regs c.buf i x.a).2<;>simp only[eG,go_sem,Z2 S,Z1 S,zN0,zN1,zN2,zN3,zN4,zI0,zI1,zI2,zI3,reduceCtorEq,h,Z0l S,Z97 S,hl,Md.Y7,Md.AH]
theorem JV (dp:Nat)(p_w p_wn p_fu p_r0 p_r1 p_r2 p_r3:Int)(p_ms:List MemT)(p_ls:List Label)(p_is:List Ins)(c_r0 c_r1 c_r2 c_r3:Int)(c_mm c_st:List Int)(c_pc:Int)(c_bf:List Ent)(c_rb:List Int)(c_en i x_k x_o x_d:Int)(x_ag:Bool)(x_an:Int)(x_bg:Bool)(x_bn:Int)(x_nm:ByteArray)(x_tg:Int)(hl:(⟨⟨⟨c_r0,c_r1,c_r2,c_r3⟩,c_mm,c_st,c_pc⟩,c_bf,c_rb,c_en⟩:Conf).buf.length<1073741824)(A:List Blk)(nb:Nat)(us:List Nat):Y1 false E (Z5 E fn (dp+4)) 72 A nb (some ([.agg [vi p_w,vi p_wn,vi p_fu,vi p_r0,vi p_r1,vi p_r2,vi p_r3,rD p_ms,rD p_ls,rD p_is],.agg [vi c_r0,vi c_r1,vi c_r2,vi c_r3,rD c_mm,rD c_st,vi c_pc,rD c_bf,rD c_rb,vi c_en],vi i,.agg [vi x_k,vi x_o,vi x_d,vb x_ag,vi x_an,vb x_bg,vi x_bn,vt x_nm,vi x_tg]],us))=some (.made (.d (.tup [vi (Md.Y7 (⟨p_w,p_wn,p_fu,⟨p_r0,p_r1,p_r2,p_r3⟩,p_ms,p_ls,p_is⟩:Prog) (⟨⟨⟨c_r0,c_r1,c_r2,c_r3⟩,c_mm,c_st,c_pc⟩,c_bf,c_rb,c_en⟩:Conf) i (⟨x_k,x_o,x_d,⟨x_ag,x_an⟩,⟨x_bg,x_bn⟩,x_nm,x_tg⟩:Ins).a).1,vi (Md.Y7 (⟨p_w,p_wn,p_fu,⟨p_r0,p_r1,p_r2,p_r3⟩,p_ms,p_ls,p_is⟩:Prog) (⟨⟨⟨c_r0,c_r1,c_r2,c_r3⟩,c_mm,c_st,c_pc⟩,c_bf,c_rb,c_en⟩:Conf) i (⟨x_k,x_o,x_d,⟨x_ag,x_an⟩,⟨x_bg,x_bn⟩,x_nm,x_tg⟩:Ins).b).1,vi (Md.AH (⟨p_w,p_wn,p_fu,⟨p_r0,p_r1,p_r2,p_r3⟩,p_ms,p_ls,p_is⟩:Prog) (⟨⟨⟨c_r0,c_r1,c_r2,c_r3⟩,c_mm,c_st,c_pc⟩,c_bf,c_rb,c_en⟩:Conf) i (⟨x_k,x_o,x_d,⟨x_ag,x_an⟩,⟨x_bg,x_bn⟩,x_nm,x_tg⟩:Ins).d).1,vb ((Md.Y7 (⟨p_w,p_wn,p_fu,⟨p_r0,p_r1,p_r2,p_r3⟩,p_ms,p_ls,p_is⟩:Prog) (⟨⟨⟨c_r0,c_r1,c_r2,c_r3⟩,c_mm,c_st,c_pc⟩,c_bf,c_rb,c_en⟩:Conf) i (⟨x_k,x_o,x_d,⟨x_ag,x_an⟩,⟨x_bg,x_bn⟩,x_nm,x_tg⟩:Ins).a).2&&(Md.Y7 (⟨p_w,p_wn,p_fu,⟨p_r0,p_r1,p_r2,p_r3⟩,p_ms,p_ls,p_is⟩:Prog) (⟨⟨⟨c_r0,c_r1,c_r2,c_r3⟩,c_mm,c_st,c_pc⟩,c_bf,c_rb,c_en⟩:Conf) i (⟨x_k,x_o,x_d,⟨x_ag,x_an⟩,⟨x_bg,x_bn⟩,x_nm,x_tg⟩:Ins).b).2),vb (Md.AH (⟨p_w,p_wn,p_fu,⟨p_r0,p_r1,p_r2,p_r3⟩,p_ms,p_ls,p_is⟩:Prog) (⟨⟨⟨c_r0,c_r1,c_r2,c_r3⟩,c_mm,c_st,c_pc⟩,c_bf,c_rb,c_en⟩:Conf) i (⟨x_k,x_o,x_d,⟨x_ag,x_an⟩,⟨x_bg,x_bn⟩,x_nm,x_tg⟩:Ins).d).2])) []):=
 Z6.flat (Zek S dp (⟨p_w,p_wn,p_fu,⟨p_r0,p_r1,p_r2,p_r3⟩,p_ms,p_ls,p_is⟩:Prog) (⟨⟨⟨c_r0,c_r1,c_r2,c_r3⟩,c_mm,c_st,c_pc⟩,c_bf,c_rb,c_en⟩:Conf) i (⟨x_k,x_o,x_d,⟨x_ag,x_an⟩,⟨x_bg,x_bn⟩,x_nm,x_tg⟩:Ins) hl) (np S 72 (by decide)) (rfl) A nb us
theorem Zf1 (dp:Nat)(p:Prog)(c:Conf)(i:Int)(hl:c.buf.length<1073741824):Z6 E fn (dp+5) 40 [ZD p,ZV c,vi i] (vb (Md.can (c.state.mem.length:Int) p c i)):=by
 unfold Z6
 show Zw (Z5 E fn (dp+4+1) 40 [.d (ZD p),.d (ZV c),.d (vi i)] [])=_
 rw[ZU,S.Z72,ZW,Zba,ZY _ _ _ _ _ _ _ _ rfl]
 cases ho:Md.QX p c i with
 | false=>simp only[eG,go_sem,Z2 S,Z1 S,zN0,zN1,zN2,zN3,zN4,zI0,zI1,zI2,zI3,reduceCtorEq,U7 S,Mx S,hl,ho,Md.can]
 | true=>
  obtain⟨h0,he,_⟩:=RR ho
  cases hd:(Md.ZT c.buf i).done with
  | true=>simp only[eG,go_sem,Z2 S,Z1 S,zN0,zN1,zN2,zN3,zN4,zI0,zI1,zI2,zI3,reduceCtorEq,U7 S,Mx S,hl,ho,DW h0 he,hd,Md.can]
  | false=>
   simp only[eG,go_sem,Z2 S,Z1 S,zN0,zN1,zN2,zN3,zN4,zI0,zI1,zI2,zI3,reduceCtorEq,U7 S,Mx S,hl,ho,DW h0 he,hd,Md.can,ZP S,JV S,JQ S,BM S,Z0l S,Md.JS]
   have hm:Md.Qk p c i=Md.at_ p (Md.ZT c.buf i).pc:=rfl
   rw[hm]
   generalize hx:Md.at_ p (Md.ZT c.buf i).pc=x
   cases hab:((Md.Y7 p c i x.a).2&&(Md.Y7 p c i x.b).2)<;>by_cases hN:Md.Y4 p.w ((Md.Y7 p c i x.a).1+(Md.Y7 p c i x.b).1)>=(c.state.mem.length:Int)
   all_goals
    simp only[eG,go_sem,Z2 S,Z1 S,zN0,zN1,zN2,zN3,zN4,zI0,zI1,zI2,zI3,reduceCtorEq,U7 S,hab,hN,Mx S,hl,ho,DW h0 he,hd,Md.can,ZP S,JV S,JQ S,BM S,Z0l S,Md.JS]
    by_cases k1:x.kind=1
    ·simp only[k1,Md.ready,hab,if_true,decide_true,cond_true,true_or]
    by_cases k5:x.kind=5
    ·simp only[k5,Md.ready,hab,if_true,decide_true,cond_true,or_true,zI0,decide_false,cond_false]
    by_cases k4:x.kind=4
    ·simp only[k4,Md.ready,hab,if_true,if_false,decide_true,cond_true,or_self,zI0,decide_false,cond_false,Bool.true_and,Bool.false_and]
    by_cases k2:x.kind=2
    ·simp only[k2,Md.ready,hab,hN,if_true,if_false,decide_true,cond_true,or_self,zI0,decide_false,cond_false,Bool.true_and,Bool.false_and,Bool.true_or,Bool.false_or,Md.D2]
    by_cases k3:x.kind=3
    ·simp only[k3,Md.ready,if_true,if_false,decide_true,cond_true,or_self,zI0,decide_false,cond_false]
    by_cases k7:x.kind=7
    ·simp only[k7,Md.ready,if_true,if_false,decide_true,cond_true,or_self,zI0,decide_false,cond_false,Md.Y7]
    ·simp only[k1,k2,k3,k4,k5,k7,Md.ready,if_true,if_false,decide_true,cond_true,or_self,zI0,decide_false,cond_false]
theorem JF (dp:Nat)(p_w p_wn p_fu p_r0 p_r1 p_r2 p_r3:Int)(p_ms:List MemT)(p_ls:List Label)(p_is:List Ins)(c_r0 c_r1 c_r2 c_r3:Int)(c_mm c_st:List Int)(c_pc:Int)(c_bf:List Ent)(c_rb:List Int)(c_en i:Int)(hl:(⟨⟨⟨c_r0,c_r1,c_r2,c_r3⟩,c_mm,c_st,c_pc⟩,c_bf,c_rb,c_en⟩:Conf).buf.length<1073741824)(A:List Blk)(nb:Nat)(us:List Nat):Y1 false E (Z5 E fn (dp+5)) 40 A nb (some ([.agg [vi p_w,vi p_wn,vi p_fu,vi p_r0,vi p_r1,vi p_r2,vi p_r3,rD p_ms,rD p_ls,rD p_is],.agg [vi c_r0,vi c_r1,vi c_r2,vi c_r3,rD c_mm,rD c_st,vi c_pc,rD c_bf,rD c_rb,vi c_en],vi i],us))=some (.made (.d (vb (Md.can ((⟨⟨⟨c_r0,c_r1,c_r2,c_r3⟩,c_mm,c_st,c_pc⟩,c_bf,c_rb,c_en⟩:Conf).state.mem.length:Int) (⟨p_w,p_wn,p_fu,⟨p_r0,p_r1,p_r2,p_r3⟩,p_ms,p_ls,p_is⟩:Prog) (⟨⟨⟨c_r0,c_r1,c_r2,c_r3⟩,c_mm,c_st,c_pc⟩,c_bf,c_rb,c_en⟩:Conf) i))) []):=
 Z6.flat (Zf1 S dp (⟨p_w,p_wn,p_fu,⟨p_r0,p_r1,p_r2,p_r3⟩,p_ms,p_ls,p_is⟩:Prog) (⟨⟨⟨c_r0,c_r1,c_r2,c_r3⟩,c_mm,c_st,c_pc⟩,c_bf,c_rb,c_en⟩:Conf) i hl) (np S 40 (by decide)) (rfl) A nb us
end
theorem Zk1 (l:List Ent)(i:Int):Md.DF l i<=l.length+1:=by unfold Md.DF;omega
theorem Zjy (l:List Ent)(i:Int):min (max i (-1)) (l.length:Int)+1=(Md.DF l i:Int):=by unfold Md.DF;omega
variable {E:Env} {fn:FuncId->Option (Env->cT->cT)}
section
variable (S:Sur E fn)
include S
theorem U6:E.lives 41 7=none:=off S 41 7 (by decide) rfl
theorem RW:E.lives 39 7=none/\E.lives 39 13=none/\E.lives 39 17=none/\E.lives 39 21=none/\E.lives 39 23=none:=⟨off S 39 7 (by decide) rfl,off S 39 13 (by decide) rfl,off S 39 17 (by decide) rfl,off S 39 21 (by decide) rfl,off S 39 23 (by decide) rfl⟩
theorem Ek:E.lives 125 1=none/\E.lives 125 13=none:=⟨off S 125 1 (by decide) rfl,off S 125 13 (by decide) rfl⟩
theorem Zf0 (dp:Nat)(p:Prog)(c:Conf)(i:Int)(hl:c.buf.length<1073741824):Z6 E fn (dp+5) 41 [ZD p,ZV c,vi i] (vb (Md.YU p c i)):=by
 unfold Z6
 show Zw (Z5 E fn (dp+4+1) 41 [.d (ZD p),.d (ZV c),.d (vi i)] [])=_
 rw[ZU,S.Z71,ZW,Zb9,ZY _ _ _ _ _ _ _ _ rfl]
 cases ho:Md.QX p c i with
 | false=>simp only[eG,go_sem,Z2 S,Z1 S,zN0,zN1,zN2,zN3,zN4,zI0,zI1,zI2,zI3,reduceCtorEq,U6 S,Mx S,hl,ho,Md.YU]
 | true=>
  obtain⟨h0,he,_⟩:=RR ho
  cases hd:(Md.ZT c.buf i).known with
  | true=>simp only[eG,go_sem,Z2 S,Z1 S,zN0,zN1,zN2,zN3,zN4,zI0,zI1,zI2,zI3,reduceCtorEq,U6 S,Mx S,hl,ho,DW h0 he,hd,Md.YU]
  | false=>
   by_cases k3:(Md.at_ p (Md.ZT c.buf i).pc).kind=3
   ·simp only[eG,go_sem,Z2 S,Z1 S,zN0,zN1,zN2,zN3,zN4,zI0,zI1,zI2,zI3,reduceCtorEq,U6 S,Mx S,hl,ho,DW h0 he,hd,Md.YU,ZP S,JV S,Md.Qk,k3]
   ·simp only[eG,go_sem,Z2 S,Z1 S,zN0,zN1,zN2,zN3,zN4,zI0,zI1,zI2,zI3,reduceCtorEq,U6 S,Mx S,hl,ho,DW h0 he,hd,Md.YU,ZP S,JV S,Md.Qk,k3]
theorem EZ (dp:Nat)(p_w p_wn p_fu p_r0 p_r1 p_r2 p_r3:Int)(p_ms:List MemT)(p_ls:List Label)(p_is:List Ins)(c_r0 c_r1 c_r2 c_r3:Int)(c_mm c_st:List Int)(c_pc:Int)(c_bf:List Ent)(c_rb:List Int)(c_en i:Int)(hl:(⟨⟨⟨c_r0,c_r1,c_r2,c_r3⟩,c_mm,c_st,c_pc⟩,c_bf,c_rb,c_en⟩:Conf).buf.length<1073741824)(A:List Blk)(nb:Nat)(us:List Nat):Y1 false E (Z5 E fn (dp+5)) 41 A nb (some ([.agg [vi p_w,vi p_wn,vi p_fu,vi p_r0,vi p_r1,vi p_r2,vi p_r3,rD p_ms,rD p_ls,rD p_is],.agg [vi c_r0,vi c_r1,vi c_r2,vi c_r3,rD c_mm,rD c_st,vi c_pc,rD c_bf,rD c_rb,vi c_en],vi i],us))=some (.made (.d (vb (Md.YU (⟨p_w,p_wn,p_fu,⟨p_r0,p_r1,p_r2,p_r3⟩,p_ms,p_ls,p_is⟩:Prog) (⟨⟨⟨c_r0,c_r1,c_r2,c_r3⟩,c_mm,c_st,c_pc⟩,c_bf,c_rb,c_en⟩:Conf) i))) []):=
 Z6.flat (Zf0 S dp (⟨p_w,p_wn,p_fu,⟨p_r0,p_r1,p_r2,p_r3⟩,p_ms,p_ls,p_is⟩:Prog) (⟨⟨⟨c_r0,c_r1,c_r2,c_r3⟩,c_mm,c_st,c_pc⟩,c_bf,c_rb,c_en⟩:Conf) i hl) (np S 41 (by decide)) (rfl) A nb us
theorem Zev (dp:Nat)(p:Prog)(c:Conf)(hi:p.ins.length<1073741824):Z6 E fn (dp+2) 39 [ZD p,ZV c] (vi (Md.YE p c)):=by
 unfold Z6
 show Zw (Z5 E fn (dp+1+1) 39 [.d (ZD p),.d (ZV c)] [])=_
 rw[ZU,S.Z6w,ZW,Zb4,ZY _ _ _ _ _ _ _ _ rfl]
 have hw:IntKind.i64.wrap ((p.ins.length:Int)+1)=p.ins.length+1:=by rw[YX (by omega) (by omega)]
 by_cases h1:c.end_=0
 ·by_cases h2 : c.state.pc = -1
  ·simp only[eG,go_sem,Z2 S,Z1 S,zN0,zN1,zN2,zN3,zN4,zI0,zI1,zI2,zI3,reduceCtorEq,RW S,h1,h2,Md.YE,ne_eq,not_true_eq_false,not_false_eq_true]
  ·by_cases h3 : (c.buf.length : Int) >= p.window
   ·simp only[eG,go_sem,Z2 S,Z1 S,zN0,zN1,zN2,zN3,zN4,zI0,zI1,zI2,zI3,reduceCtorEq,RW S,h1,h2,h3,Md.YE,ne_eq,not_true_eq_false,not_false_eq_true]
   ·by_cases h9 : c.rsb.length = 0
    ·simp only [eG, go_sem, Z2 S, Z1 S, zN0, zN1, zN2, zN3, zN4, zI0, zI1, zI2, zI3, reduceCtorEq, RW S, h1, h2, h3, h9, Md.YE, ne_eq, not_true_eq_false, not_false_eq_true, ZP S, hw, Int.natCast_eq_zero]
     by_cases k5:(Md.at_ p c.state.pc).kind=5
     ·simp only[k5,decide_true,decide_false,cond_true,cond_false,if_true,if_false,zI0]
     by_cases k7:(Md.at_ p c.state.pc).kind=7
     ·simp only[k7,decide_true,decide_false,cond_true,cond_false,if_true,if_false,zI0,true_or]
     by_cases k9:(Md.at_ p c.state.pc).kind=9
     ·simp only[k9,decide_true,decide_false,cond_true,cond_false,if_true,if_false,zI0,or_true,and_self]
     ·simp only[k5,k7,k9,decide_true,decide_false,cond_true,cond_false,if_true,if_false,zI0,or_self,false_and]
    ·simp only [eG, go_sem, Z2 S, Z1 S, zN0, zN1, zN2, zN3, zN4, zI0, zI1, zI2, zI3, reduceCtorEq, RW S, h1, h2, h3, h9, Md.YE, ne_eq, not_true_eq_false, not_false_eq_true, ZP S, hw, Int.natCast_eq_zero]
     by_cases k5:(Md.at_ p c.state.pc).kind=5
     ·simp only[k5,decide_true,decide_false,cond_true,cond_false,if_true,if_false,zI0]
     by_cases k7:(Md.at_ p c.state.pc).kind=7
     ·simp only[k7,decide_true,decide_false,cond_true,cond_false,if_true,if_false,zI0,true_or]
     by_cases k9:(Md.at_ p c.state.pc).kind=9
     ·simp only[k9,decide_true,decide_false,cond_true,cond_false,if_true,if_false,zI0,or_true,and_self,and_false,or_self]
     ·simp only[k5,k7,k9,decide_true,decide_false,cond_true,cond_false,if_true,if_false,zI0,or_self,false_and]
 ·simp only[eG,go_sem,Z2 S,Z1 S,zN0,zN1,zN2,zN3,zN4,zI0,zI1,zI2,zI3,reduceCtorEq,RW S,h1,Md.YE,ne_eq,not_true_eq_false,not_false_eq_true]
theorem BN (dp:Nat)(p_w p_wn p_fu p_r0 p_r1 p_r2 p_r3:Int)(p_ms:List MemT)(p_ls:List Label)(p_is:List Ins)(c_r0 c_r1 c_r2 c_r3:Int)(c_mm c_st:List Int)(c_pc:Int)(c_bf:List Ent)(c_rb:List Int)(c_en:Int)(hi:(⟨p_w,p_wn,p_fu,⟨p_r0,p_r1,p_r2,p_r3⟩,p_ms,p_ls,p_is⟩:Prog).ins.length<1073741824)(A:List Blk)(nb:Nat)(us:List Nat):Y1 false E (Z5 E fn (dp+2)) 39 A nb (some ([.agg [vi p_w,vi p_wn,vi p_fu,vi p_r0,vi p_r1,vi p_r2,vi p_r3,rD p_ms,rD p_ls,rD p_is],.agg [vi c_r0,vi c_r1,vi c_r2,vi c_r3,rD c_mm,rD c_st,vi c_pc,rD c_bf,rD c_rb,vi c_en]],us))=some (.made (.d (vi (Md.YE (⟨p_w,p_wn,p_fu,⟨p_r0,p_r1,p_r2,p_r3⟩,p_ms,p_ls,p_is⟩:Prog) (⟨⟨⟨c_r0,c_r1,c_r2,c_r3⟩,c_mm,c_st,c_pc⟩,c_bf,c_rb,c_en⟩:Conf)))) []):=
 Z6.flat (Zev S dp (⟨p_w,p_wn,p_fu,⟨p_r0,p_r1,p_r2,p_r3⟩,p_ms,p_ls,p_is⟩:Prog) (⟨⟨⟨c_r0,c_r1,c_r2,c_r3⟩,c_mm,c_st,c_pc⟩,c_bf,c_rb,c_en⟩:Conf) hi) (np S 39 (by decide)) (rfl) A nb us
theorem Ziw (dp:Nat)(p:Prog)(l:List Ent)(i addr:Int)(hl:l.length<1073741824)(kx:Nat->K)
  (hx:∀ T,Zw (kx 0 (mk .bot 58 T) [.cells ((ZX p).map .d) 0 false])=some (.tup [vi 0,vb false])):
  ∀(m k fuel:Nat),(k+m=l.length∨(m=0/\l.length<=k))->k<=l.length+1->m<=fuel->Zw (NM (Zq E 125) (Z5 E fn (dp+1)) (Z9 6 NM (Zq E 125) (Z5 E fn (dp+1)) kx (Y0 0 [.tmp 8,.tmp 9]) fuel) kx (Y0 0 [.tmp 8,.tmp 9])
   (mk .bot 58 [(1,.d (rD l)),(2,aI i),(3,aI addr),(4,.ref 0 0 0),(10,aI k)]) [.cells ((ZX p).map .d) 0 false])=
   some (.tup [vi (Md.Bx p i addr k (l.drop k)).1,vb (Md.Bx p i addr k (l.drop k)).2]):=by
 intro m
 induction m with
 | zero=>
  intro k fuel hk hk2 _
  generalize Z9 6 NM _ _ kx _ fuel=KK
  rw[NM,List.drop_of_length_le (by omega)]
  simp only[eG,go_sem,Z2 S,Z1 S,zN0,zN1,zN2,zN3,zN4,zI0,zI1,zI2,zI3,reduceCtorEq,Ek S,show ¬(k:Int)<l.length by omega,Md.Bx]
  exact hx _
 | succ m ih=>
  intro k fuel hk hk2 hf
  obtain⟨e,he⟩:=QB (show k<l.length by omega)
  obtain⟨fuel,rfl⟩:∃ m,fuel=m+1:=⟨fuel-1,by omega⟩
  generalize hK:Z9 6 NM _ _ kx _ (fuel+1)=KK
  rw[NM,BK he]
  have h2:(k:Int)<l.length:=by omega
  have next:∀ X,(Md.Bx p i addr (k+1) (l.drop (k+1)))=X->X=Md.Bx p i addr (k+1) (l.drop (k+1)):=fun _ h=>h.symm
  by_cases k2:(Md.at_ p e.pc).kind=2
  ·cases hk : e.known with
   | true=>
    by_cases ha:e.addr=addr
    ·by_cases hfr : e.frm < i
     ·simp only[eG,go_sem,Z2 S,Z1 S,zN0,zN1,zN2,zN3,zN4,zI0,zI1,zI2,zI3,reduceCtorEq,Ek S,Zv he,ZP S,wi k (by omega),h2,k2,hk,ha,hfr,Md.Bx,Md.M1]
     ·simp only [eG, go_sem, Z2 S, Z1 S, zN0, zN1, zN2, zN3, zN4, zI0, zI1, zI2, zI3, reduceCtorEq, Ek S, Zv he, ZP S, wi k (by omega), h2, k2, hk, ha, hfr, Md.Bx, Md.M1]
      rw[<-hK,Z7 (on S _ _ [1,2,3,4,10] (by decide) rfl) rfl _ _ _ _ _ _ _ _ _ rfl]
      simp only[eG,go_sem,Z2 S,Z1 S,zN0,zN1,zN2,zN3,zN4,zI0,zI1,zI2,zI3,reduceCtorEq,Ek S,Zv he,ZP S,wi k (by omega),h2]
      exact ih (k+1) fuel (by omega) (by omega) (by omega)
    ·simp only [eG, go_sem, Z2 S, Z1 S, zN0, zN1, zN2, zN3, zN4, zI0, zI1, zI2, zI3, reduceCtorEq, Ek S, Zv he, ZP S, wi k (by omega), h2, k2, hk, ha, Md.Bx, Md.M1]
     rw[<-hK,Z7 (on S _ _ [1,2,3,4,10] (by decide) rfl) rfl _ _ _ _ _ _ _ _ _ rfl]
     simp only[eG,go_sem,Z2 S,Z1 S,zN0,zN1,zN2,zN3,zN4,zI0,zI1,zI2,zI3,reduceCtorEq,Ek S,Zv he,ZP S,wi k (by omega),h2]
     exact ih (k+1) fuel (by omega) (by omega) (by omega)
   | false=>
    simp only[eG,go_sem,Z2 S,Z1 S,zN0,zN1,zN2,zN3,zN4,zI0,zI1,zI2,zI3,reduceCtorEq,Ek S,Zv he,ZP S,wi k (by omega),h2,k2,hk,Md.Bx,Md.M1]
    rw[<-hK,Z7 (on S _ _ [1,2,3,4,10] (by decide) rfl) rfl _ _ _ _ _ _ _ _ _ rfl]
    simp only[eG,go_sem,Z2 S,Z1 S,zN0,zN1,zN2,zN3,zN4,zI0,zI1,zI2,zI3,reduceCtorEq,Ek S,Zv he,ZP S,wi k (by omega),h2]
    exact ih (k+1) fuel (by omega) (by omega) (by omega)
  ·simp only [eG, go_sem, Z2 S, Z1 S, zN0, zN1, zN2, zN3, zN4, zI0, zI1, zI2, zI3, reduceCtorEq, Ek S, Zv he, ZP S, wi k (by omega), h2, k2, Md.Bx, Md.M1]
   rw[<-hK,Z7 (on S _ _ [1,2,3,4,10] (by decide) rfl) rfl _ _ _ _ _ _ _ _ _ rfl]
   simp only[eG,go_sem,Z2 S,Z1 S,zN0,zN1,zN2,zN3,zN4,zI0,zI1,zI2,zI3,reduceCtorEq,Ek S,Zv he,ZP S,wi k (by omega),h2]
   exact ih (k+1) fuel (by omega) (by omega) (by omega)
theorem Zeu (dp:Nat)(p:Prog)(l:List Ent)(i addr:Int)(hl:l.length<1073741824):Z6 E fn (dp+2) 125 [ZD p,rD l,vi i,vi addr] (.tup [vi (Md.A6 p l i addr).1,vb (Md.A6 p l i addr).2]):=by
 unfold Z6
 show Zw (Z5 E fn (dp+1+1) 125 [.d (ZD p),.d (rD l),.d (vi i),.d (vi addr)] [])=_
 rw[ZU,S.Z6v,ZW,Zb3,ZY _ _ _ _ _ _ _ _ rfl]
 have hh:=Zk1 l i
 have hr:IntKind.i64.wrap (min (max i (-1)) (l.length:Int)+1)=(Md.DF l i:Int):=by rw[Zjy];exact YX (by omega) (by omega)
 simp only[eG,go_sem,Z2 S,Z1 S,zN0,zN1,zN2,zN3,zN4,zI0,zI1,zI2,zI3,reduceCtorEq,Ek S,hr]
 rw[Y2,Z7 (on S _ _ [1,2,3,4,10] (by decide) rfl) rfl _ _ _ _ _ _ _ _ _ rfl]
 simp only[eG,go_sem,Z2 S,Z1 S,zN0,zN1,zN2,zN3,zN4,zI0,zI1,zI2,zI3,reduceCtorEq,Ek S]
 refine Ziw S dp p l i addr hl _ ?_ (l.length-Md.DF l i) (Md.DF l i) _ (by omega) hh (by omega)
 intro T
 simp only[eG,go_sem,Z2 S,Z1 S,zN0,zN1,zN2,zN3,zN4,zI0,zI1,zI2,zI3,reduceCtorEq,Ek S]
theorem Z98 (dp:Nat)(p_w p_wn p_fu p_r0 p_r1 p_r2 p_r3:Int)(p_ms:List MemT)(p_ls:List Label)(p_is:List Ins)(l:List Ent)(i addr:Int)(hl:l.length<1073741824)(A:List Blk)(nb:Nat)(us:List Nat):Y1 false E (Z5 E fn (dp+2)) 125 A nb (some ([.agg [vi p_w,vi p_wn,vi p_fu,vi p_r0,vi p_r1,vi p_r2,vi p_r3,rD p_ms,rD p_ls,rD p_is],rD l,vi i,vi addr],us))=some (.made (.d (.tup [vi (Md.A6 (⟨p_w,p_wn,p_fu,⟨p_r0,p_r1,p_r2,p_r3⟩,p_ms,p_ls,p_is⟩:Prog) l i addr).1,vb (Md.A6 (⟨p_w,p_wn,p_fu,⟨p_r0,p_r1,p_r2,p_r3⟩,p_ms,p_ls,p_is⟩:Prog) l i addr).2])) []):=
 Z6.flat (Zeu S dp (⟨p_w,p_wn,p_fu,⟨p_r0,p_r1,p_r2,p_r3⟩,p_ms,p_ls,p_is⟩:Prog) l i addr hl) (np S 125 (by decide)) (rfl) A nb us
end
def RB:Option (List Int)->DV
 | none=>.tup [rD ([]:List Int),vb false]
 | some r=>.tup [rD r,vb true]
theorem Z9y {i:Nat}{out junk:List Int}{k:Option Nat}{A:List Blk}{b:Bool}(hA:A[i]? =some (.cells ((rC (out++junk)).map .d) 0 false)):
  Zw (CN 0 (some (.tup [.sref i 0 0 out.length 1 k,YB b],A)))=some (.tup [rD out,vb b]):=by
 have hi:¬A.length<=i:=by
  intro h;rw[List.getElem?_eq_none h] at hA;cases hA
 cases out with
 | nil=>simp only[eG,go_sem,Nx,hA,hi,List.not_mem_nil,false_or,or_false,Nat.not_lt_zero,if_false]
 | cons x xs=>
  have hd:deep [.cells ((rC (x::xs++junk)).map .d) 0 false] 7 (.sref 0 0 0 (x::xs).length 1 k)=some (.lst (rC (x::xs)) (x::xs).length k,[0]):=Zlb (by simp) rfl _ _ _ rfl
  simp only[eG,go_sem,Nx,hA,hi,List.not_mem_nil,false_or,or_false,Nat.not_lt_zero,if_false] at hd ⊢
  rw[hd]
  rfl
variable {E:Env} {fn:FuncId->Option (Env->cT->cT)}
section
variable (S:Sur E fn)
include S
theorem B8:E.lives 120 1=none/\E.lives 120 17=none/\E.lives 120 19=none/\E.lives 120 25=none/\E.lives 120 27=none:=⟨off S 120 1 (by decide) rfl,off S 120 17 (by decide) rfl,off S 120 19 (by decide) rfl,off S 120 25 (by decide) rfl,off S 120 27 (by decide) rfl⟩
theorem Z4u (dp:Nat)(p:Prog)(l:List Ent)(i:Int)(hl:l.length<1073741824)(kx:Nat->K)
  (hx:∀ T out junk k,ZE .bot T 10=.sref 1 0 0 (out:List Int).length 1 k->Zw (kx 0 (mk .bot 59 T) [.cells ((ZX p).map .d) 0 false,.cells ((rC (out++junk)).map .d) 0 false])=some (RB (some out))):
  ∀(m k fuel:Nat) (out junk:List Int) (q:Option Nat),k+m=(Md.cut l i).length->m<=fuel->out.length<1073741824->(q=none∨q=some 0/\out=[]/\junk=[])->Zw (EH (Zq E 120) (Z5 E fn (dp+1)) (Z9 8 EH (Zq E 120) (Z5 E fn (dp+1)) kx (Y0 0 [.tmp 8,.tmp 9]) fuel) kx (Y0 0 [.tmp 8,.tmp 9])
   (mk .bot 59 [(2,.d (rD l)),(3,aI i),(4,.ref 0 0 0),(10,.sref 1 0 0 out.length 1 q),(11,aI k)]) [.cells ((ZX p).map .d) 0 false,.cells ((rC (out++junk)).map .d) 0 false])=
   some (RB (Md.JC p ((Md.cut l i).drop k) out)):=by
 intro m
 have hcl:(Md.cut l i).length=min i.toNat l.length:=by simp[Md.cut]
 induction m with
 | zero=>
  intro k fuel out junk q hk _ ho hq
  generalize Z9 8 EH _ _ kx _ fuel=KK
  rw[EH,List.drop_of_length_le (by omega)]
  by_cases h1:(k:Int)<i
  ·simp only [eG, go_sem, Z2 S, Z1 S, zN0, zN1, zN2, zN3, zN4, zI0, zI1, zI2, zI3, reduceCtorEq, B8 S, h1, show ¬ (k : Int) < l.length by omega, Md.JC]
   exact hx _ _ _ q rfl
  ·simp only [eG, go_sem, Z2 S, Z1 S, zN0, zN1, zN2, zN3, zN4, zI0, zI1, zI2, zI3, reduceCtorEq, B8 S, h1, Md.JC]
   exact hx _ _ _ q rfl
 | succ m ih=>
  intro k fuel out junk q hk hf ho hq
  obtain⟨e,he⟩:=QB (show k<l.length by omega)
  have hc:(Md.cut l i)[k]? =some e:=by unfold Md.cut;rw[List.getElem?_take,if_pos (by omega),he]
  obtain⟨fuel,rfl⟩:∃ m,fuel=m+1:=⟨fuel-1,by omega⟩
  generalize hK:Z9 8 EH _ _ kx _ (fuel+1)=KK
  rw[EH,BK hc,Md.JC]
  have h1:(k:Int)<i:=by omega
  have h2:(k:Int)<l.length:=by omega
  by_cases k8:(Md.at_ p e.pc).kind=8
  ·by_cases h4 : 4 <= out.length
   ·simp only[eG,go_sem,Z2 S,Z1 S,zN0,zN1,zN2,zN3,zN4,zI0,zI1,zI2,zI3,reduceCtorEq,B8 S,Zv he,ZP S,wi k (by omega),h1,h2,ge_iff_le,k8,h4,show(4:Int)<=out.length by omega,RB]
   ·have l1 : (out.length + 1) * 8 <= Z4 := by unfold Z4; omega
    have l2:out.length+1<=Z4:=by unfold Z4;omega
    rcases hq with rfl | ⟨rfl,rfl,rfl⟩
    ·cases junk with
     | nil=>
      simp only[List.append_nil]
      simp only[eG,go_sem,Z2 S,Z1 S,zN0,zN1,zN2,zN3,zN4,zI0,zI1,zI2,zI3,reduceCtorEq,B8 S,Zv he,ZP S,wi k (by omega),h1,h2,ge_iff_le,k8,h4,show ¬(4:Int)<=out.length by omega,Z8,Vv,l1,l2]
      rw[<-hK,Z7 (on S _ _ [2,3,4,10,11] (by decide) rfl) rfl _ _ _ _ _ _ _ _ _ rfl]
      simp only[eG,go_sem,Z2 S,Z1 S,zN0,zN1,zN2,zN3,zN4,zI0,zI1,zI2,zI3,reduceCtorEq,B8 S,Zv he,ZP S,wi k (by omega),h1,h2,ge_iff_le]
      have e1:out.length+1=(out++[Md.YC (e.pc+1)]).length:=by simp
      have:=ih (k+1) fuel (out++[Md.YC (e.pc+1)]) [] none (by omega) (by omega) (by simp;omega) (.inl rfl)
      rw[<-e1,List.append_nil] at this
      exact this
     | cons y junk=>
      simp only[eG,go_sem,Z2 S,Z1 S,zN0,zN1,zN2,zN3,zN4,zI0,zI1,zI2,zI3,reduceCtorEq,B8 S,Zv he,ZP S,wi k (by omega),h1,h2,ge_iff_le,k8,h4,show ¬(4:Int)<=out.length by omega,Z8,Z9x (y:=y) (junk:=junk),l1,l2]
      rw[<-hK,Z7 (on S _ _ [2,3,4,10,11] (by decide) rfl) rfl _ _ _ _ _ _ _ _ _ rfl]
      simp only[eG,go_sem,Z2 S,Z1 S,zN0,zN1,zN2,zN3,zN4,zI0,zI1,zI2,zI3,reduceCtorEq,B8 S,Zv he,ZP S,wi k (by omega),h1,h2,ge_iff_le]
      have e1:out.length+1=(out++[Md.YC (e.pc+1)]).length:=by simp
      have:=ih (k+1) fuel (out++[Md.YC (e.pc+1)]) junk none (by omega) (by omega) (by simp;omega) (.inl rfl)
      rw[<-e1,List.append_assoc] at this
      exact this
    ·simp only [eG, go_sem, Z2 S, Z1 S, zN0, zN1, zN2, zN3, zN4, zI0, zI1, zI2, zI3, reduceCtorEq, B8 S, Zv he, ZP S, wi k (by omega), h1, h2, ge_iff_le, k8, List.length_nil, show ¬ (4 : Int) <= (0 : Nat) by omega, Z8, CS (cs := []), Nat.succ_ne_zero, show (1 : Nat) * 8 <= Z4 by decide, show (1 : Nat) <= Z4 by decide, ne_eq, not_false_eq_true]
     rw[<-hK,Z7 (on S _ _ [2,3,4,10,11] (by decide) rfl) rfl _ _ _ _ _ _ _ _ _ rfl]
     simp only[eG,go_sem,Z2 S,Z1 S,zN0,zN1,zN2,zN3,zN4,zI0,zI1,zI2,zI3,reduceCtorEq,B8 S,Zv he,ZP S,wi k (by omega),h1,h2,ge_iff_le]
     exact ih (k+1) fuel [Md.YC (e.pc+1)] [] none (by omega) (by omega) (by simp) (.inl rfl)
  ·by_cases k9 : (Md.at_ p e.pc).kind = 9
   ·cases hr : out.reverse with
    | nil=>
     have:out=[]:=List.reverse_eq_nil_iff.1 hr
     subst this
     simp only[eG,go_sem,Z2 S,Z1 S,zN0,zN1,zN2,zN3,zN4,zI0,zI1,zI2,zI3,reduceCtorEq,B8 S,Zv he,ZP S,wi k (by omega),h1,h2,ge_iff_le,k8,k9,List.length_nil,RB,zI0,Int.natCast_eq_zero]
    | cons y r=>
     have e0:out=r.reverse++[y]:=by rw[<-List.reverse_reverse out,hr,List.reverse_cons]
     subst e0
     have e1:(r.reverse++[y]).dropLast=r.reverse:=List.dropLast_concat
     have e2:(r.reverse++[y]).length=r.reverse.length+1:=by simp
     rcases hq with rfl | ⟨_,h,_⟩
     ·have w1 : IntKind.i64.wrap (((r.reverse.length + 1 : Nat) : Int) - 1) = (r.reverse.length : Int) := by rw [e2] at ho; rw [YX (by omega) (by omega)]; omega
      have bd:=HZ (r.reverse.length+1) .i64 (r.reverse.length:Int) (by omega) (by omega)
      rw[e2,e1]
      simp only[eG,go_sem,Z2 S,Z1 S,zN0,zN1,zN2,zN3,zN4,zI0,zI1,zI2,zI3,reduceCtorEq,B8 S,Zv he,ZP S,wi k (by omega),h1,h2,ge_iff_le,k8,k9,w1,bd,Int.toNat_natCast,Nat.succ_ne_zero,Int.natCast_eq_zero,ne_eq,not_true_eq_false,and_false,Nat.zero_mul,Nat.sub_zero,Nat.add_zero,Nat.zero_add]
      rw[<-hK,Z7 (on S _ _ [2,3,4,10,11] (by decide) rfl) rfl _ _ _ _ _ _ _ _ _ rfl]
      simp only[eG,go_sem,Z2 S,Z1 S,zN0,zN1,zN2,zN3,zN4,zI0,zI1,zI2,zI3,reduceCtorEq,B8 S,Zv he,ZP S,wi k (by omega),h1,h2,ge_iff_le]
      have:=ih (k+1) fuel r.reverse ([y]++junk) none (by omega) (by omega) (by omega) (.inl rfl)
      rw[<-List.append_assoc] at this
      exact this
     ·simp at h
   ·simp only [eG, go_sem, Z2 S, Z1 S, zN0, zN1, zN2, zN3, zN4, zI0, zI1, zI2, zI3, reduceCtorEq, B8 S, Zv he, ZP S, wi k (by omega), h1, h2, ge_iff_le, k8, k9]
    rw[<-hK,Z7 (on S _ _ [2,3,4,10,11] (by decide) rfl) rfl _ _ _ _ _ _ _ _ _ rfl]
    simp only[eG,go_sem,Z2 S,Z1 S,zN0,zN1,zN2,zN3,zN4,zI0,zI1,zI2,zI3,reduceCtorEq,B8 S,Zv he,ZP S,wi k (by omega),h1,h2,ge_iff_le]
    exact ih (k+1) fuel out junk q (by omega) (by omega) ho hq
def Nv {α:Type}:Option α->Bool
 | some _=>true
 | none=>false
def GQ:Option (List Int)->List Int
 | some l=>l
 | none=>[]
theorem Zeq (dp:Nat)(p:Prog)(sk:List Int)(l:List Ent)(i:Int)(hl:l.length<1073741824)(hs:sk.length<1073741824):Z6 E fn (dp+2) 120 [ZD p,rD sk,rD l,vi i] (.tup [rD (GQ (Md.real p sk l i)),vb (Nv (Md.real p sk l i))]):=by
 unfold Z6
 show Zw (Z5 E fn (dp+1+1) 120 [.d (ZD p),.d (rD sk),.d (rD l),.d (vi i)] [])=_
 rw[ZU,S.XV,ZW,Z1e,ZY _ _ _ _ _ _ _ _ rfl]
 have fin:∀ X:Option (List Int),DV.tup [rD (GQ X),vb (Nv X)]=RB X:=fun X=>by cases X<;>rfl
 rw[fin]
 by_cases h0:sk.length=0
 ·have : sk = [] := List.length_eq_zero_iff.1 h0
  subst this
  simp only[eG,go_sem,Z2 S,Z1 S,zN0,zN1,zN2,zN3,zN4,zI0,zI1,zI2,zI3,reduceCtorEq,B8 S,YW]
  rw[Y2,Z7 (on S _ _ [2,3,4,10,11] (by decide) rfl) rfl _ _ _ _ _ _ _ _ _ rfl]
  simp only[eG,go_sem,Z2 S,Z1 S,zN0,zN1,zN2,zN3,zN4,zI0,zI1,zI2,zI3,reduceCtorEq,B8 S]
  refine Z4u S dp p l i hl _ ?_ (Md.cut l i).length 0 _ [] [] (some 0) (by omega) (by have:=HU l i;omega) (by simp) (.inr ⟨rfl,rfl,rfl⟩)
  intro T out junk k h
  simp only[go_sem,Z2 S,Z1 S,zN0,zN1,zN2,zN3,zN4,zI0,zI1,zI2,zI3,reduceCtorEq,B8 S,h]
  exact Z9y rfl
 ·have l1 : sk.length * 8 <= Z4 := by unfold Z4; omega
  have l2:sk.length<=Z4:=by unfold Z4;omega
  have l3:(((rC sk).map AV.d).all AV.one)=true:=MV _
  simp only[eG,go_sem,Z2 S,Z1 S,zN0,zN1,zN2,zN3,zN4,zI0,zI1,zI2,zI3,reduceCtorEq,B8 S,YW,CS (cs:=[]),l1,l2,l3,ne_eq,h0,not_false_eq_true]
  rw[Y2,Z7 (on S _ _ [2,3,4,10,11] (by decide) rfl) rfl _ _ _ _ _ _ _ _ _ rfl]
  simp only[eG,go_sem,Z2 S,Z1 S,zN0,zN1,zN2,zN3,zN4,zI0,zI1,zI2,zI3,reduceCtorEq,B8 S]
  have:=Z4u S dp p l i hl (K1 0 (cQ (Z3 [st 58 (oV (.t 10)),st 8 (oV (.t 58)),st 9 (oV (.c (.v (.bool true))))]) cZ (Zq E 120) (Z5 E fn (dp+1)) (Y0 0 [.tmp 8,.tmp 9]) (fun _ _ _=>none) (Y0 0 [.tmp 8,.tmp 9])) (fun _ _ _=>none)) ?_ (Md.cut l i).length 0 999999999999999999999999999999 sk [] none (by omega) (by have:=HU l i;omega) hs (.inl rfl)
  ·rw [List.append_nil] at this
   exact this
  intro T out junk k h
  simp only[go_sem,Z2 S,Z1 S,zN0,zN1,zN2,zN3,zN4,zI0,zI1,zI2,zI3,reduceCtorEq,B8 S,h]
  exact Z9y rfl
theorem JE (dp:Nat)(p_w p_wn p_fu p_r0 p_r1 p_r2 p_r3:Int)(p_ms:List MemT)(p_ls:List Label)(p_is:List Ins)(sk:List Int)(l:List Ent)(i:Int)(hl:l.length<1073741824)(hs:sk.length<1073741824)(A:List Blk)(nb:Nat):Y1 false E (Z5 E fn (dp+2)) 120 A nb (some ([.agg [vi p_w,vi p_wn,vi p_fu,vi p_r0,vi p_r1,vi p_r2,vi p_r3,rD p_ms,rD p_ls,rD p_is],rD sk,rD l,vi i],[]))=some (.made (.d (.tup [rD (GQ (Md.real (⟨p_w,p_wn,p_fu,⟨p_r0,p_r1,p_r2,p_r3⟩,p_ms,p_ls,p_is⟩:Prog) sk l i)),vb (Nv (Md.real (⟨p_w,p_wn,p_fu,⟨p_r0,p_r1,p_r2,p_r3⟩,p_ms,p_ls,p_is⟩:Prog) sk l i))])) []):=
 Z6.deep (Zeq S dp (⟨p_w,p_wn,p_fu,⟨p_r0,p_r1,p_r2,p_r3⟩,p_ms,p_ls,p_is⟩:Prog) sk l i hl hs) (np S 120 (by decide)) A nb
end
variable {E:Env} {fn:FuncId->Option (Env->cT->cT)}
section
variable (S:Sur E fn)
include S
theorem Zer (dp:Nat)(l:List Int)(x:Int)(hl:l.length<1073741823):Z6 E fn (dp+1) 121 [rD l,vi x] (rD (Md.push l x)):=by
 unfold Z6
 show Zw (Z5 E fn (dp+1) 121 [.d (rD l),.d (vi x)] [])=_
 rw[ZU,S.Z6s,ZW,Zb0,ZY _ _ _ _ _ _ _ _ rfl]
 by_cases h0:l.length=0
 ·have : l = [] := List.length_eq_zero_iff.1 h0
  subst this
  have bd:=Vx 1 .i64 0 (by omega) (by omega)
  have w1:max (IntKind.i64.wrap (((0+1:Nat):Int)-2)) 0=0:=by decide
  simp only[eG,go_sem,Z2 S,Z1 S,Nat.reduceLT,Nat.reduceEqDiff,Nat.reduceAdd,Nat.reduceMul,Nat.reduceLeDiff,Int.reduceEq,Int.reduceLT,Int.reduceLE,Int.reduceNeg,reduceCtorEq,YW,Z8,CS (cs:=[]),ne_eq,Nat.succ_ne_zero,not_false_eq_true,show(1:Nat)*8<=Z4 by decide,show(1:Nat)<=Z4 by decide,Int.natCast_one,Nat.zero_add,Int.reduceSub,show IntKind.i64.wrap (-1)= -1 by decide,show max (-1:Int) 0=0 by decide,bd,Int.toNat_zero,and_false,not_true_eq_false,false_and,Nat.zero_mul,Nat.sub_zero,Nat.add_zero,Md.push,List.drop_zero,Q6,Nat.one_mul,Nat.le_refl,Nat.zero_ne_one,Nat.one_ne_zero]
  rfl
 ·have l1 : l.length * 8 <= Z4 := by unfold Z4; omega
  have l2:l.length<=Z4:=by unfold Z4;omega
  have l3:(((rC l).map AV.d).all AV.one)=true:=MV _
  have l4:(l.length+1)*8<=Z4:=by unfold Z4;omega
  have l5:l.length+1<=Z4:=by unfold Z4;omega
  have w1:max (IntKind.i64.wrap (((l.length+1:Nat):Int)-2)) 0=((l.length-1:Nat):Int):=by rw[YX (by omega) (by omega)];omega
  have bd:=Vx (l.length+1) .i64 ((l.length-1:Nat):Int) (by omega) (by omega)
  have n1:¬(l.length-1=l.length+1):=by omega
  simp only[eG,go_sem,Z2 S,Z1 S,Nat.reduceLT,Nat.reduceEqDiff,Nat.reduceAdd,Nat.reduceMul,Nat.reduceLeDiff,Int.reduceEq,Int.reduceLT,Int.reduceLE,Int.reduceNeg,reduceCtorEq,YW,Z8,CS (cs:=[]),l1,l2,l3,ne_eq,h0,not_false_eq_true,Vv,l4,l5,w1,bd,Int.toNat_natCast,n1,false_and,Nat.mul_one,Nat.zero_add]
  have e1:l++[x]=(l++[x]).take (l.length-1)++((l++[x]).drop (l.length-1)++[]):=by rw[List.append_nil,List.take_append_drop]
  have hd:∀ j A,A[j]? =some (.cells ((rC (l++[x])).map .d) 0 false)->deep A 8 (.sref j 0 (l.length-1) (l.length+1-(l.length-1)) 1 none)=some (.lst (rC ((l++[x]).drop (l.length-1))) (l.length+1-(l.length-1)) none,[j]):=by
   intro j A hA
   refine PJ (pre:=(l++[x]).take (l.length-1)) (junk:=[]) (by rw[<-e1];exact hA) ?_ 6 _ _ _ _ rfl ?_ ?_
   ·intro h
    have:=congrArg List.length h
    simp at this
    omega
   ·simp[Zi7];omega
   ·simp
  have:=hd 0 [.cells ((rC (l++[x])).map .d) 0 false] rfl
  rw[this]
  have e2:l.length+1-(l.length-1)=(Md.push l x).length:=by simp[Md.push]
  rw[e2]
  rfl
theorem H5 (dp:Nat)(l:List Int)(x:Int)(hl:l.length<1073741823)(A:List Blk)(nb:Nat):Y1 false E (Z5 E fn (dp+1)) 121 A nb (some ([rD l,vi x],[]))=some (.made (.d (rD (Md.push l x))) []):=
 Z6.deep (Zer S dp l x hl) (np S 121 (by decide)) A nb
end
theorem XD {l:List Int}(h:l.length≠0):l[l.length-1]? =some (Md.GG l):=by
 unfold Md.GG
 rw[List.getLast?_eq_getElem?]
 obtain⟨e,he⟩:=QB (show l.length-1<l.length by omega)
 rw[he];rfl
theorem Xv {A:List Blk}{i:Nat}{b:Blk}(h:A[i]? =some b):¬A.length<=i:=by
 intro hl
 rw[List.getElem?_eq_none hl] at h
 cases h
theorem Zng {L:List Ent}{A:List Blk}{j v len:Nat}{k:Option Nat}{r0 r1 r2 r3 mm sk pc rb en x:DV}
  (hA:A[j]? =some (.cells ((rC L).map .d) v false)) (h0:L≠[]) (hl:len=L.length) (f0:[r0,r1,r2,r3,mm,sk,pc,rb,en].map (fk 2)=[r0,r1,r2,r3,mm,sk,pc,rb,en]) (fx:fk 3 x=x):
  Zw (CN 0 (some (.tup [.agg [.d r0,.d r1,.d r2,.d r3,.d mm,.d sk,.d pc,.sref j v 0 len 8 k,.d rb,.d en],.d x],A)))=some (.tup [.agg [r0,r1,r2,r3,mm,sk,pc,rD L,rb,en],x]):=by
 subst hl
 have hi:=Xv hA
 have hd:=DK L h0 L.length rfl 4 8 k rfl
 simp only[List.map_cons,List.map_nil,List.cons.injEq,and_true] at f0
 simp only[eG,go_sem,Nx,hA,hi,List.not_mem_nil,false_or,or_false,Nat.not_lt_zero,if_false,hd,f0,fx]
 rfl
theorem Znf {L:List Ent}{R:List Int}{A:List Blk}{j v len j2 v2 len2:Nat}{k k2:Option Nat}{r0 r1 r2 r3 mm sk pc en x:DV}
  (hA:A[j]? =some (.cells ((rC L).map .d) v false)) (h0:L≠[]) (hl:len=L.length) (hB:A[j2]? =some (.cells ((rC R).map .d) v2 false)) (h2:len2=R.length) (hj:j≠j2) (f0:[r0,r1,r2,r3,mm,sk,pc,en].map (fk 2)=[r0,r1,r2,r3,mm,sk,pc,en]) (fx:fk 3 x=x):
  Zw (CN 0 (some (.tup [.agg [.d r0,.d r1,.d r2,.d r3,.d mm,.d sk,.d pc,.sref j v 0 len 8 k,.sref j2 v2 0 len2 1 k2,.d en],.d x],A)))=some (.tup [.agg [r0,r1,r2,r3,mm,sk,pc,rD L,rD R,en],x]):=by
 subst hl h2
 have hi:=Xv hA
 have hi2:=Xv hB
 have hj':j2≠j:=fun e=>hj e.symm
 have hd:deep [.cells ((rC L).map .d) 0 false,.cells ((rC R).map .d) 0 false] 6 (.sref 0 0 0 L.length 8 k)=some (.lst (rC L) L.length k,[0]):=CP rfl h0 4 _ 8 k rfl rfl
 simp only[List.map_cons,List.map_nil,List.cons.injEq,and_true] at f0
 by_cases hR:R=[]
 ·subst hR
  simp only[eG,go_sem,Nx,hA,hB,hi,hi2,hj,hj',List.not_mem_nil,List.mem_cons,false_or,or_false,Nat.not_lt_zero,if_false,f0,fx] at hd ⊢
  simp only[hd,go_sem,f0,fx]
  rfl
 ·have hd2 : deep [.cells ((rC L).map .d) 0 false, .cells ((rC R).map .d) 0 false] 6 (.sref 1 0 0 R.length 1 k2) = some (.lst (rC R) R.length k2, [1]) := CP rfl hR 4 _ 1 k2 rfl rfl
  simp only[eG,go_sem,Nx,hA,hB,hi,hi2,hj,hj',List.not_mem_nil,List.mem_cons,false_or,or_false,Nat.not_lt_zero,if_false,hd,hd2,f0,fx]
  rfl
theorem Bv {l:List Ent}{e:Ent}{D:DV}{A:List Blk}{j v len:Nat}{k:Option Nat}{r0 r1 r2 r3 mm sk pc rb en x:DV}
  (hA:A[j]? =some (.cells ((rC (l++[e])).map .d) v false)) (hD:D=.tup [.agg [r0,r1,r2,r3,mm,sk,pc,rD (l++[e]),rb,en],x]) (f0:[r0,r1,r2,r3,mm,sk,pc,rb,en].map (fk 2)=[r0,r1,r2,r3,mm,sk,pc,rb,en]) (hl:len=(l++[e]).length) (fx:fk 3 x=x) (_:0=0):
  Zw (CN 0 (some (.tup [.agg [.d r0,.d r1,.d r2,.d r3,.d mm,.d sk,.d pc,.sref j v 0 len 8 k,.d rb,.d en],.d x],A)))=some D:=by
 rw[hD];exact Zng hA (by simp) hl f0 fx
theorem VA {l:List Ent}{e:Ent}{R:List Int}{D:DV}{A:List Blk}{j v len j2 v2 len2:Nat}{k k2:Option Nat}{r0 r1 r2 r3 mm sk pc en x:DV}
  (hA:A[j]? =some (.cells ((rC (l++[e])).map .d) v false)) (hB:A[j2]? =some (.cells ((rC R).map .d) v2 false)) (hD:D=.tup [.agg [r0,r1,r2,r3,mm,sk,pc,rD (l++[e]),rD R,en],x]) (hj:j≠j2) (hl:len=(l++[e]).length) (f0:[r0,r1,r2,r3,mm,sk,pc,en].map (fk 2)=[r0,r1,r2,r3,mm,sk,pc,en]) (fx:fk 3 x=x) (h2:len2=R.length:=by first | rfl | simp):
  Zw (CN 0 (some (.tup [.agg [.d r0,.d r1,.d r2,.d r3,.d mm,.d sk,.d pc,.sref j v 0 len 8 k,.sref j2 v2 0 len2 1 k2,.d en],.d x],A)))=some D:=by
 rw[hD];exact Znf hA (by simp) hl hB h2 hj f0 fx
def S8 (p:Prog)(c:Conf)(g:Int):Conf:=bif Md.DM p c g then Md.EC p c g else Md.JU
variable {E:Env} {fn:FuncId->Option (Env->cT->cT)}
section
variable (S:Sur E fn)
include S
theorem ER:E.lives 75 7=none/\E.lives 75 19=none/\E.lives 75 21=none/\E.lives 75 25=none/\E.lives 75 29=none/\E.lives 75 33=none/\E.lives 75 39=none/\E.lives 75 45=none/\E.lives 75 53=none/\E.lives 75 55=none:=⟨off S 75 7 (by decide) rfl,off S 75 19 (by decide) rfl,off S 75 21 (by decide) rfl,off S 75 25 (by decide) rfl,off S 75 29 (by decide) rfl,off S 75 33 (by decide) rfl,off S 75 39 (by decide) rfl,off S 75 45 (by decide) rfl,off S 75 53 (by decide) rfl,off S 75 55 (by decide) rfl⟩
theorem Zew (dp:Nat)(p:Prog)(c:Conf)(g:Int)(hi:p.ins.length<1073741824)(hb:c.buf.length<1073741823)(hs:c.state.stack.length<1073741824)(hr:c.rsb.length<1073741823):Z6 E fn (dp+3) 75 [ZD p,ZV c,vi g] (.tup [ZV (S8 p c g),vb (Md.DM p c g)]):=by
 unfold Z6
 show Zw (Z5 E fn (dp+2+1) 75 [.d (ZD p),.d (ZV c),.d (vi g)] [])=_
 rw[ZU,S.Z6x,ZW,Zb5,ZY _ _ _ _ _ _ _ _ rfl]
 have hb':c.buf.length<1073741824:=by omega
 by_cases g0:g<0
 ·simp only[eG,go_sem,Z2 S,Z1 S,zN0,zN1,zN2,zN3,zN4,zI0,zI1,zI2,zI3,reduceCtorEq,ER S,g0,S8,Md.DM,show ¬0<=g by omega,Md.JU]
 by_cases g1:g>=Md.YE p c
 ·simp only[eG,go_sem,Z2 S,Z1 S,zN0,zN1,zN2,zN3,zN4,zI0,zI1,zI2,zI3,reduceCtorEq,ER S,g0,g1,S8,Md.DM,show ¬g<Md.YE p c by omega,Md.JU,BN S,hi]
 have hc:Md.DM p c g=true:=by simp[Md.DM];omega
 unfold S8
 rw[hc,cond_true]
 by_cases h0:c.buf.length=0
 ·have hbn : c.buf = [] := List.length_eq_zero_iff.1 h0
  simp only[go_sem,Z2 S,Z1 S,zN0,zN1,zN2,zN3,zN4,zI0,zI1,zI2,zI3,reduceCtorEq,ER S,g0,g1,BN S,hi,ZP S,JE S,H5 S,hb,hb',hs,hr,YW,Z8,show(1:Nat)*48<=Z4 by decide,show(1:Nat)<=Z4 by decide,ne_eq,not_false_eq_true,Nat.one_ne_zero,Md.YC,Md.EC,Md.A8,if_true,if_false,F4,CS (cs:=[]),false_and,and_false,h0]
  by_cases k5:(Md.at_ p c.state.pc).kind=5
  ·by_cases hg : g = 1
   ·simp only [k5, hg, decide_true, decide_false, cond_true, cond_false, if_true, if_false, zI0, or_self, or_true, true_or]
    rw[hbn]
    refine Bv (l:=[]) ?_ rfl rfl ?_ rfl rfl
    ·rfl
    ·first | rfl | simp
   ·simp only [k5, hg, decide_true, decide_false, cond_true, cond_false, if_true, if_false, zI0, or_self, or_true, true_or]
    rw[hbn]
    refine Bv (l:=[]) ?_ rfl rfl ?_ rfl rfl
    ·rfl
    ·first | rfl | simp
  by_cases k6:(Md.at_ p c.state.pc).kind=6
  ·simp only [k6, decide_true, decide_false, cond_true, cond_false, if_true, if_false, zI0, or_self, or_true, true_or]
   rw[hbn]
   refine Bv (l:=[]) ?_ rfl rfl ?_ rfl rfl
   ·rfl
   ·first | rfl | simp
  by_cases k7:(Md.at_ p c.state.pc).kind=7
  ·simp only [k7, decide_true, decide_false, cond_true, cond_false, if_true, if_false, zI0, or_self, or_true, true_or]
   rw[hbn]
   refine Bv (l:=[]) ?_ rfl rfl ?_ rfl rfl
   ·rfl
   ·first | rfl | simp
  by_cases k9:(Md.at_ p c.state.pc).kind=9
  ·by_cases hz : c.rsb.length = 0
   ·simp only [k9, hz, decide_true, decide_false, cond_true, cond_false, if_true, if_false, zI0, or_self, or_true, true_or, show ¬ ((0 : Nat) : Int) > 0 by omega]
    rw[hbn]
    refine Bv (l:=[]) ?_ rfl rfl ?_ rfl rfl
    ·rfl
    ·first | rfl | simp
   ·have w2 : IntKind.i64.wrap ((c.rsb.length : Int) - 1) = ((c.rsb.length - 1 : Nat) : Int) := by rw [YX (by omega) (by omega)]; omega
    have bd:=HZ c.rsb.length .i64 ((c.rsb.length-1:Nat):Int) (by omega) (by omega)
    have hlast:=XD hz
    have hdl:c.rsb.take (c.rsb.length-1)=c.rsb.dropLast:=List.dropLast_eq_take.symm
    simp only[k9,hz,decide_true,decide_false,cond_true,cond_false,if_true,if_false,zI0,or_self,or_true,true_or,show(c.rsb.length:Int)>0 by omega]
    by_cases hq:c.rsb.dropLast.length=0
    ·have hq2 : c.rsb.dropLast = [] := List.length_eq_zero_iff.1 hq
     simp only[go_sem,Z2 S,Z1 S,zN0,zN1,zN2,zN3,zN4,zI0,zI1,zI2,zI3,reduceCtorEq,ER S,g0,g1,BN S,hi,ZP S,JE S,H5 S,hb,hb',hs,hr,YW,Z8,show(1:Nat)*48<=Z4 by decide,show(1:Nat)<=Z4 by decide,ne_eq,not_false_eq_true,Nat.one_ne_zero,Md.YC,Md.EC,Md.A8,if_true,if_false,F4,CS (cs:=[]),false_and,and_false,h0,w2,bd,Zv hlast,Int.toNat_natCast,List.drop_zero,Nat.sub_zero,hdl,hq2]
     rw[hbn]
     refine VA (l:=[]) (R:=[]) ?_ ?_ rfl ?_ ?_ rfl rfl ?_
     ·rfl
     ·rfl
     ·decide
     ·first | rfl | simp
     ·first | rfl | simp
    ·have q1 : c.rsb.dropLast.length * 8 <= Z4 := by unfold Z4; simp; omega
     have q2:c.rsb.dropLast.length<=Z4:=by unfold Z4;simp;omega
     have q3:(((rC c.rsb.dropLast).map AV.d).all AV.one)=true:=MV _
     simp only[go_sem,Z2 S,Z1 S,zN0,zN1,zN2,zN3,zN4,zI0,zI1,zI2,zI3,reduceCtorEq,ER S,g0,g1,BN S,hi,ZP S,JE S,H5 S,hb,hb',hs,hr,YW,Z8,show(1:Nat)*48<=Z4 by decide,show(1:Nat)<=Z4 by decide,ne_eq,not_false_eq_true,Nat.one_ne_zero,Md.YC,Md.EC,Md.A8,if_true,if_false,F4,CS (cs:=[]),false_and,and_false,h0,w2,bd,Zv hlast,Int.toNat_natCast,List.drop_zero,Nat.sub_zero,hdl,hq,q1,q2,q3]
     rw[hbn]
     refine VA (l:=[]) (R:=c.rsb.dropLast) ?_ ?_ rfl ?_ ?_ rfl rfl ?_
     ·rfl
     ·rfl
     ·decide
     ·first | rfl | simp
     ·first | rfl | simp
  by_cases k8:(Md.at_ p c.state.pc).kind=8
  ·simp only [k8, decide_true, decide_false, cond_true, cond_false, if_true, if_false, zI0, or_self, or_true, true_or]
   cases hreal:Md.real p c.state.stack c.buf c.buf.length with
   | none=>
    rw[h0] at hreal
    have hr4:=hreal
    simp only[go_sem,Z2 S,Z1 S,zN0,zN1,zN2,zN3,zN4,zI0,zI1,zI2,zI3,reduceCtorEq,ER S,g0,g1,BN S,hi,ZP S,JE S,H5 S,hb,hb',hs,hr,YW,Z8,show(1:Nat)*48<=Z4 by decide,show(1:Nat)<=Z4 by decide,ne_eq,not_false_eq_true,Nat.one_ne_zero,Md.YC,Md.EC,Md.A8,if_true,if_false,F4,CS (cs:=[]),false_and,and_false,h0,hreal,GQ,Nv,hr4]
    rw[hbn]
    refine Bv (l:=[]) ?_ rfl rfl ?_ rfl rfl
    ·rfl
    ·first | rfl | simp
   | some r=>
    have hr4:decide ((r.length:Int)>=4)=decide (4<=r.length):=decide_eq_decide.2 (by omega)
    rw[h0] at hreal
    simp only[go_sem,Z2 S,Z1 S,zN0,zN1,zN2,zN3,zN4,zI0,zI1,zI2,zI3,reduceCtorEq,ER S,g0,g1,BN S,hi,ZP S,JE S,H5 S,hb,hb',hs,hr,YW,Z8,show(1:Nat)*48<=Z4 by decide,show(1:Nat)<=Z4 by decide,ne_eq,not_false_eq_true,Nat.one_ne_zero,Md.YC,Md.EC,Md.A8,if_true,if_false,F4,CS (cs:=[]),false_and,and_false,h0,hreal,GQ,Nv,hr4]
    rw[hbn]
    refine Bv (l:=[]) ?_ rfl rfl ?_ rfl rfl
    ·rfl
    ·first | rfl | simp
  by_cases k11:(Md.at_ p c.state.pc).kind=11
  ·simp only [k11, decide_true, decide_false, cond_true, cond_false, if_true, if_false, zI0, or_self, or_true, true_or]
   rw[hbn]
   refine Bv (l:=[]) ?_ rfl rfl ?_ rfl rfl
   ·rfl
   ·first | rfl | simp
  by_cases k12:(Md.at_ p c.state.pc).kind=12
  ·simp only [k12, decide_true, decide_false, cond_true, cond_false, if_true, if_false, zI0, or_self, or_true, true_or]
   rw[hbn]
   refine Bv (l:=[]) ?_ rfl rfl ?_ rfl rfl
   ·rfl
   ·first | rfl | simp
  ·simp only [k5, k6, k7, k8, k9, k11, k12, decide_true, decide_false, cond_true, cond_false, if_true, if_false, zI0, or_self, or_true, true_or]
   rw[hbn]
   refine Bv (l:=[]) ?_ rfl rfl ?_ rfl rfl
   ·rfl
   ·first | rfl | simp
 ·have l1 : c.buf.length * 48 <= Z4 := by unfold Z4; omega
  have l2:c.buf.length<=Z4:=by unfold Z4;omega
  have l3:(((rC c.buf).map AV.d).all AV.one)=true:=MV _
  have l4:(c.buf.length+1)*48<=Z4:=by unfold Z4;omega
  have l5:c.buf.length+1<=Z4:=by unfold Z4;omega
  simp only[go_sem,Z2 S,Z1 S,zN0,zN1,zN2,zN3,zN4,zI0,zI1,zI2,zI3,reduceCtorEq,ER S,g0,g1,BN S,hi,ZP S,JE S,H5 S,hb,hb',hs,hr,YW,Z8,show(1:Nat)*48<=Z4 by decide,show(1:Nat)<=Z4 by decide,ne_eq,not_false_eq_true,Nat.one_ne_zero,Md.YC,Md.EC,Md.A8,if_true,if_false,F4,CS (cs:=[]),false_and,and_false,h0,l1,l2,l3,l4,l5]
  by_cases k5:(Md.at_ p c.state.pc).kind=5
  ·by_cases hg : g = 1
   ·simp only [k5, hg, decide_true, decide_false, cond_true, cond_false, if_true, if_false, zI0, or_self, or_true, true_or]
    refine Bv (l:=c.buf) ?_ rfl rfl ?_ rfl rfl
    ·rfl
    ·first | rfl | simp
   ·simp only [k5, hg, decide_true, decide_false, cond_true, cond_false, if_true, if_false, zI0, or_self, or_true, true_or]
    refine Bv (l:=c.buf) ?_ rfl rfl ?_ rfl rfl
    ·rfl
    ·first | rfl | simp
  by_cases k6:(Md.at_ p c.state.pc).kind=6
  ·simp only [k6, decide_true, decide_false, cond_true, cond_false, if_true, if_false, zI0, or_self, or_true, true_or]
   refine Bv (l:=c.buf) ?_ rfl rfl ?_ rfl rfl
   ·rfl
   ·first | rfl | simp
  by_cases k7:(Md.at_ p c.state.pc).kind=7
  ·simp only [k7, decide_true, decide_false, cond_true, cond_false, if_true, if_false, zI0, or_self, or_true, true_or]
   refine Bv (l:=c.buf) ?_ rfl rfl ?_ rfl rfl
   ·rfl
   ·first | rfl | simp
  by_cases k9:(Md.at_ p c.state.pc).kind=9
  ·by_cases hz : c.rsb.length = 0
   ·simp only [k9, hz, decide_true, decide_false, cond_true, cond_false, if_true, if_false, zI0, or_self, or_true, true_or, show ¬ ((0 : Nat) : Int) > 0 by omega]
    refine Bv (l:=c.buf) ?_ rfl rfl ?_ rfl rfl
    ·rfl
    ·first | rfl | simp
   ·have w2 : IntKind.i64.wrap ((c.rsb.length : Int) - 1) = ((c.rsb.length - 1 : Nat) : Int) := by rw [YX (by omega) (by omega)]; omega
    have bd:=HZ c.rsb.length .i64 ((c.rsb.length-1:Nat):Int) (by omega) (by omega)
    have hlast:=XD hz
    have hdl:c.rsb.take (c.rsb.length-1)=c.rsb.dropLast:=List.dropLast_eq_take.symm
    simp only[k9,hz,decide_true,decide_false,cond_true,cond_false,if_true,if_false,zI0,or_self,or_true,true_or,show(c.rsb.length:Int)>0 by omega]
    by_cases hq:c.rsb.dropLast.length=0
    ·have hq2 : c.rsb.dropLast = [] := List.length_eq_zero_iff.1 hq
     simp only[go_sem,Z2 S,Z1 S,zN0,zN1,zN2,zN3,zN4,zI0,zI1,zI2,zI3,reduceCtorEq,ER S,g0,g1,BN S,hi,ZP S,JE S,H5 S,hb,hb',hs,hr,YW,Z8,show(1:Nat)*48<=Z4 by decide,show(1:Nat)<=Z4 by decide,ne_eq,not_false_eq_true,Nat.one_ne_zero,Md.YC,Md.EC,Md.A8,if_true,if_false,F4,CS (cs:=[]),false_and,and_false,h0,l1,l2,l3,l4,l5,w2,bd,Zv hlast,Int.toNat_natCast,List.drop_zero,Nat.sub_zero,hdl,hq2]
     refine VA (l:=c.buf) (R:=[]) ?_ ?_ rfl ?_ ?_ rfl rfl ?_
     ·rfl
     ·rfl
     ·decide
     ·first | rfl | simp
     ·first | rfl | simp
    ·have q1 : c.rsb.dropLast.length * 8 <= Z4 := by unfold Z4; simp; omega
     have q2:c.rsb.dropLast.length<=Z4:=by unfold Z4;simp;omega
     have q3:(((rC c.rsb.dropLast).map AV.d).all AV.one)=true:=MV _
     simp only[go_sem,Z2 S,Z1 S,zN0,zN1,zN2,zN3,zN4,zI0,zI1,zI2,zI3,reduceCtorEq,ER S,g0,g1,BN S,hi,ZP S,JE S,H5 S,hb,hb',hs,hr,YW,Z8,show(1:Nat)*48<=Z4 by decide,show(1:Nat)<=Z4 by decide,ne_eq,not_false_eq_true,Nat.one_ne_zero,Md.YC,Md.EC,Md.A8,if_true,if_false,F4,CS (cs:=[]),false_and,and_false,h0,l1,l2,l3,l4,l5,w2,bd,Zv hlast,Int.toNat_natCast,List.drop_zero,Nat.sub_zero,hdl,hq,q1,q2,q3]
     refine VA (l:=c.buf) (R:=c.rsb.dropLast) ?_ ?_ rfl ?_ ?_ rfl rfl ?_
     ·rfl
     ·rfl
     ·decide
     ·first | rfl | simp
     ·first | rfl | simp
  by_cases k8:(Md.at_ p c.state.pc).kind=8
  ·simp only [k8, decide_true, decide_false, cond_true, cond_false, if_true, if_false, zI0, or_self, or_true, true_or]
   cases hreal:Md.real p c.state.stack c.buf c.buf.length with
   | none=>
    have hr4:=hreal
    simp only[go_sem,Z2 S,Z1 S,zN0,zN1,zN2,zN3,zN4,zI0,zI1,zI2,zI3,reduceCtorEq,ER S,g0,g1,BN S,hi,ZP S,JE S,H5 S,hb,hb',hs,hr,YW,Z8,show(1:Nat)*48<=Z4 by decide,show(1:Nat)<=Z4 by decide,ne_eq,not_false_eq_true,Nat.one_ne_zero,Md.YC,Md.EC,Md.A8,if_true,if_false,F4,CS (cs:=[]),false_and,and_false,h0,l1,l2,l3,l4,l5,hreal,GQ,Nv,hr4]
    refine Bv (l:=c.buf) ?_ rfl rfl ?_ rfl rfl
    ·rfl
    ·first | rfl | simp
   | some r=>
    have hr4:decide ((r.length:Int)>=4)=decide (4<=r.length):=decide_eq_decide.2 (by omega)
    simp only[go_sem,Z2 S,Z1 S,zN0,zN1,zN2,zN3,zN4,zI0,zI1,zI2,zI3,reduceCtorEq,ER S,g0,g1,BN S,hi,ZP S,JE S,H5 S,hb,hb',hs,hr,YW,Z8,show(1:Nat)*48<=Z4 by decide,show(1:Nat)<=Z4 by decide,ne_eq,not_false_eq_true,Nat.one_ne_zero,Md.YC,Md.EC,Md.A8,if_true,if_false,F4,CS (cs:=[]),false_and,and_false,h0,l1,l2,l3,l4,l5,hreal,GQ,Nv,hr4]
    refine Bv (l:=c.buf) ?_ rfl rfl ?_ rfl rfl
    ·rfl
    ·first | rfl | simp
  by_cases k11:(Md.at_ p c.state.pc).kind=11
  ·simp only [k11, decide_true, decide_false, cond_true, cond_false, if_true, if_false, zI0, or_self, or_true, true_or]
   refine Bv (l:=c.buf) ?_ rfl rfl ?_ rfl rfl
   ·rfl
   ·first | rfl | simp
  by_cases k12:(Md.at_ p c.state.pc).kind=12
  ·simp only [k12, decide_true, decide_false, cond_true, cond_false, if_true, if_false, zI0, or_self, or_true, true_or]
   refine Bv (l:=c.buf) ?_ rfl rfl ?_ rfl rfl
   ·rfl
   ·first | rfl | simp
  ·simp only [k5, k6, k7, k8, k9, k11, k12, decide_true, decide_false, cond_true, cond_false, if_true, if_false, zI0, or_self, or_true, true_or]
   refine Bv (l:=c.buf) ?_ rfl rfl ?_ rfl rfl
   ·rfl
   ·first | rfl | simp
end
end Go.Aug.Mc
