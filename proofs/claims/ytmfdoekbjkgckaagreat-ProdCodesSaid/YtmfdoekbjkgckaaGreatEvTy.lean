import Derived.Test.YtmfdoekbjkgckaaGreatEvX
namespace Go.Aug
open Go
abbrev vi (n:Int):DV:=.v (.int .i64 n)
abbrev vb (b:Bool):DV:=.v (.bool b)
abbrev vt (s:ByteArray):DV:=.v (.string s)
structure Val where
 reg:Bool
 n:Int
 deriving DecidableEq,Inhabited
structure Ins where
 kind:Int
 op:Int
 d:Int
 a:Val
 b:Val
 name:ByteArray
 target:Int
 deriving DecidableEq,Inhabited
structure MemT where
 name:ByteArray
 secret:Bool
 n:Int
 deriving DecidableEq,Inhabited
structure Label where
 name:ByteArray
 at_:Int
 deriving DecidableEq,Inhabited
structure Regs where
 r0:Int
 r1:Int
 r2:Int
 r3:Int
 deriving DecidableEq,Inhabited
structure Prog where
 w:Int
 window:Int
 fuel:Int
 regs:Regs
 mems:List MemT
 labels:List Label
 ins:List Ins
 deriving DecidableEq,Inhabited
structure Place where
 reg:Bool
 n:Int
 secret:Bool
 deriving DecidableEq,Inhabited
structure State where
 regs:Regs
 mem:List Int
 stack:List Int
 pc:Int
 deriving DecidableEq,Inhabited
structure Obs where
 kind:Int
 at_:Int
 deriving DecidableEq,Inhabited
structure Ent where
 pc:Int
 val:Int
 addr:Int
 frm:Int
 next:Int
 done:Bool
 known:Bool
 fault:Bool
 deriving DecidableEq,Inhabited
structure Conf where
 state:State
 buf:List Ent
 rsb:List Int
 end_:Int
 deriving DecidableEq,Inhabited
structure Dir where
 kind:Int
 n:Int
 deriving DecidableEq,Inhabited
instance:Cl Int:=⟨1,fun n=>[vi n],fun _=>rfl⟩
instance:Cl Val:=⟨2,fun v=>[vb v.reg,vi v.n],fun _=>rfl⟩
instance:Cl Ins:=⟨9,fun i=>[vi i.kind,vi i.op,vi i.d,vb i.a.reg,vi i.a.n,vb i.b.reg,vi i.b.n,vt i.name,vi i.target],fun _=>rfl⟩
instance:Cl MemT:=⟨3,fun m=>[vt m.name,vb m.secret,vi m.n],fun _=>rfl⟩
instance:Cl Label:=⟨2,fun l=>[vt l.name,vi l.at_],fun _=>rfl⟩
instance:Cl Place:=⟨3,fun p=>[vb p.reg,vi p.n,vb p.secret],fun _=>rfl⟩
instance:Cl Obs:=⟨2,fun o=>[vi o.kind,vi o.at_],fun _=>rfl⟩
instance:Cl Ent:=⟨8,fun e=>[vi e.pc,vi e.val,vi e.addr,vi e.frm,vi e.next,vb e.done,vb e.known,vb e.fault],fun _=>rfl⟩
instance:Cl Dir:=⟨2,fun d=>[vi d.kind,vi d.n],fun _=>rfl⟩
def KY (r:Regs):List DV:=[vi r.r0,vi r.r1,vi r.r2,vi r.r3]
def YH (p:Prog):List DV:=[vi p.w,vi p.window,vi p.fuel,vi p.regs.r0,vi p.regs.r1,vi p.regs.r2,vi p.regs.r3,rD p.mems,rD p.labels,rD p.ins]
def P8 (s:State):List DV:=[vi s.regs.r0,vi s.regs.r1,vi s.regs.r2,vi s.regs.r3,rD s.mem,rD s.stack,vi s.pc]
def QU (c:Conf):List DV:=[vi c.state.regs.r0,vi c.state.regs.r1,vi c.state.regs.r2,vi c.state.regs.r3,rD c.state.mem,rD c.state.stack,vi c.state.pc,rD c.buf,rD c.rsb,vi c.end_]
def ZP (p:Prog):DV:=.agg (YH p)
def JD (s:State):DV:=.agg (P8 s)
def ZY (c:Conf):DV:=.agg (QU c)
theorem Zhr (n:Int):Cl.cells n=[vi n]:=id rfl
theorem Zhs (i:Ins):Cl.cells i=[vi i.kind,vi i.op,vi i.d,vb i.a.reg,vi i.a.n,vb i.b.reg,vi i.b.n,vt i.name,vi i.target]:=id rfl
theorem Zhp (m:MemT):Cl.cells m=[vt m.name,vb m.secret,vi m.n]:=id rfl
theorem Zhq (l:Label):Cl.cells l=[vt l.name,vi l.at_]:=id rfl
theorem Zhn (p:Place):Cl.cells p=[vb p.reg,vi p.n,vb p.secret]:=id rfl
theorem Zho (o:Obs):Cl.cells o=[vi o.kind,vi o.at_]:=id rfl
theorem Z6k (e:Ent):Cl.cells e=[vi e.pc,vi e.val,vi e.addr,vi e.frm,vi e.next,vb e.done,vb e.known,vb e.fault]:=id rfl
theorem Zht (d:Dir):Cl.cells d=[vi d.kind,vi d.n]:=id rfl
end Go.Aug
