import Derived.Test.YtogckbgcldmaeaaMc11
import Derived.Test.YtogckbgcldmaeaaMc33
import Derived.Test.YtogckbgcldmaeaaMc14
import Derived.Test.YtogckbgcldmaeaaMc5
namespace Go.Aug.Mc
open Go Go.Aug
set_option linter.unusedSimpArgs false
set_option linter.unusedVariables false
set_option maxHeartbeats 40000000
set_option maxRecDepth 200000
theorem app_endD {A:List Blk}{bytes j v:Nat}{out:List Dir}{a b:Int}(hA:A[j]? =some (.cells ((rowC out).map .d) v false))(h1:(out.length+1)*bytes<=limA)(h2:out.length+1<=limA):
  evApp A 2 bytes (.sref j v 0 out.length 2 none) [.d (vi a),.d (vi b)] 1=some (.turn j (.cells ((rowC (out++[⟨a,b⟩])).map .d) (v+1) false) (.sref j (v+1) 0 (out.length+1) 2 none)):=
 app_end (x:=(⟨a,b⟩:Dir)) hA rfl (by decide) rfl h1 h2
theorem nc2 (A:List Blk)(x y:DV)(k:Option Nat):newCells A false 2 (.d (.lst [x,y] 1 k))=some ([.d x,.d y],1):=rfl
theorem l16:(1:Nat)*16<=limA:=by decide
theorem l16':(16:Nat)<=limA:=by decide
theorem l1n:(1:Nat)<=limA:=by decide
theorem ne_app {α:Type}(o:List α)(x:α):(o++[x]).length≠0:=by simp
theorem range_map (n:Int):(List.range' 0 n.toNat)=List.range n.toNat:=by rw[List.range_eq_range']
variable {E:Env} {fn:FuncId->Option (Env->CallT->CallT)}
section
variable (S:Sur E fn)
include S
end
def sayC (N:Int)(p:Prog)(c:Conf)(d:Dir):Conf×List Obs:=bif Md.canSay N p c d then Md.say N p c d else(Md.conf0,[])
variable {E:Env} {fn:FuncId->Option (Env->CallT->CallT)}
section
variable (S:Sur E fn)
include S
end
end Go.Aug.Mc
namespace Go.Aug.Md
open Go Go.Aug
theorem iand_low (a:Int)(k:Nat)(hk:k<=62):∃ r:Nat,r<2^k/\iand a ((2^k-1:Nat):Int)=r:=by
 obtain⟨r,h1,h2⟩:=mask_of a k hk
 refine⟨r,h1,?_⟩
 have:evInt .and .i64 a ((2^k-1:Nat):Int)=some (.int .i64 (iand a ((2^k-1:Nat):Int))):=rfl
 rw[this] at h2
 simpa using h2
theorem iand1 (a:Int):∃ r:Nat,r<2/\iand a 1=r:=iand_low a 1 (by decide)
theorem iand3 (a:Int):∃ r:Nat,r<4/\iand a 3=r:=iand_low a 2 (by decide)
theorem iand255 (a:Int):∃ r:Nat,r<256/\iand a 255=r:=iand_low a 8 (by decide)
def kM (l:List Int)(i:Int):Int:=(l[i.toNat]?).getD i
def shi (x:Int)(n:Nat):Int:=x.fdiv (2^n)
def lowmod (x:Int)(n:Nat):Nat:=(iand x 255).toNat%n
theorem lowmod_eq (x:Int)(n:Nat):(iand x 255).tmod (n:Int)=(lowmod x n:Nat):=by
 obtain⟨r,_,h⟩:=iand255 x
 rw[lowmod,h,Int.toNat_natCast,<-Int.ofNat_tmod]
theorem lowmod_lt (x:Int){n:Nat}(h:0<n):lowmod x n<n:=Nat.mod_lt _ h
def v0:Val:=⟨false,0⟩
def valN (n:Int):Val:=if iand n 4=0 then⟨false,iand n 3⟩ else⟨true,iand n 3⟩
def k18:List Int:=[1,1,2,2,2,3,3,4,5,5,5,6,7,8,9,10,11,1]
def o4:List Int:=[9,10,3,2]
def insN (x:Int)(n:Nat):Ins:=
 let k:=k18.getD (lowmod x 18) 0
 let a:=valN (shi x 8)
 let b:=valN (shi x 11)
 let d:=iand (shi x 14) 3
 let t:Int:=lowmod (shi x 18) (n+1)
 if k=1 then⟨1,lowmod (shi x 16) 10+1,d,a,b,⟨#[]⟩,0⟩
 else if k=2∨k=3∨k=4 then⟨k,0,d,a,b,⟨#[]⟩,0⟩
 else if k=5 then⟨5,o4.getD (iand (shi x 16) 3).toNat 0,0,a,b,⟨#[]⟩,t⟩
 else if k=6∨k=8 then⟨k,0,0,v0,v0,⟨#[]⟩,t⟩
 else if k=7 then⟨7,0,0,a,v0,⟨#[]⟩,0⟩
 else⟨k,0,0,v0,v0,⟨#[]⟩,0⟩
def r4:List Int:=[0,0,1,2]
def rawR (l:List Int)(n:Nat):Int:=r4.getD (iand (shi (kM l 1) n) 3).toNat 0
abbrev w64' (x:Int):Int:=IntKind.i64.wrap x
def regStep (W pub sec r:Int):Int×Int×Int:=
 if r=1/\w64' (pub+W)<=2 then(r,w64' (pub+W),sec) else if r=2/\w64' (sec+W)<=2 then(r,pub,w64' (sec+W)) else(0,pub,sec)
def reg0 (l:List Int)(W:Int):=regStep W 0 0 (rawR l 0)
def reg1 (l:List Int)(W:Int):=regStep W (reg0 l W).2.1 (reg0 l W).2.2 (rawR l 2)
def reg2 (l:List Int)(W:Int):=regStep W (reg1 l W).2.1 (reg1 l W).2.2 (rawR l 4)
def reg3 (l:List Int)(W:Int):=regStep W (reg2 l W).2.1 (reg2 l W).2.2 (rawR l 6)
def mem1 (l:List Int)(W:Int):List MemT:=if 0<iand (shi (kM l 1) 8) 3 then[⟨⟨#[109]⟩,false,if W=1/\iand (shi (kM l 1) 10) 3=0 then 2 else 1⟩] else[]
def memsM (l:List Int)(W:Int):List MemT:=
 if 0<iand (shi (kM l 1) 12) 3/\w64' ((reg3 l W).2.2+W)<=3/\(mem1 l W=[]∨(mem1 l W).map MemT.n=[1]) then mem1 l W++[⟨⟨#[115]⟩,true,1⟩] else mem1 l W
def dig (n:Nat):ByteArray:=⟨#[(48+n).toUInt8]⟩
def labM (n:Nat):Label:=⟨⟨#[108,(48+n).toUInt8]⟩,n⟩
def nM (l:List Int):Nat:=(iand (shi (kM l 0) 12) 3).toNat+2
def widM (l:List Int):Int:=iand (kM l 0) 1+1
def make (l:List Int):Prog:=
 ⟨widM l, lowmod (shi (kM l 0) 1) 3 + 1, 6, ⟨(reg0 l (widM l)).1, (reg1 l (widM l)).1, (reg2 l (widM l)).1, (reg3 l (widM l)).1⟩,
  memsM l (widM l),(List.range (nM l+1)).map labM,(List.range (nM l)).map fun i:Nat=>insN (kM l (i+2)) (nM l)⟩
end Go.Aug.Md
