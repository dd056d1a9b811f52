import Derived.Test.YthnhboimcidhgaaDoorEvX
import Derived.Test.YthnhboimcidhgaaDoorEvV
import Derived.Test.YthnhboimcidhgaaDoorProg
import Derived.Lib.Join
import Derived.KernelRfl
namespace Go.Aug
open Go
def bindT (k:K):Option (AV×List Blk)->Ans
 | some (.tup tm,A)=>k tm A
 | _=>none
theorem steps_k (E:Env)(call:CallT):∀(l:List Stp) (k:K) (tm:List AV) (A:List Blk),steps E call l k tm A=bindT k (steps E call l endTup tm A)
 | [],k,tm,A=>rfl
 | s::l,k,tm,A=>by
  simp only[steps]
  cases hw:wantA tm s.guard with
  | none=>rfl
  | some b=>
   cases b with
   | false=>exact steps_k E call l k _ _
   | true=>
    simp only[stepW]
    cases hd:s.op E call tm A A.length with
    | none=>rfl
    | some d=>
     cases d with
     | made x bs=>exact steps_k E call l k _ _
     | turned x A1=>exact steps_k E call l k _ _
theorem steps_app (E:Env)(call:CallT)(l2:List Stp)(k:K):∀ l1:List Stp,steps E call (l1++l2) k=steps E call l1 (steps E call l2 k)
 | []=>rfl
 | s::l=>by funext tm A;simp only[List.cons_append,steps,steps_app E call l2 k l]
end Go.Aug
namespace Go.Proofs.YthnhboimcidhgaaDoor.scriForms
open Go Go.Aug
set_option maxRecDepth 10000000
set_option linter.unusedVariables false
def strsOf:List DV->List ByteArray
 | []=>[]
 | .v (.string s)::l=>s::strsOf l
 | _::l=>strsOf l
def joinG:List DV->Option (AV×List Blk)
 | [.lst cs len _,.v (.string sep)]=>if cs.length=(strsOf cs).length/\len=cs.length/\cs.length<=140737488355328/\(Lib.join ((strsOf cs).map (·.data.toList)) sep.data.toList).length<=281474976710656 then some (.d (.v (.string ⟨(Lib.join ((strsOf cs).map (·.data.toList)) sep.data.toList).toArray⟩)),[]) else none
 | _=>none
def env:Env:={ br:=[106],th:=[],prim:=fun f=>if f=26 then some joinG else none,back:=fun _=>none }
def lA:List Stp:=[st 2 (oV (.c (.v (.bool false))))]
def lB:List Stp:=[st 13 (oBuild [zt,zi,zb] [(0,1,(.c (.v (.string ⟨#[]⟩)))),(1,1,(ci 0)),(2,1,(.c (.v (.bool true))))]),st 14 (oBuild [zt,zi,zb] [(0,1,(.c (.v (.string ⟨#[32,32,32]⟩)))),(1,1,(ci 0)),(2,1,(.c (.v (.bool true))))]),st 15 (oBuild [zt,zi,zb] [(0,1,(.c (.v (.string ⟨#[99]⟩)))),(1,1,(ci 1)),(2,1,(.c (.v (.bool true))))]),st 16 (oBuild [zt,zi,zb] [(0,1,(.c (.v (.string ⟨#[102,32,48]⟩)))),(1,1,(ci 1)),(2,1,(.c (.v (.bool true))))]),st 17 (oBuild [zt,zi,zb] [(0,1,(.c (.v (.string ⟨#[102,48]⟩)))),(1,1,(ci 1)),(2,1,(.c (.v (.bool true))))]),st 18 (oBuild [zt,zi,zb] [(0,1,(.c (.v (.string ⟨#[32,102,32,32,49,50,32,59,120,32,57,57,57,59,97,32,48,59,99,32]⟩)))),(1,1,(ci 4)),(2,1,(.c (.v (.bool true))))]),st 19 (oBuild [zt,zi,zb] [(0,1,(.c (.v (.string ⟨#[99,59,99,59,99]⟩)))),(1,1,(ci 3)),(2,1,(.c (.v (.bool true))))]),st 20 (oBuild [zt,zi,zb] [(0,1,(.c (.v (.string ⟨#[102]⟩)))),(1,1,(ci 1)),(2,1,(.c (.v (.bool false))))]),st 21 (oBuild [zt,zi,zb] [(0,1,(.c (.v (.string ⟨#[102,32]⟩)))),(1,1,(ci 2)),(2,1,(.c (.v (.bool false))))]),st 22 (oBuild [zt,zi,zb] [(0,1,(.c (.v (.string ⟨#[102,32,49,48,48,48]⟩)))),(1,1,(ci 5)),(2,1,(.c (.v (.bool false))))]),st 23 (oBuild [zt,zi,zb] [(0,1,(.c (.v (.string ⟨#[102,32,48,49]⟩)))),(1,1,(ci 3)),(2,1,(.c (.v (.bool false))))]),st 24 (oBuild [zt,zi,zb] [(0,1,(.c (.v (.string ⟨#[102,32,49,97]⟩)))),(1,1,(ci 3)),(2,1,(.c (.v (.bool false))))]),st 25 (oBuild [zt,zi,zb] [(0,1,(.c (.v (.string ⟨#[99,32,48]⟩)))),(1,1,(ci 2)),(2,1,(.c (.v (.bool false))))]),st 26 (oBuild [zt,zi,zb] [(0,1,(.c (.v (.string ⟨#[102,32,48,32,120,32,49]⟩)))),(1,1,(ci 4)),(2,1,(.c (.v (.bool false))))]),st 27 (oBuild [zt,zi,zb] [(0,1,(.c (.v (.string ⟨#[102,32,48,59]⟩)))),(1,1,(ci 4)),(2,1,(.c (.v (.bool false))))]),st 28 (oBuild [zt,zi,zb] [(0,1,(.c (.v (.string ⟨#[102,32,48,59,32]⟩)))),(1,1,(ci 5)),(2,1,(.c (.v (.bool false))))]),st 29 (oBuild [zt,zi,zb] [(0,1,(.c (.v (.string ⟨#[59]⟩)))),(1,1,(ci 0)),(2,1,(.c (.v (.bool false))))]),st 30 (oBuild [zt,zi,zb] [(0,1,(.c (.v (.string ⟨#[113]⟩)))),(1,1,(ci 0)),(2,1,(.c (.v (.bool false))))]),st 31 (oBuild [zt,zi,zb] [(0,1,(.c (.v (.string ⟨#[70,32,48]⟩)))),(1,1,(ci 0)),(2,1,(.c (.v (.bool false))))]),st 32 (oBuild [zt,zi,zb] [(0,1,(.c (.v (.string ⟨#[9,99]⟩)))),(1,1,(ci 0)),(2,1,(.c (.v (.bool false))))]),st 33 (oBuild [zt,zi,zb] [(0,1,(.c (.v (.string ⟨#[99,10]⟩)))),(1,1,(ci 1)),(2,1,(.c (.v (.bool false))))]),st 34 (oBuild [zt,zi,zb] [(0,1,(.c (.v (.string ⟨#[195,169]⟩)))),(1,1,(ci 0)),(2,1,(.c (.v (.bool false))))]),st 35 (oBuild [zt,zi,zb] [(0,1,(.c (.v (.string ⟨#[99,59,255]⟩)))),(1,1,(ci 2)),(2,1,(.c (.v (.bool false))))]),st 36 (oBuild [zt,zi,zb] [(0,1,(.c (.v (.string ⟨#[102,32,45,49]⟩)))),(1,1,(ci 2)),(2,1,(.c (.v (.bool false))))]),st 37 (oBuild [zt,zi,zb] [(0,1,(.c (.v (.string ⟨#[99,99]⟩)))),(1,1,(ci 1)),(2,1,(.c (.v (.bool false))))]),st 38 (oMkS (rep [zt,zi,zb] 25) 25 3 [(0,3,(.t 13)),(3,3,(.t 14)),(6,3,(.t 15)),(9,3,(.t 16)),(12,3,(.t 17)),(15,3,(.t 18)),(18,3,(.t 19)),(21,3,(.t 20)),(24,3,(.t 21)),(27,3,(.t 22)),(30,3,(.t 23)),(33,3,(.t 24)),(36,3,(.t 25)),(39,3,(.t 26)),(42,3,(.t 27)),(45,3,(.t 28)),(48,3,(.t 29)),(51,3,(.t 30)),(54,3,(.t 31)),(57,3,(.t 32)),(60,3,(.t 33)),(63,3,(.t 34)),(66,3,(.t 35)),(69,3,(.t 36)),(72,3,(.t 37))]),st 3 (oV (.t 38))]
def lC1:List Stp:=[st 39 (oV (.t 3)),st 40 (oV (.t 0)),st 41 (oBin .and (.t 40) (ci 255)),st 42 (oV (.t 3)),st 43 (oLenS (.t 42))]
def lC2:List Stp:=[st 45 (oIxS (.t 39) (.t 44) 3),st 46 (oL (.t 45) true 3),st 4 (oNew [zt,zi,zb]),su (oS (.t 4) (.t 46) 3)]
def rest:CT:=(cQ (cOz [st 48 (oA (.t 4) 0),st 49 (oL (.t 48) false 1),st 50 (oCall (.f 9) [(.t 49)]),st 47 (oV (.t 50)),st 51 (oExt (.t 47) 0),st 52 (oExt (.t 47) 1),st 53 (oExt (.t 47) 2),st 5 (oV (.t 51)),st 6 (oV (.t 52)),st 7 (oV (.t 53))]) (cQ (cQ (cOz [st 54 (oV (.t 7)),st 55 (oA (.t 4) 2),st 56 (oL (.t 55) false 1),st 57 (oEq true (.leaf .bool) (.t 54) (.t 56))]) (cCond 13 (.t 57) (cQ (cOz [st 2 (oV (.c (.v (.bool false))))]) (cRet)) (cSkip))) (cQ (cQ (cOz [st 58 (oV (.t 7)),st 59 (oUn .not (.t 58))]) (cCond 17 (.t 59) (cQ (cOz [st 60 (oV (.t 6)),st 61 (oA (.t 4) 1),st 62 (oL (.t 61) false 1),st 63 (oBin .eql (.t 60) (.t 62)),st 64 (oV (.t 63)),sg 65 64 true (oV (.t 5)),sg 66 64 true (oLenS (.t 65)),sg 67 64 true (oBin .eql (.t 66) (ci 0)),st 68 (oPick (.t 64) (.t 67) (.c (.v (.bool false)))),st 69 (oV (.t 68)),sg 70 69 true (oCall (.f 10) []),st 71 (oPick (.t 69) (.t 70) (.c (.v (.bool false)))),st 2 (oV (.t 71))]) (cRet)) (cSkip))) (cQ (cOz [st 73 (oV (.t 5)),st 74 (oCall (.f 11) [(.t 73)]),st 72 (oV (.t 74)),st 75 (oExt (.t 72) 0),st 76 (oExt (.t 72) 1),st 8 (oV (.t 75)),st 9 (oV (.t 76))]) (cQ (cOz [st 78 (oV (.t 8)),st 79 (oCall (.f 9) [(.t 78)]),st 77 (oV (.t 79)),st 80 (oExt (.t 77) 0),st 81 (oExt (.t 77) 1),st 82 (oExt (.t 77) 2),st 10 (oV (.t 80)),st 11 (oV (.t 81)),st 12 (oV (.t 82))]) (cQ (cOz [st 83 (oV (.t 5)),st 84 (oLenS (.t 83)),st 85 (oA (.t 4) 1),st 86 (oL (.t 85) false 1),st 87 (oBin .eql (.t 84) (.t 86)),st 88 (oV (.t 87)),sg 89 88 true (oV (.t 6)),sg 90 88 true (oBin .eql (.t 89) (ci 0)),st 91 (oPick (.t 88) (.t 90) (.c (.v (.bool false)))),st 92 (oV (.t 91)),sg 93 92 true (oV (.t 9)),st 94 (oPick (.t 92) (.t 93) (.c (.v (.bool false)))),st 95 (oV (.t 94)),sg 96 95 true (oV (.t 12)),st 97 (oPick (.t 95) (.t 96) (.c (.v (.bool false)))),st 98 (oV (.t 97)),sg 99 98 true (oV (.t 5)),sg 100 98 true (oV (.t 10)),sg 101 98 true (oCall (.f 12) [(.t 99),(.t 100)]),st 102 (oPick (.t 98) (.t 101) (.c (.v (.bool false)))),st 103 (oV (.t 102)),sg 104 103 true (oCall (.f 10) []),st 105 (oPick (.t 103) (.t 104) (.c (.v (.bool false)))),st 2 (oV (.t 105))]) (cRet)))))))
def s44:Stp:=st 44 (oBin .rem (.t 41) (.t 43))
def s44x (i:Int):Stp:=st 44 (oV (.c (.v (.int .i64 i))))
def F3:Env->CallT->CallT:=mkF 106 [.tmp 2] (cQ (cOz lA) (cQ (cOz lB) (cQ (cOz (lC1++s44::lC2)) rest)))
def F3x (i:Int):Env->CallT->CallT:=mkF 106 [.tmp 2] (cQ (cOz lA) (cQ (cOz lB) (cQ (cOz (lC1++s44x i::lC2)) rest)))
theorem f3:cFunc Tryd.prog 3=some F3:=by kernel_rfl
def X (w:Int):Int:=IntKind.i64.wrap ((BitVec.ofInt IntKind.i64.bits w&&&BitVec.ofInt IntKind.i64.bits 255).toNat)
def T (w:Int):Int:=(X w).tmod 25
def E3:Env:={ env with live:=env.lives 3,nb0:=0 }
def tm0 (w:Int):List AV:=[.d (.v (.int .i64 w))]++undefs 105
noncomputable def mid (call:CallT) (w:Int):Option (AV×List Blk):=steps E3 call lA (steps E3 call lB (steps E3 call lC1 endTup)) (tm0 w) []
def midV:Option (AV×List Blk)->AV×AV
 | some (.tup tm,_)=>(nthA tm 41,nthA tm 43)
 | _=>(aundef,aundef)
theorem mid_ok (call:CallT)(w:Int):midV (mid call w)=(.d (.v (.int .i64 (X w))),.d (.v (.int .i64 25))):=by kernel_rfl
theorem step44 (E:Env)(call:CallT)(l:List Stp)(k:K)(tm:List AV)(A:List Blk)(a:Int)(h1:nthA tm 41=.d (.v (.int .i64 a)))(h2:nthA tm 43=.d (.v (.int .i64 25))):
  steps E call (s44::l) k tm A=steps E call (s44x (a.tmod 25)::l) k tm A:=by
 show goOn (some 44) (steps E call l k) tm A (one? (evBin .rem (nthA tm 41) (nthA tm 43)))=goOn (some 44) (steps E call l k) tm A (some (.made (.d (.v (.int .i64 (a.tmod 25)))) []))
 rw[h1,h2]
 rfl
theorem run3 (l1 l2 l3:List Stp)(c:CT)(E:Env)(call:CallT)(args:List AV):mkF 106 [.tmp 2] (cQ (cOz l1) (cQ (cOz l2) (cQ (cOz l3) c))) E call 3 args []=
  steps { E with live:=E.lives 3,nb0:=0 } call l1 (steps { E with live:=E.lives 3,nb0:=0 } call l2 (steps { E with live:=E.lives 3,nb0:=0 } call l3 (c { E with live:=E.lives 3,nb0:=0 } call (kEnd 0 [.tmp 2]) (fun _ _ _=>none) (kEnd 0 [.tmp 2])))) (args++undefs (106-args.length)) []:=rfl
theorem head (call:CallT)(w:Int):F3 env call 3 [.d (.v (.int .i64 w))] []=F3x (T w) env call 3 [.d (.v (.int .i64 w))] []:=by
 have hm:=mid_ok call w
 unfold F3 F3x
 rw[run3,run3]
 show steps E3 call lA _ (tm0 w) []=steps E3 call lA _ (tm0 w) []
 generalize hk:rest { env with live:=env.lives 3,nb0:=0 } call (kEnd 0 [.tmp 2]) (fun _ _ _=>none) (kEnd 0 [.tmp 2])=k
 have e:∀ s:Stp,steps E3 call lA (steps E3 call lB (steps E3 call (lC1++s::lC2) k)) (tm0 w) []=bindT (steps E3 call (s::lC2) k) (mid call w):=by
  intro s
  rw[steps_app,<-steps_app,<-steps_app,steps_k]
  unfold mid
  rw[<-steps_app,<-steps_app]
 have e1:=e s44
 have e2:=e (s44x (T w))
 unfold E3 at e1 e2
 unfold E3
 rw[e1,e2]
 revert hm
 generalize mid call w=m
 intro hm
 cases m with
 | none=>rfl
 | some q=>
  obtain⟨x,A⟩:=q
  cases x with
  | tup tm=>
   have h1:nthA tm 41=.d (.v (.int .i64 (X w))):=congrArg Prod.fst hm
   have h2:nthA tm 43=.d (.v (.int .i64 25)):=congrArg Prod.snd hm
   exact step44 _ _ _ _ _ _ _ h1 h2
  | _=>rfl
noncomputable def call29:CallT:=evC env (cFunc Tryd.prog) 29
noncomputable def at_ (i w:Int):Bool:=isT (F3x i env call29 3 [.d (.v (.int .i64 w))] [])
end Go.Proofs.YthnhboimcidhgaaDoor.scriForms
