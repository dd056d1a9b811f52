import Derived.Test.YthnhboimcidhgaaGreatDoorMc72
import Derived.Test.YthnhboimcidhgaaGreatDoorEvQr
import Derived.Test.YthnhboimcidhgaaGreatDoorSsJ
import Derived.Test.YthnhboimcidhgaaGreatDoorRows
import Derived.KernelRfl
namespace Go.Proofs.YthnhboimcidhgaaGreatDoor.mc
open Go Go.Aug
set_option maxRecDepth 10000000
theorem hm:Tryz.prog.follows .mixedOrders=true:=by kernel_rfl
def prims:FuncId->Option (List DV->Option (AV×List Blk))
 | 85=>some (cloneG 8 48)
 | 86=>some (cloneG 1 8)
 | _=>none
def backs:FuncId->Option (Nat×Bool):=fun f=>if f=275 then some (8,true) else none
def prims1:FuncId->Option (List DV->Option (AV×List Blk)):=fun f=>if f=57 then some ss.joinG else prims f
def brs:List FuncId:=[160,161,211,212,136]
def env1:Env:={ br:=brs++[248],th:=[85,86,45,84],prim:=prims1,back:=backs }
theorem cCloneE:cFunc Tryz.prog 85=some (cloneF 7 8 48 [.d (.v (.int .i64 0)),.d (.v (.int .i64 0)),.d (.v (.int .i64 0)),.d (.v (.int .i64 0)),.d (.v (.int .i64 0)),.d (.v (.bool false)),.d (.v (.bool false)),.d (.v (.bool false))]):=by kernel_rfl
theorem cCloneI:cFunc Tryz.prog 86=some (cloneF 7 1 8 [.d (.v (.int .i64 0))]):=by kernel_rfl
theorem prims_ok:∀ f g,prims f=some g->Go.Aug.Enters Tryz.prog f/\∀ ds x Ac,g ds=some (x,Ac)->∀(I:Nat->Prop) (w:World) (args:Array Value),(∀ b,I b->b<w.heap.size)->Gl I w->DRs I w ds args.toList->Calls Tryz.prog f args w (RawPost I w x Ac):=by
 intro f g h
 unfold prims at h
 split at h
 ·simp at h;subst h;exact clone_prim hm cCloneE
 ·simp at h;subst h;exact clone_prim hm cCloneI
 ·simp at h
theorem prim1:PrimOk Tryz.prog env1:=by
 intro f g h
 simp only[env1,prims1] at h
 split at h
 ·rename_i hf
  subst hf
  simp only[Option.some.injEq] at h
  subst h
  exact ss.join_prim
 ·exact prims_ok f g h
def regsOf:Code->List (Nat×Array Oper)
 | .region i ops _=>[(i,ops)]
 | .seq a b=>regsOf a++regsOf b
 | .cond _ a b=>regsOf a++regsOf b
 | .block _ c=>regsOf c
 | .loop c=>regsOf c
 | _=>[]
def blocksOf:Code->List Nat
 | .seq a b=>blocksOf a++blocksOf b
 | .cond _ a b=>blocksOf a++blocksOf b
 | .block i c=>i::blocksOf c
 | .loop c=>blocksOf c
 | _=>[]
def bodyOf (f:Func):Code:=f.body.getD .skip
def regN (f:Func)(n:Nat):Nat×Array Oper:=(regsOf (bodyOf f)).getD n (0,#[])
def blkN (f:Func)(n:Nat):Nat:=(blocksOf (bodyOf f)).getD n 0
def opN (f:Func)(n i:Nat):Oper:=(regN f n).2.toList.getD i default
def callOf (o:Oper):Call:=match o.op with | .call c=>c | _=>default
theorem back275:IsBack Tryz.prog 275 8 true where
 ent:=⟨Tryz.f275,by kernel_rfl,by kernel_rfl,by kernel_rfl⟩
 ex:=⟨Tryz.f275,(regN Tryz.f275 0).1,(regN Tryz.f275 1).1,(regN Tryz.f275 3).1,(regN Tryz.f275 2).1,blkN Tryz.f275 0,blkN Tryz.f275 1,(regN Tryz.f275 0).2,(regN Tryz.f275 1).2,(regN Tryz.f275 3).2,(regN Tryz.f275 2).2,
  (regN Tryz.f275 2).2.toList.take 6,opN Tryz.f275 2 6,opN Tryz.f275 2 7,callOf (opN Tryz.f275 2 6),
  by kernel_rfl,by kernel_rfl,by kernel_rfl,by kernel_rfl,by kernel_rfl,by kernel_rfl,by kernel_rfl,by kernel_rfl,by kernel_rfl,by kernel_rfl,by kernel_rfl,by kernel_rfl,by kernel_rfl,by kernel_rfl,by kernel_rfl,by kernel_rfl,by kernel_rfl,by kernel_rfl,by kernel_rfl,by kernel_rfl,by kernel_rfl⟩
theorem back1:BackOk Tryz.prog env1:=by
 intro g s ag h
 simp only[env1,backs] at h
 split at h
 ·rename_i hg
  simp at h
  obtain⟨rfl,rfl⟩:=h
  subst hg
  exact back275
 ·simp at h
def lives (f k:Nat):Option (List Nat):=if k<1000000 then Mc.tbl f k else if memN (f*1000+(k-1000000)) Mc.TH then some [] else none
def env (t:FuncId):Env:={ br:=brs,th:=[],prim:=fun f=>if f=t then some Mc.trueG else prims f,back:=backs,lives:=lives }
theorem envBack (t:FuncId):BackOk Tryz.prog (env t):=back1
theorem envPrim {t:FuncId}{n:Nat}(he:Go.Aug.Enters Tryz.prog t)(ht:isT (evC env1 (cFunc Tryz.prog) n t [] [])=true):PrimOk Tryz.prog (env t):=by
 intro f g h
 simp only[env] at h
 split at h
 ·rename_i hf
  simp at h;subst h;subst hf
  exact prim_true hm (fun _ _ h=>h) prim1 back1 he ht
 ·exact prims_ok f g h
theorem sur (t:FuncId)(ht:memN t Mc.PR=true)(h1:t≠85)(h2:t≠86):Mc.Sur (env t) (cFunc Tryz.prog) where
 f_w18_ScriStops:=by kernel_rfl
 f_w6_Make:=by kernel_rfl
 f_w7_States:=by kernel_rfl
 f_w10_Walk:=by kernel_rfl
 f_scri_Run:=by kernel_rfl
 f_r9_Begin:=by kernel_rfl
 f_r9_Same:=by kernel_rfl
 f_w6_Make_1:=by kernel_rfl
 f_r4_Digits:=by kernel_rfl
 f_w6_ins:=by kernel_rfl
 f_r7_Places:=by kernel_rfl
 f_r7_Start:=by kernel_rfl
 f_r9_All:=by kernel_rfl
 f_r9_Say:=by kernel_rfl
 f_conf_Still:=by kernel_rfl
 f_dirs_Do:=by kernel_rfl
 f_r1_SameInts:=by kernel_rfl
 f_r9_Ints:=by kernel_rfl
 f_w6_val:=by kernel_rfl
 f_r7_Cells:=by kernel_rfl
 f_r1_Mask:=by kernel_rfl
 f_r9_Guesses:=by kernel_rfl
 f_r9_Can:=by kernel_rfl
 f_r9_CanAddr:=by kernel_rfl
 f_r9_CanRetire:=by kernel_rfl
 f_r9_Fetch:=by kernel_rfl
 f_r9_Do:=by kernel_rfl
 f_r9_Addr:=by kernel_rfl
 f_r9_Retire:=by kernel_rfl
 f_arch_Still:=by kernel_rfl
 f_dirs_Can:=by kernel_rfl
 f_exec_Do:=by kernel_rfl
 f_exec_Addr:=by kernel_rfl
 f_reti_Do:=by kernel_rfl
 f_fetc_Fetch:=by kernel_rfl
 f_r7_Ints:=by kernel_rfl
 f_r9_truth:=by kernel_rfl
 f_r1_Size:=by kernel_rfl
 f_r7_At:=by kernel_rfl
 f_r9_open:=by kernel_rfl
 f_r9_told:=by kernel_rfl
 f_r9_Load:=by kernel_rfl
 f_r9_Val:=by kernel_rfl
 f_r9_Real:=by kernel_rfl
 f_r9_Push:=by kernel_rfl
 f_r1_Do:=by kernel_rfl
 f_r9_goes:=by kernel_rfl
 f_r7_Jump:=by kernel_rfl
 f_r9_Hazard:=by kernel_rfl
 f_r9_Pop:=by kernel_rfl
 f_fetc_Guesses:=by kernel_rfl
 f_exec_Can:=by kernel_rfl
 f_exec_CanAddr:=by kernel_rfl
 f_reti_Can:=by kernel_rfl
 f_exec_at:=by kernel_rfl
 f_exec_spot_val:=by kernel_rfl
 f_exec_spot_held:=by kernel_rfl
 f_seqm_Value:=by kernel_rfl
 f_exec_spot_goes:=by kernel_rfl
 f_seqm_Way:=by kernel_rfl
 f_exec_spot_back:=by kernel_rfl
 f_exec_spot_load:=by kernel_rfl
 f_exec_spot_put:=by kernel_rfl
 f_exec_spot_two:=by kernel_rfl
 f_seqm_Address:=by kernel_rfl
 f_memo_Hazard:=by kernel_rfl
 f_robq_Cut:=by kernel_rfl
 f_robq_Pop:=by kernel_rfl
 f_seqm_At:=by kernel_rfl
 f_reti_ended:=by kernel_rfl
 f_reti_commit:=by kernel_rfl
 f_fetc_entry:=by kernel_rfl
 f_robq_Push:=by kernel_rfl
 f_word_Size:=by kernel_rfl
 f_r9_Blocked:=by kernel_rfl
 f_r9_Reg:=by kernel_rfl
 f_r1_truth:=by kernel_rfl
 f_conf_Final:=by kernel_rfl
 f_exec_spot_ready:=by kernel_rfl
 f_reso_Blocked:=by kernel_rfl
 f_reso_Val:=by kernel_rfl
 f_word_Do:=by kernel_rfl
 f_retb_Real:=by kernel_rfl
 f_retb_Pop:=by kernel_rfl
 f_memo_Load:=by kernel_rfl
 f_robq_Put:=by kernel_rfl
 f_word_Mask:=by kernel_rfl
 f_arch_Cells:=by kernel_rfl
 f_fetc_call:=by kernel_rfl
 f_fetc_ret:=by kernel_rfl
 f_word_Ok:=by kernel_rfl
 f_r9_Dest:=by kernel_rfl
 f_slices_ContainsFunc_api_Ent_api_Ent:=by kernel_rfl
 f_reso_Blocked_1:=by kernel_rfl
 f_reso_Reg:=by kernel_rfl
 f_word_moved:=by kernel_rfl
 f_word_truth:=by kernel_rfl
 f_retb_Push:=by kernel_rfl
 f_slices_IndexFunc_api_Ent_api_Ent:=by kernel_rfl
 f_slices_Backward_api_Ent_api_Ent:=by kernel_rfl
 f_reso_Dest:=by kernel_rfl
 lv:=fun f k h=>if_pos h
 br:=fun _=>rfl
 tq:=fun f g=>by
  show(false || isSomeL (if thKey g<1000000 then Mc.tbl f (thKey g) else if memN (f*1000+(thKey g-1000000)) Mc.TH then some [] else none))=_
  have h:¬thKey g<1000000:=by unfold thKey;omega
  have h2:thKey g-1000000=g:=by unfold thKey;omega
  rw[if_neg h,h2,Bool.false_or]
  cases memN (f*1000+g) Mc.TH<;>rfl
 pn:=fun g h=>by
  show(if g=t then some Mc.trueG else prims g)=none
  have hg:g≠t:=fun e=>by rw[e,ht] at h;cases h
  rw[if_neg hg]
  unfold prims
  split
  ·simp[Mc.PR,memN] at h
  ·simp[Mc.PR,memN] at h
  ·rfl
 pe:=by
  show(if 85=t then some Mc.trueG else prims 85)=_
  rw[if_neg (Ne.symm h1)];rfl
 pi:=by
  show(if 86=t then some Mc.trueG else prims 86)=_
  rw[if_neg (Ne.symm h2)];rfl
 bk:=rfl
end Go.Proofs.YthnhboimcidhgaaGreatDoor.mc
