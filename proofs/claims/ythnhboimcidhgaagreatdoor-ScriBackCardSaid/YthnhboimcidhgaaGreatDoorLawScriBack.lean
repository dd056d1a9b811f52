import Derived.Test.YthnhboimcidhgaaGreatDoorRunScriBack
import Derived.Test.YthnhboimcidhgaaGreatDoorEvQ
import Derived.Test.YthnhboimcidhgaaGreatDoorEvN
import Derived.Test.YthnhboimcidhgaaGreatDoorCards
import Derived.Test.YthnhboimcidhgaaGreatDoorTie
import Derived.WalkKit
import Derived.ProofKit
import Derived.LaidMore
import Derived.OpenShut
import Derived.Stop.Joined
import Derived.Lib.LaidTab
import Derived.SevenTiedAt
import Derived.Shelf.Vars
import Derived.Lay
namespace Go.Proofs.YthnhboimcidhgaaGreatDoor.scriBack
open Go Go.Aug Go.ChangeShapes Go.WideShapes Go.ChangeAt Go.RowKit
set_option maxRecDepth 10000000
set_option linter.unusedVariables false
abbrev laid:List (String×DataW Unit):=Rows.scriBackRow.laid
def zs:List Int:=[1,10,100,1000,10000,100000,1000000,10000000,100000000,1000000000,10000000000,100000000000,1000000000000,10000000000000,100000000000000,1000000000000000,10000000000000000,100000000000000000,1000000000000000000,10000000000000000000]
theorem Zpz : Tryz.prog.globalNamed "internal/strconv.uint64pow10" = some 1 := by kernel_rfl
theorem Zhk:(Tryz.prog.globals[1]?).map (·.type)=some 289:=by kernel_rfl
theorem Zh0:Z65=zs.map fun z=>.v (.int .u64 z):=rfl
theorem Zc7 {I:Nat->Prop}{w:World}:∀ l:List Int,DRs I w (l.map fun z=>.v (.int .u64 z)) (l.map fun z=>.int .u64 z)
 | []=>.nil
 | z::l=>.cons (.v _ rfl) (Zc7 l)
theorem Zpw {W:World}{I:Nat->Prop}(h:laidMetH Tryz.prog laid W)(hI:I 1)(hI0:I 0)(hm:∃ m,W.cell? ⟨0,0,none⟩=some (.int .i64 m)):Gl I W/\1<W.heap.size/\0<W.heap.size:=by
 rw[MakeChecks.laidMetH_plain _ _ _ (by kernel_rfl)] at h
 obtain⟨ps,⟨g0,t0,cs0,f0,p0,q0,hg0,ht0,hv0,hd0,⟨g1,t1,cs1,f1,p1,q1,hg1,ht1,hv1,hd1,⟨g2,t2,cs2,f2,p2,q2,hg2,ht2,hv2,hd2,_,_⟩,_⟩,_⟩,_,_⟩:=h
 obtain rfl:=Option.some.inj (Zpz.symm.trans hg2)
 obtain rfl:=Option.some.inj (Zhk.symm.trans ht2)
 have hcs:=Lib.cells_of_tab (zs:=zs) Tryz.underlying289 Tryz.underlying155 (by kernel_rfl) (by kernel_rfl) hd2
 have hcell:∀ i,W.cell? ⟨1,i,none⟩=cs2[i]? :=fun i=>World.var?_cell hg2 hv2 i
 have hc2:cs2=(zs.map fun z=>Value.int .u64 z).toArray:=by
  apply Array.ext'
  simpa using hcs
 have hs:1<W.heap.size:=by
  have h0:=hcell 0
  rw[hc2] at h0
  unfold World.cell? at h0
  cases hb:W.heap[1]? with
  | none=>simp[hb,zs] at h0
  | some o=>exact(Array.getElem?_eq_some_iff.1 hb).1
 refine⟨⟨fun g cs hg=> ?_,fun g hg=> ?_⟩,hs,by omega⟩
 ·unfold Z1r at hg
  split at hg
  ·rename_i e
   subst e
   simp only[Option.some.injEq] at hg
   subst hg
   refine⟨hI,?_⟩
   rw[Zh0]
   refine DRm.ofAt (Zc7 zs) fun i hi=> ?_
   rw[Nat.zero_add,hcell,hc2]
   simp
  ·simp at hg
 ·obtain rfl : g = 0 := by simpa [Z8b] using hg
  exact⟨hI0,hm⟩
theorem Zpl {H:Type}{enc:TypeId×Value->H}{a:Assume}{C:Checked}{os:Os}{f:FuncId}{fn:Func}{s:ChangeSpec}{conds:List PathCond}{apart fresh handsOn again:Bool}{X:World->Array Value->Prop}
  (hX:∀(w w':World) (args:Array Value),w.heap=w'.heap->X w args->X w' args)
  (own:ownKnob C.prog.godebug=none) (started:os.Started) (noInit:C.prog.inits.idxOf? f=none) (hfn:C.prog.funcs[f]? =some fn)
  (witness : ∃ (w : World) (tape : Tape) (i : Input), w.os = os /\ (w.forCall tape i).Shaped C.prog /\ i.vars = [] /\ Input.okWide C.prog (w.forCall tape i) .any w.heap.size f i /\
   ((s.pre enc C.prog fn conds apart (w.forCall tape i).memory i.args/\X (w.forCall tape i).memory i.args)/\sizedMet enc C.prog fn (OpenSpec.ofChange s) apart (w.forCall tape i).memory i.args)/\a.holds C.prog (lone (Frame.enter C.prog f i.args .normal) [] (w.forCall tape i)))
  (contract : ∀ (W : World) (base : Nat) (args : Array Value) (ds gs : List (DataW H)) (before : List MemPlace),
   (∀(j:Nat) t v,fn.params[j]? =some t->args[j]? =some v->Value.okWide C.prog W .any base t v)->
   DataW.Whole enc C.prog fn.params.toList s.vars apart W args.toList ds gs before->
   X W args->W.ShapedOpen C.prog->
   Calls C.prog f args W fun e W'=>∃ v,e=.returned v/\s.post enc C.prog fn apart fresh handsOn again W args v W'):
  ReturnsInHanded a C os f .any (fun w args=>(s.pre enc C.prog fn conds apart w args/\X w args)/\sizedMet enc C.prog fn (OpenSpec.ofChange s) apart w args) (s.post enc C.prog fn apart fresh handsOn again):=by
 refine returnsInHanded_of_calls own started noInit witness ?_
 intro w tape i _ hsh _ hok hpre hholds
 obtain⟨_,_,_,fn',hfn',_,_,_,_,hval⟩:=hok
 have e:fn'=fn:=Option.some.inj (hfn'.symm.trans hfn)
 subst e
 obtain⟨⟨⟨ds,gs,before,hw,hc⟩,hx⟩,hz⟩:=hpre
 have hw':=DataW.Whole.of_heap (w':=w.forCall tape i) (by rfl) hw
 refine(contract (w.forCall tape i) w.heap.size i.args ds gs before hval hw' (hX _ _ _ (by rfl) hx) hsh).mono fun e W' ⟨v,he,hp⟩=> ?_
 subst he
 exact ChangeSpec.post_blind hp
theorem maxLen {W:World}(h:W.ShapedOpen Tryz.prog):∃ m,W.cell? ⟨0,0,none⟩=some (.int .i64 m):=
 cell_of_shapedOpen_int (zero:= #[.int .i64 0]) (t:=3) h (by decide+kernel) (by kernel_rfl) rfl (by kernel_rfl) (by kernel_rfl) (by kernel_rfl)
theorem Zr0 (os:Os)(args:Array Value):laidMetH Tryz.prog laid ((World.laidAll Tryz.prog os laid).forCall (fun _ _=>0) ⟨#[],args,[]⟩).memory:=
 laidMetH_of_parts3 (fuel:=8) (laidMet_laidAll args (by kernel_rfl) (by kernel_rfl)) (by kernel_rfl) (by kernel_rfl)
theorem own:ownKnob Tryz.prog.godebug=none:=by kernel_rfl
theorem Zox:laidOutB Tryz.prog=true:=by kernel_rfl
theorem Zou (os:Os)(started:os.Started)(H:Type)(enc:TypeId×Value->H):
  ReturnsInHanded {} Tryz.checked os 6 .any (fun w args=>(Rows.scriBackSpec.pre enc Tryz.prog Tryz.f6 [] false w args/\laidMetH Tryz.prog laid w)/\sizedMet enc Tryz.prog Tryz.f6 (OpenSpec.ofChange Rows.scriBackSpec) false w args)
   (Rows.scriBackSpec.post enc Tryz.prog Tryz.f6 false true false false):=by
 refine Zpl (C:=Tryz.checked) (X:=fun w _=>laidMetH Tryz.prog laid w) (fun _ _ _ hh h=>h.of_heap hh) own started (by kernel_rfl) Tryz.func6
  (ChangeSpec.witness_shaped (enc:=enc) (C:=Tryz.checked) (os:=os) (X:=fun w _=>laidMetH Tryz.prog laid w) false (World.laidAll Tryz.prog os laid) #[.slice none 0 0,.slice none 0 0,.slice none 0 0,.int .i64 0] 8 rfl (World.shaped_of_ZipB (by kernel_rfl) (by kernel_rfl)) (by kernel_rfl) (by kernel_rfl) (by kernel_rfl) (Zr0 os _)) ?_
 intro W base args ds gs before hval0 hW hL hsh
 have hval:∀(j:Nat) t v,Tryz.f6.params[j]? =some t->args[j]? =some v->Value.okWide Tryz.prog W .any base t v:=hval0
 have hW':=hW
 obtain⟨p,q,hA0,hV,rfl,hfz,hnd⟩:=hW
 have hA:DataW.TrodAll enc Tryz.prog W 0 (fun _=>true) true Tryz.f6.params.toList args.toList ds p:=hA0
 have hlt:=Z4d hA
 obtain⟨xs,hx,hw⟩:=Zdp (I:=fun b=>(∃ o,MemPlace.cell b o ∈ p)∨b=1∨b=0) (Ts:=XU) Zhd hA (fun j t v h1 h2=>hval j t v (by simpa using h1) (by simpa using h2)) (fun b o h=>.inl ⟨o,h⟩)
 obtain⟨rfl,rfl⟩:=trodVars_none hV
 have hds:=Z4e hA
 have hlen:Tryz.f6.params.toList.length=4:=by kernel_rfl
 rw[hlen] at hds
 obtain⟨d0,d1,d2,d3,rfl⟩:∃ d0 d1 d2 d3,ds=[d0,d1,d2,d3]:=by
  match ds,hds with
  | [d0,d1,d2,d3],_=>exact⟨d0,d1,d2,d3,rfl⟩
 obtain⟨hgl,h1s,h0s⟩:=Zpw (I:=fun b=>(∃ o,MemPlace.cell b o ∈ p)∨b=1∨b=0) hL (.inr (.inl rfl)) (.inr (.inr rfl)) (maxLen hsh)
 refine(Zqe (E:=H3) (by kernel_rfl) (fun _ _ h=>h) Z24 Z25 (run xs hw) (fun b hb=>by rcases hb with⟨o,ho⟩ | rfl | rfl;exact hlt _ ho;exact h1s;exact h0s) hgl hx).mono fun e W' ⟨he,bel⟩=> ?_
 subst he
 exact⟨_,rfl,_,_,_,[],_,[],hW',trodAll_mk1 (shut_bool Tryz.underlying4 _),Zdo Zox bel hA (by kernel_rfl),rfl,bel.frame _,fun h=>by cases h⟩
theorem over:Rows.ScriBackSaid:=
 OpenClaim.holds_of_wide 6 Tryz.f6 rfl rfl rfl rfl rfl rfl rfl ⟨rfl,rfl,rfl,rfl,rfl⟩ rfl rfl rfl rfl rfl (by kernel_rfl) Tryz.func6 (by kernel_rfl)
  (of_decide_eq_true (by kernel_rfl)) (by unfold Func.isWrapper;first | (rw[if_pos (by decide+kernel)];kernel_rfl) | (rw[if_neg (by decide+kernel)];exact⟨rfl,rfl⟩))
  (fun os started H enc _=>Zou os started H enc)
theorem card:Rows.ScriBackCardSaid:=
 Claim7.holds_tied_plain_at .later [] [.data, .data, .data] true (true, "1ddb3e752903a35b7ee1f87734437ebab2b88b416ee54838242fee55440ae2b1") false
  over (fun _ h=>by cases h) (by kernel_rfl) (fun _ h=>by cases h) scriBack_row_tie rfl ⟨rfl,rfl⟩ (by kernel_rfl) rfl
  (fun f fn hf hfn => by
   obtain rfl : f = 6 := Option.some.inj ((show Tryz.prog.funcNamed "augury/augurylaw18.ScriBack" = some 6 by kernel_rfl).symm.trans hf) |>.symm
   obtain rfl:fn=Tryz.f6:=(Option.some.inj (Tryz.func6.symm.trans hfn)).symm
   exact⟨by kernel_rfl,fun j t ht=>by
    rw[Tryz.params6] at ht
    have hm:t ∈ [22,22,22,3]:=by simpa using Array.mem_of_getElem? ht
    have hall:([22,22,22,3].all fun u=> !Tryz.prog.wantsStandIn u)=true:=by kernel_rfl
    exact(show Tryz.prog.wantsStandIn t=false by simpa using List.all_eq_true.1 hall t hm)⟩)
  (by kernel_rfl)
#print axioms card
end Go.Proofs.YthnhboimcidhgaaGreatDoor.scriBack
namespace Go.Proofs.YthnhboimcidhgaaGreatDoor
theorem scriBackCard_holds:Rows.ScriBackCardSaid:=scriBack.card
end Go.Proofs.YthnhboimcidhgaaGreatDoor
