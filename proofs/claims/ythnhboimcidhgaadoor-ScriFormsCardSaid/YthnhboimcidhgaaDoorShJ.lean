import Derived.Room.Shelf.Join48
import Derived.Test.YthnhboimcidhgaaDoorSc1
import Derived.Test.YthnhboimcidhgaaDoorProg
namespace Go.Proofs
open Go.Shelf
def Tryd.lays156_ren:Go.Shelf.Ren:=⟨fun | 156=>26 | 165=>40 | 166=>41 | 169=>42 | 240=>69 | 241=>70 | 276=>92 | 277=>93 | n=>n,fun | 31=>42 | 9=>9 | 3=>3 | 4=>4 | 0=>0 | 20=>20 | 72=>87 | 76=>90 | 70=>85 | 37=>51 | 75=>89 | 127=>111 | 164=>122 | 5=>5 | 80=>92 | n=>n,fun | n=>n⟩
theorem Tryd.lays156:Go.Proofs.Lays.n156 Tryd.prog Tryd.lays156_ren:={
 mixed:=by kernel_rfl
 f156:=Tryd.func26.trans (congrArg some (by kernel_rfl))
 f165:=Tryd.func40.trans (congrArg some (by kernel_rfl))
 f166:=Tryd.func41.trans (congrArg some (by kernel_rfl))
 f169:=Tryd.func42.trans (congrArg some (by kernel_rfl))
 f240:=Tryd.func69.trans (congrArg some (by kernel_rfl))
 f241:=Tryd.func70.trans (congrArg some (by kernel_rfl))
 f276:=Tryd.func92.trans (congrArg some (by kernel_rfl))
 f277:=Tryd.func93.trans (congrArg some (by kernel_rfl))
 t0:=Tryd.underlying0
 a0:=Tryd.isAgg0
 z0:=Tryd.sizeOf0
 v0:=Tryd.zeroValue0
 t3:=Tryd.underlying3
 a3:=Tryd.isAgg3
 z3:=Tryd.sizeOf3
 v3:=Tryd.zeroValue3
 t4:=Tryd.underlying4
 a4:=Tryd.isAgg4
 z4:=Tryd.sizeOf4
 v4:=Tryd.zeroValue4
 t9:=Tryd.underlying9
 a9:=Tryd.isAgg9
 z9:=Tryd.sizeOf9
 v9:=Tryd.zeroValue9
 t20:=Tryd.underlying20
 a20:=Tryd.isAgg20
 z20:=Tryd.sizeOf20
 v20:=Tryd.zeroValue20
 t31:=Tryd.underlying42
 a31:=Tryd.isAgg42
 z31:=Tryd.sizeOf42
 v31:=Tryd.zeroValue42
 t37:=Tryd.underlying51
 a37:=Tryd.isAgg51
 z37:=Tryd.sizeOf51
 v37:=Tryd.zeroValue51
 t70:=Tryd.underlying85
 a70:=Tryd.isAgg85
 z70:=Tryd.sizeOf85
 v70:=Tryd.zeroValue85
 t72:=Tryd.underlying87
 a72:=Tryd.isAgg87
 z72:=Tryd.sizeOf87
 v72:=Tryd.zeroValue87
 t75:=Tryd.underlying89
 a75:=Tryd.isAgg89
 z75:=Tryd.sizeOf89
 v75:=Tryd.zeroValue89
 t76:=Tryd.underlying90
 a76:=Tryd.isAgg90
 z76:=Tryd.sizeOf90
 v76:=Tryd.zeroValue90
 t127:=Tryd.underlying111
 a127:=Tryd.isAgg111
 z127:=Tryd.sizeOf111
 v127:=Tryd.zeroValue111
 t164:=Tryd.underlying122
 a164:=Tryd.isAgg122
 z164:=Tryd.sizeOf122
 v164:=Tryd.zeroValue122 }
theorem Tryd.Builder_Extra_156:Builder.Extra Tryd.prog Tryd.lays156_ren:={
 sizeBuilder:=by kernel_rfl
 liesBuilder:=by kernel_rfl
 t5:=Tryd.underlying5
 a5:=Tryd.isAgg5
 z5:=Tryd.sizeOf5
 v5:=Tryd.zeroValue5
 infoByte:=by kernel_rfl
 cellsByte:=by kernel_rfl
 sizeByte:=by kernel_rfl
 neB5:=by decide }
end Go.Proofs
namespace Go.Proofs.YthnhboimcidhgaaDoor.scriForms
open Go Go.Aug Go.RowKit
theorem strs_eq:∀ {cs:List DV},cs.length=(strsOf cs).length->cs=(strsOf cs).map fun s=>.v (.string s):=by
 have le:∀ cs:List DV,(strsOf cs).length<=cs.length:=by
  intro cs
  induction cs with
  | nil=>simp[strsOf]
  | cons x l ih=>unfold strsOf;split<;>simp_all<;>omega
 intro cs
 induction cs with
 | nil=>intro _;rfl
 | cons x l ih=>
  intro h
  unfold strsOf at h ⊢
  split at h
  ·simp at *
  ·rename_i s l' e
   simp only[List.cons.injEq] at e
   obtain⟨rfl,rfl⟩:=e
   simp only[List.length_cons,Nat.add_right_cancel_iff] at h
   simp only[List.map_cons]
   rw[<-ih h]
  ·rename_i y l' _ e
   simp only[List.cons.injEq] at e
   obtain⟨rfl,rfl⟩:=e
   have:=le l
   simp at h
   omega
theorem strs_cells {I:Nat->Prop}{w:World}:∀ {ss:List ByteArray} {Xs:List Value},DRs I w (ss.map fun s=>.v (.string s)) Xs->Xs=ss.map .string
 | [],_,.nil=>rfl
 | s::ss,_,.cons h hs=>by
  cases h
  simp[strs_cells hs]
theorem join_prim:Go.Aug.Enters Tryd.prog 26/\∀ ds x Ac,joinG ds=some (x,Ac)->∀(I:Nat->Prop) (w:World) (args:Array Value),(∀ b,I b->b<w.heap.size)->Gl I w->DRs I w ds args.toList->Calls Tryd.prog 26 args w (RawPost I w x Ac):=by
 refine⟨⟨Tryd.f26,Tryd.func26,by kernel_rfl,by kernel_rfl⟩,fun ds x Ac hg I w args hI hgl hd=> ?_⟩
 unfold joinG at hg
 split at hg
 ·rename_i cs len k sep
  split at hg
  ·rename_i hc
   obtain⟨h1,rfl,h3,h4⟩:=hc
   simp only[Option.some.injEq,Prod.mk.injEq] at hg
   obtain⟨rfl,rfl⟩:=hg
   obtain⟨S,rfl,hS⟩:∃ S,args= #[S,.string sep]/\DR I w (.lst cs cs.length k) S:=by
    obtain⟨ags⟩:=args
    replace hd:DRs I w [.lst cs cs.length k,.v (.string sep)] ags:=hd
    cases hd
    rename_i S Xs h hs
    cases hs
    rename_i Y Ys h2 hs
    cases hs
    cases h2
    exact⟨S,rfl,h⟩
   have fin:∀ e w',(e=.returned (.string ⟨(Lib.join ((strsOf cs).map (·.data.toList)) sep.data.toList).toArray⟩)/\Below w.heap.size w w')->RawPost I w (.d (.v (.string ⟨(Lib.join ((strsOf cs).map (·.data.toList)) sep.data.toList).toArray⟩))) [] e w':=by
    rintro e w' ⟨rfl,hb⟩
    exact⟨_,⟨I,fun _=>0,w',[],fun _=>False⟩,rfl,rfl,⟨hb.os,hb.tape,hb.output,hb.size,fun k hk=>hb.block k hk⟩,⟨fun _ _ hp=>hp.elim,fun _ _ hp=>hp.elim,fun b hb'=>Nat.lt_of_lt_of_le (hI b hb') hb.size⟩,rfl,.d (.v _ rfl),fun _ h=>h,fun _ h=>.inl h,fun _ hp=>hp.elim⟩
   have none_:∀(ad:Option Addr) (c:Nat),cs=[]->S=.slice ad 0 c->Calls Tryd.prog 26 #[S,.string sep] w (RawPost I w (.d (.v (.string ⟨(Lib.join ((strsOf cs).map (·.data.toList)) sep.data.toList).toArray⟩))) []):=by
    rintro ad c rfl rfl
    refine(Any.strings_Join_none Tryd.lays156 Tryd.Builder_Extra_156 ad c sep w).mono fun e w' ⟨he,hw⟩=>fin e w' ⟨?_,hw ▸ Below.refl _ _⟩
    rw[he];rfl
   generalize hn:cs.length=n at hS
   cases hS with
   | emp hk=>exact none_ none 0 rfl rfl
   | nil hk=>exact none_ _ _ rfl rfl
   | lst hIb hl hk hm=>
    rename_i cap b o
    subst hn
    obtain⟨Xs,hx,hM⟩:=hm.mem
    have e1:=strs_eq h1
    have hx':DRs I w ((strsOf cs).map fun s=>.v (.string s)) Xs:=e1 ▸ hx
    have e2:=strs_cells hx'
    rw[h1]
    refine(Any.strings_Join_48 Tryd.lays156 Tryd.Builder_Extra_156 b o cap (strsOf cs) sep w (fun j x hj=> ?_) (hI b hIb) (by omega) (by omega) h4).mono fun e w' h=>fin e w' h
    exact hM j _ (by rw[e2];simp[hj])
  ·simp at hg
 ·simp at hg
end Go.Proofs.YthnhboimcidhgaaDoor.scriForms
