import Derived.Room.Shelf.Join48
import Derived.Test.YthnhboimcidhgaaGreatDoorEvX
import Derived.Test.YthnhboimcidhgaaGreatDoorEvV
import Derived.Test.YthnhboimcidhgaaGreatDoorProg
import Derived.Lib.Join
import Derived.KernelRfl
namespace Go.Proofs
open Go.Shelf
def Tryz.lays156_ren:Go.Shelf.Ren:=⟨fun | 156=>57 | 165=>99 | 166=>64 | 169=>66 | 240=>112 | 241=>165 | 276=>187 | 277=>214 | n=>n,fun | 31=>59 | 9=>9 | 3=>3 | 4=>4 | 0=>0 | 20=>20 | 72=>124 | 76=>130 | 70=>122 | 37=>49 | 75=>129 | 127=>179 | 164=>243 | 5=>5 | 80=>133 | n=>n,fun | n=>n⟩
theorem Tryz.lays156:Go.Proofs.Lays.n156 Tryz.prog Tryz.lays156_ren:={
 mixed:=by kernel_rfl
 f156:=Tryz.func57.trans (congrArg some (by kernel_rfl))
 f165:=Tryz.func99.trans (congrArg some (by kernel_rfl))
 f166:=Tryz.func64.trans (congrArg some (by kernel_rfl))
 f169:=Tryz.func66.trans (congrArg some (by kernel_rfl))
 f240:=Tryz.func112.trans (congrArg some (by kernel_rfl))
 f241:=Tryz.func165.trans (congrArg some (by kernel_rfl))
 f276:=Tryz.func187.trans (congrArg some (by kernel_rfl))
 f277:=Tryz.func214.trans (congrArg some (by kernel_rfl))
 t0:=Tryz.underlying0
 a0:=Tryz.isAgg0
 z0:=Tryz.sizeOf0
 v0:=Tryz.zeroValue0
 t3:=Tryz.underlying3
 a3:=Tryz.isAgg3
 z3:=Tryz.sizeOf3
 v3:=Tryz.zeroValue3
 t4:=Tryz.underlying4
 a4:=Tryz.isAgg4
 z4:=Tryz.sizeOf4
 v4:=Tryz.zeroValue4
 t9:=Tryz.underlying9
 a9:=Tryz.isAgg9
 z9:=Tryz.sizeOf9
 v9:=Tryz.zeroValue9
 t20:=Tryz.underlying20
 a20:=Tryz.isAgg20
 z20:=Tryz.sizeOf20
 v20:=Tryz.zeroValue20
 t31:=Tryz.underlying59
 a31:=Tryz.isAgg59
 z31:=Tryz.sizeOf59
 v31:=Tryz.zeroValue59
 t37:=Tryz.underlying49
 a37:=Tryz.isAgg49
 z37:=Tryz.sizeOf49
 v37:=Tryz.zeroValue49
 t70:=Tryz.underlying122
 a70:=Tryz.isAgg122
 z70:=Tryz.sizeOf122
 v70:=Tryz.zeroValue122
 t72:=Tryz.underlying124
 a72:=Tryz.isAgg124
 z72:=Tryz.sizeOf124
 v72:=Tryz.zeroValue124
 t75:=Tryz.underlying129
 a75:=Tryz.isAgg129
 z75:=Tryz.sizeOf129
 v75:=Tryz.zeroValue129
 t76:=Tryz.underlying130
 a76:=Tryz.isAgg130
 z76:=Tryz.sizeOf130
 v76:=Tryz.zeroValue130
 t127:=Tryz.underlying179
 a127:=Tryz.isAgg179
 z127:=Tryz.sizeOf179
 v127:=Tryz.zeroValue179
 t164:=Tryz.underlying243
 a164:=Tryz.isAgg243
 z164:=Tryz.sizeOf243
 v164:=Tryz.zeroValue243 }
theorem Tryz.Builder_Extra_156:Builder.Extra Tryz.prog Tryz.lays156_ren:={
 sizeBuilder:=by kernel_rfl
 liesBuilder:=by kernel_rfl
 t5:=Tryz.underlying5
 a5:=Tryz.isAgg5
 z5:=Tryz.sizeOf5
 v5:=Tryz.zeroValue5
 infoByte:=by kernel_rfl
 cellsByte:=by kernel_rfl
 sizeByte:=by kernel_rfl
 neB5:=by decide }
end Go.Proofs
namespace Go.Proofs.YthnhboimcidhgaaGreatDoor.ss
open Go Go.Aug Go.RowKit
def Z39:List DV->List ByteArray
 | []=>[]
 | .v (.string s)::l=>s::Z39 l
 | _::l=>Z39 l
def joinG:List DV->Option (AV×List Blk)
 | [.lst cs len _,.v (.string sep)]=>if cs.length=(Z39 cs).length/\len=cs.length/\cs.length<=140737488355328/\(Lib.join ((Z39 cs).map (·.data.toList)) sep.data.toList).length<=281474976710656 then some (.d (.v (.string ⟨(Lib.join ((Z39 cs).map (·.data.toList)) sep.data.toList).toArray⟩)),[]) else none
 | _=>none
theorem Zxy:∀ {cs:List DV},cs.length=(Z39 cs).length->cs=(Z39 cs).map fun s=>.v (.string s):=by
 have le:∀ cs:List DV,(Z39 cs).length<=cs.length:=by
  intro cs
  induction cs with
  | nil=>simp[Z39]
  | cons x l ih=>unfold Z39;split<;>simp_all<;>omega
 intro cs
 induction cs with
 | nil=>intro _;rfl
 | cons x l ih=>
  intro h
  unfold Z39 at h ⊢
  split at h
  ·simp at *
  ·rename_i s l' e
   simp only[List.cons.injEq] at e
   obtain⟨rfl,rfl⟩:=e
   simp only[List.length_cons,Nat.add_right_cancel_iff] at h
   simp only[List.map_cons]
   rw[<-ih h]
  ·rename_i y l' _ e
   simp only[List.cons.injEq] at e
   obtain⟨rfl,rfl⟩:=e
   have:=le l
   simp at h
   omega
theorem Zfb {I:Nat->Prop}{w:World}:∀ {ss:List ByteArray} {Xs:List Value},DRs I w (ss.map fun s=>.v (.string s)) Xs->Xs=ss.map .string
 | [],_,.nil=>rfl
 | s::ss,_,.cons h hs=>by
  cases h
  simp[Zfb hs]
theorem join_prim:Go.Aug.Enters Tryz.prog 57/\∀ ds x Ac,joinG ds=some (x,Ac)->∀(I:Nat->Prop) (w:World) (args:Array Value),(∀ b,I b->b<w.heap.size)->Gl I w->DRs I w ds args.toList->Calls Tryz.prog 57 args w (Z4f I w x Ac):=by
 refine⟨⟨Tryz.f57,Tryz.func57,by kernel_rfl,by kernel_rfl⟩,fun ds x Ac hg I w args hI hgl hd=> ?_⟩
 unfold joinG at hg
 split at hg
 ·rename_i cs len k sep
  split at hg
  ·rename_i hc
   obtain⟨h1,rfl,h3,h4⟩:=hc
   simp only[Option.some.injEq,Prod.mk.injEq] at hg
   obtain⟨rfl,rfl⟩:=hg
   obtain⟨S,rfl,hS⟩:∃ S,args= #[S,.string sep]/\DR I w (.lst cs cs.length k) S:=by
    obtain⟨ags⟩:=args
    replace hd:DRs I w [.lst cs cs.length k,.v (.string sep)] ags:=hd
    cases hd
    rename_i S Xs h hs
    cases hs
    rename_i Y Ys h2 hs
    cases hs
    cases h2
    exact⟨S,rfl,h⟩
   have fin:∀ e w',(e=.returned (.string ⟨(Lib.join ((Z39 cs).map (·.data.toList)) sep.data.toList).toArray⟩)/\Below w.heap.size w w')->Z4f I w (.d (.v (.string ⟨(Lib.join ((Z39 cs).map (·.data.toList)) sep.data.toList).toArray⟩))) [] e w':=by
    rintro e w' ⟨rfl,hb⟩
    exact⟨_,⟨I,fun _=>0,w',[],fun _=>False⟩,rfl,rfl,⟨hb.os,hb.tape,hb.output,hb.size,fun k hk=>hb.block k hk⟩,⟨fun _ _ hp=>hp.elim,fun _ _ hp=>hp.elim,fun b hb'=>Nat.lt_of_lt_of_le (hI b hb') hb.size⟩,rfl,.d (.v _ rfl),fun _ h=>h,fun _ h=>.inl h,fun _ hp=>hp.elim⟩
   have none_:∀(ad:Option Addr) (c:Nat),cs=[]->S=.slice ad 0 c->Calls Tryz.prog 57 #[S,.string sep] w (Z4f I w (.d (.v (.string ⟨(Lib.join ((Z39 cs).map (·.data.toList)) sep.data.toList).toArray⟩))) []):=by
    rintro ad c rfl rfl
    refine(Any.strings_Join_none Tryz.lays156 Tryz.Builder_Extra_156 ad c sep w).mono fun e w' ⟨he,hw⟩=>fin e w' ⟨?_,hw ▸ Below.refl _ _⟩
    rw[he];rfl
   generalize hn:cs.length=n at hS
   cases hS with
   | emp hk=>exact none_ none 0 rfl rfl
   | nil hk=>exact none_ _ _ rfl rfl
   | lst hIb hl hk hm=>
    rename_i cap b o
    subst hn
    obtain⟨Xs,hx,hM⟩:=hm.mem
    have e1:=Zxy h1
    have hx':DRs I w ((Z39 cs).map fun s=>.v (.string s)) Xs:=e1 ▸ hx
    have e2:=Zfb hx'
    rw[h1]
    refine(Any.strings_Join_48 Tryz.lays156 Tryz.Builder_Extra_156 b o cap (Z39 cs) sep w (fun j x hj=> ?_) (hI b hIb) (by omega) (by omega) h4).mono fun e w' h=>fin e w' h
    exact hM j _ (by rw[e2];simp[hj])
  ·simp at hg
 ·simp at hg
end Go.Proofs.YthnhboimcidhgaaGreatDoor.ss
