import Derived.Room.Shelf.Join48
import Derived.Shelf.Strconv.Itoa3
import Derived.Test.YthnhboimcidhgaaGreatDoorEvX
import Derived.Test.YthnhboimcidhgaaGreatDoorEvV
import Derived.Test.YthnhboimcidhgaaGreatDoorSd
import Derived.Test.YthnhboimcidhgaaGreatDoorProg
import Derived.Lib.Join
import Derived.KernelRfl
namespace Go.Proofs
open Go.Shelf
def Tryz.lays156_ren:Go.Shelf.Ren:=⟨fun | 156=>57 | 165=>99 | 166=>64 | 169=>66 | 240=>112 | 241=>165 | 276=>187 | 277=>214 | n=>n,fun | 31=>59 | 9=>9 | 3=>3 | 4=>4 | 0=>0 | 20=>20 | 72=>124 | 76=>130 | 70=>122 | 37=>49 | 75=>129 | 127=>179 | 164=>243 | 5=>5 | 80=>133 | n=>n,fun | n=>n⟩
theorem Tryz.lays156:Go.Proofs.Lays.n156 Tryz.prog Tryz.lays156_ren:={
 mixed:=by kernel_rfl
 f156:=Tryz.func57.trans (congrArg some (by kernel_rfl))
 f165:=Tryz.func99.trans (congrArg some (by kernel_rfl))
 f166:=Tryz.func64.trans (congrArg some (by kernel_rfl))
 f169:=Tryz.func66.trans (congrArg some (by kernel_rfl))
 f240:=Tryz.func112.trans (congrArg some (by kernel_rfl))
 f241:=Tryz.func165.trans (congrArg some (by kernel_rfl))
 f276:=Tryz.func187.trans (congrArg some (by kernel_rfl))
 f277:=Tryz.func214.trans (congrArg some (by kernel_rfl))
 t0:=Tryz.underlying0
 a0:=Tryz.isAgg0
 z0:=Tryz.sizeOf0
 v0:=Tryz.zeroValue0
 t3:=Tryz.underlying3
 a3:=Tryz.isAgg3
 z3:=Tryz.sizeOf3
 v3:=Tryz.zeroValue3
 t4:=Tryz.underlying4
 a4:=Tryz.isAgg4
 z4:=Tryz.sizeOf4
 v4:=Tryz.zeroValue4
 t9:=Tryz.underlying9
 a9:=Tryz.isAgg9
 z9:=Tryz.sizeOf9
 v9:=Tryz.zeroValue9
 t20:=Tryz.underlying20
 a20:=Tryz.isAgg20
 z20:=Tryz.sizeOf20
 v20:=Tryz.zeroValue20
 t31:=Tryz.underlying59
 a31:=Tryz.isAgg59
 z31:=Tryz.sizeOf59
 v31:=Tryz.zeroValue59
 t37:=Tryz.underlying49
 a37:=Tryz.isAgg49
 z37:=Tryz.sizeOf49
 v37:=Tryz.zeroValue49
 t70:=Tryz.underlying122
 a70:=Tryz.isAgg122
 z70:=Tryz.sizeOf122
 v70:=Tryz.zeroValue122
 t72:=Tryz.underlying124
 a72:=Tryz.isAgg124
 z72:=Tryz.sizeOf124
 v72:=Tryz.zeroValue124
 t75:=Tryz.underlying129
 a75:=Tryz.isAgg129
 z75:=Tryz.sizeOf129
 v75:=Tryz.zeroValue129
 t76:=Tryz.underlying130
 a76:=Tryz.isAgg130
 z76:=Tryz.sizeOf130
 v76:=Tryz.zeroValue130
 t127:=Tryz.underlying179
 a127:=Tryz.isAgg179
 z127:=Tryz.sizeOf179
 v127:=Tryz.zeroValue179
 t164:=Tryz.underlying243
 a164:=Tryz.isAgg243
 z164:=Tryz.sizeOf243
 v164:=Tryz.zeroValue243 }
theorem Tryz.Builder_Extra_156:Builder.Extra Tryz.prog Tryz.lays156_ren:={
 sizeBuilder:=by kernel_rfl
 liesBuilder:=by kernel_rfl
 t5:=Tryz.underlying5
 a5:=Tryz.isAgg5
 z5:=Tryz.sizeOf5
 v5:=Tryz.zeroValue5
 infoByte:=by kernel_rfl
 cellsByte:=by kernel_rfl
 sizeByte:=by kernel_rfl
 neB5:=by decide }
def Tryz.lays171_ren:Go.Shelf.Ren:=⟨fun | 171=>98 | 243=>164 | 246=>213 | 283=>246 | 284=>247 | 285=>248 | 286=>249 | 129=>266 | 317=>265 | 318=>267 | 319=>268 | 320=>269 | 337=>276 | 338=>277 | n=>n,fun | 3=>3 | 9=>9 | 2=>2 | 4=>4 | 171=>273 | 0=>0 | 53=>155 | 37=>49 | 5=>5 | 173=>276 | 212=>289 | 51=>290 | 20=>20 | 213=>291 | 46=>55 | 232=>301 | 233=>302 | n=>n,fun | 17=>1 | 18=>4 | 19=>5 | n=>n⟩
theorem Tryz.lays171:Go.Proofs.Lays.n171 Tryz.prog Tryz.lays171_ren:={
 mixed:=by kernel_rfl
 f129:=Tryz.func266.trans (congrArg some (by kernel_rfl))
 f171:=Tryz.func98.trans (congrArg some (by kernel_rfl))
 f243:=Tryz.func164.trans (congrArg some (by kernel_rfl))
 f246:=Tryz.func213.trans (congrArg some (by kernel_rfl))
 f283:=Tryz.func246.trans (congrArg some (by kernel_rfl))
 f284:=Tryz.func247.trans (congrArg some (by kernel_rfl))
 f285:=Tryz.func248.trans (congrArg some (by kernel_rfl))
 f286:=Tryz.func249.trans (congrArg some (by kernel_rfl))
 f317:=Tryz.func265.trans (congrArg some (by kernel_rfl))
 f318:=Tryz.func267.trans (congrArg some (by kernel_rfl))
 f319:=Tryz.func268.trans (congrArg some (by kernel_rfl))
 f320:=Tryz.func269.trans (congrArg some (by kernel_rfl))
 f337:=Tryz.func276.trans (congrArg some (by kernel_rfl))
 f338:=Tryz.func277.trans (congrArg some (by kernel_rfl))
 t0:=Tryz.underlying0
 a0:=Tryz.isAgg0
 z0:=Tryz.sizeOf0
 v0:=Tryz.zeroValue0
 t2:=Tryz.underlying2
 a2:=Tryz.isAgg2
 z2:=Tryz.sizeOf2
 v2:=Tryz.zeroValue2
 t3:=Tryz.underlying3
 a3:=Tryz.isAgg3
 z3:=Tryz.sizeOf3
 v3:=Tryz.zeroValue3
 t4:=Tryz.underlying4
 a4:=Tryz.isAgg4
 z4:=Tryz.sizeOf4
 v4:=Tryz.zeroValue4
 t5:=Tryz.underlying5
 a5:=Tryz.isAgg5
 z5:=Tryz.sizeOf5
 v5:=Tryz.zeroValue5
 t9:=Tryz.underlying9
 a9:=Tryz.isAgg9
 z9:=Tryz.sizeOf9
 v9:=Tryz.zeroValue9
 t20:=Tryz.underlying20
 a20:=Tryz.isAgg20
 z20:=Tryz.sizeOf20
 v20:=Tryz.zeroValue20
 t37:=Tryz.underlying49
 a37:=Tryz.isAgg49
 z37:=Tryz.sizeOf49
 v37:=Tryz.zeroValue49
 t46:=Tryz.underlying55
 a46:=Tryz.isAgg55
 z46:=Tryz.sizeOf55
 v46:=Tryz.zeroValue55
 t51:=Tryz.underlying290
 a51:=Tryz.isAgg290
 z51:=Tryz.sizeOf290
 v51:=Tryz.zeroValue290
 t53:=Tryz.underlying155
 a53:=Tryz.isAgg155
 z53:=Tryz.sizeOf155
 v53:=Tryz.zeroValue155
 t171:=Tryz.underlying273
 a171:=Tryz.isAgg273
 z171:=Tryz.sizeOf273
 v171:=Tryz.zeroValue273
 t173:=Tryz.underlying276
 a173:=Tryz.isAgg276
 z173:=Tryz.sizeOf276
 v173:=Tryz.zeroValue276
 t212:=Tryz.underlying289
 a212:=Tryz.isAgg289
 z212:=Tryz.sizeOf289
 v212:=Tryz.zeroValue289
 t213:=Tryz.underlying291
 a213:=Tryz.isAgg291
 z213:=Tryz.sizeOf291
 t232:=Tryz.underlying301
 a232:=Tryz.isAgg301
 z232:=Tryz.sizeOf301
 v232:=Tryz.zeroValue301
 t233:=Tryz.underlying302
 a233:=Tryz.isAgg302
 z233:=Tryz.sizeOf302
 v233:=Tryz.zeroValue302
 g17:=by kernel_rfl
 g18:=by kernel_rfl
 g19:=by kernel_rfl }
end Go.Proofs
namespace Go.Proofs.YthnhboimcidhgaaGreatDoor.ss
open Go Go.Aug Go.RowKit
open Go.Aug.Mc
theorem Zhl:∀ {cs:List DV},cs.length=(CQ cs).length->cs=(CQ cs).map fun s=>.v (.string s):=by
 have le:∀ cs:List DV,(CQ cs).length<=cs.length:=by
  intro cs
  induction cs with
  | nil=>simp[CQ]
  | cons x l ih=>unfold CQ;split<;>simp_all<;>omega
 intro cs
 induction cs with
 | nil=>intro _;rfl
 | cons x l ih=>
  intro h
  unfold CQ at h ⊢
  split at h
  ·simp at *
  ·rename_i s l' e
   simp only[List.cons.injEq] at e
   obtain⟨rfl,rfl⟩:=e
   simp only[List.length_cons,Nat.add_right_cancel_iff] at h
   simp only[List.map_cons]
   rw[<-ih h]
  ·rename_i y l' _ e
   simp only[List.cons.injEq] at e
   obtain⟨rfl,rfl⟩:=e
   have:=le l
   simp at h
   omega
theorem Z4l {I:Nat->Prop}{w:World}:∀ {ss:List ByteArray} {Xs:List Value},DRs I w (ss.map fun s=>.v (.string s)) Xs->Xs=ss.map .string
 | [],_,.nil=>rfl
 | s::ss,_,.cons h hs=>by
  cases h
  simp[Z4l hs]
theorem Zp4:Go.Aug.Enters Tryz.prog 57/\∀ ds x Ac,PG ds=some (x,Ac)->∀(I:Nat->Prop) (w:World) (args:Array Value),(∀ b,I b->b<w.heap.size)->Gl I w->DRs I w ds args.toList->Calls Tryz.prog 57 args w (GC I w x Ac):=by
 refine⟨⟨Tryz.f57,Tryz.func57,by kernel_rfl,by kernel_rfl⟩,fun ds x Ac hg I w args hI hgl hd=> ?_⟩
 unfold PG at hg
 split at hg
 ·rename_i cs len k sep
  split at hg
  ·rename_i hc
   obtain⟨h1,rfl,h3,h4⟩:=hc
   simp only[Option.some.injEq,Prod.mk.injEq] at hg
   obtain⟨rfl,rfl⟩:=hg
   obtain⟨S,rfl,hS⟩:∃ S,args= #[S,.string sep]/\DR I w (.lst cs cs.length k) S:=by
    obtain⟨ags⟩:=args
    replace hd:DRs I w [.lst cs cs.length k,.v (.string sep)] ags:=hd
    cases hd
    rename_i S Xs h hs
    cases hs
    rename_i Y Ys h2 hs
    cases hs
    cases h2
    exact⟨S,rfl,h⟩
   have fin:∀ e w',(e=.returned (.string ⟨(Lib.join ((CQ cs).map (·.data.toList)) sep.data.toList).toArray⟩)/\Below w.heap.size w w')->GC I w (.d (.v (.string ⟨(Lib.join ((CQ cs).map (·.data.toList)) sep.data.toList).toArray⟩))) [] e w':=by
    rintro e w' ⟨rfl,hb⟩
    exact⟨_,⟨I,fun _=>0,w',[],fun _=>False⟩,rfl,rfl,⟨hb.os,hb.tape,hb.output,hb.size,fun k hk=>hb.block k hk⟩,⟨fun _ _ hp=>hp.elim,fun _ _ hp=>hp.elim,fun b hb'=>Nat.lt_of_lt_of_le (hI b hb') hb.size⟩,rfl,.d (.v _ rfl),fun _ h=>h,fun _ h=>.inl h,fun _ hp=>hp.elim⟩
   have none_:∀(ad:Option Addr) (c:Nat),cs=[]->S=.slice ad 0 c->Calls Tryz.prog 57 #[S,.string sep] w (GC I w (.d (.v (.string ⟨(Lib.join ((CQ cs).map (·.data.toList)) sep.data.toList).toArray⟩))) []):=by
    rintro ad c rfl rfl
    refine(Any.strings_Join_none Tryz.lays156 Tryz.Builder_Extra_156 ad c sep w).mono fun e w' ⟨he,hw⟩=>fin e w' ⟨?_,hw ▸ Below.refl _ _⟩
    rw[he];rfl
   generalize hn:cs.length=n at hS
   cases hS with
   | emp hk=>exact none_ none 0 rfl rfl
   | nil hk=>exact none_ _ _ rfl rfl
   | lst hIb hl hk hm=>
    rename_i cap b o
    subst hn
    obtain⟨Xs,hx,hM⟩:=hm.mem
    have e1:=Zhl h1
    have hx':DRs I w ((CQ cs).map fun s=>.v (.string s)) Xs:=e1 ▸ hx
    have e2:=Z4l hx'
    rw[h1]
    refine(Any.strings_Join_48 Tryz.lays156 Tryz.Builder_Extra_156 b o cap (CQ cs) sep w (fun j x hj=> ?_) (hI b hIb) (by omega) (by omega) h4).mono fun e w' h=>fin e w' h
    exact hM j _ (by rw[e2];simp[hj])
  ·simp at hg
 ·simp at hg
theorem Zrb:∀ i<100,Lib.decDigits i=Aq i:=by decide+kernel
theorem Zpa:Go.Aug.Enters Tryz.prog 98/\∀ ds x Ac,KJ 99 ds=some (x,Ac)->∀(I:Nat->Prop) (w:World) (args:Array Value),(∀ b,I b->b<w.heap.size)->Gl I w->DRs I w ds args.toList->Calls Tryz.prog 98 args w (GC I w x Ac):=by
 refine⟨⟨Tryz.f98,Tryz.func98,by kernel_rfl,by kernel_rfl⟩,fun ds x Ac hg I w args hI hgl hd=> ?_⟩
 unfold KJ at hg
 split at hg
 ·rename_i n
  split at hg
  ·rename_i hc
   simp only[Option.some.injEq,Prod.mk.injEq] at hg
   obtain⟨rfl,rfl⟩:=hg
   obtain⟨i,rfl⟩:=Int.eq_ofNat_of_zero_le hc.1
   obtain rfl:args= #[.int .i64 i]:=by
    obtain⟨ags⟩:=args
    replace hd:DRs I w [.v (.int .i64 i)] ags:=hd
    cases hd
    rename_i X Xs h hs
    cases hs
    cases h
    rfl
   refine(Any.strconv_Itoa_small Tryz.lays171 i (by omega) w).mono fun e w' ⟨he,hw⟩=> ?_
   subst he hw
   rw[Zrb i (by omega),Int.toNat_natCast]
   have hb:=Below.refl w'.heap.size w'
   exact⟨_,⟨I,fun _=>0,w',[],fun _=>False⟩,rfl,rfl,⟨hb.os,hb.tape,hb.output,hb.size,fun k hk=>hb.block k hk⟩,⟨fun _ _ hp=>hp.elim,fun _ _ hp=>hp.elim,fun b hb'=>Nat.lt_of_lt_of_le (hI b hb') hb.size⟩,rfl,.d (.v _ rfl),fun _ h=>h,fun _ h=>.inl h,fun _ hp=>hp.elim⟩
  ·simp at hg
 ·simp at hg
end Go.Proofs.YthnhboimcidhgaaGreatDoor.ss
