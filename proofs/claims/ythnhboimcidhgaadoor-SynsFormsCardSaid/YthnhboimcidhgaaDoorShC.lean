import Derived.Shelf.Strings.Search3
import Derived.KernelRfl
import Derived.Test.YthnhboimcidhgaaDoorEvN
import Derived.Test.YthnhboimcidhgaaDoorProg
namespace Go.Proofs
open Go.Shelf
def Tryd.lays144_ren:Go.Shelf.Ren:=⟨fun | 144=>73 | 143=>96 | 219=>108 | 217=>114 | 225=>115 | 224=>116 | 267=>117 | 266=>120 | 314=>121 | n=>n,fun | 9=>9 | 4=>4 | 3=>3 | 5=>5 | 46=>75 | 146=>143 | 51=>138 | n=>n,fun | 1=>0 | n=>n⟩
theorem Tryd.lays144:Go.Proofs.Lays.n144 Tryd.prog Tryd.lays144_ren:={
 mixed:=by kernel_rfl
 f143:=Tryd.func96.trans (congrArg some (by kernel_rfl))
 f144:=Tryd.func73.trans (congrArg some (by kernel_rfl))
 f217:=Tryd.func114.trans (congrArg some (by kernel_rfl))
 f219:=Tryd.func108.trans (congrArg some (by kernel_rfl))
 f224:=Tryd.func116.trans (congrArg some (by kernel_rfl))
 f225:=Tryd.func115.trans (congrArg some (by kernel_rfl))
 f266:=Tryd.func120.trans (congrArg some (by kernel_rfl))
 f267:=Tryd.func117.trans (congrArg some (by kernel_rfl))
 f314:=Tryd.func121.trans (congrArg some (by kernel_rfl))
 t3:=Tryd.underlying3
 a3:=Tryd.isAgg3
 z3:=Tryd.sizeOf3
 v3:=Tryd.zeroValue3
 t4:=Tryd.underlying4
 a4:=Tryd.isAgg4
 z4:=Tryd.sizeOf4
 v4:=Tryd.zeroValue4
 t5:=Tryd.underlying5
 a5:=Tryd.isAgg5
 z5:=Tryd.sizeOf5
 v5:=Tryd.zeroValue5
 t9:=Tryd.underlying9
 a9:=Tryd.isAgg9
 z9:=Tryd.sizeOf9
 v9:=Tryd.zeroValue9
 t46:=Tryd.underlying75
 a46:=Tryd.isAgg75
 z46:=Tryd.sizeOf75
 v46:=Tryd.zeroValue75
 t51:=Tryd.underlying138
 a51:=Tryd.isAgg138
 z51:=Tryd.sizeOf138
 v51:=Tryd.zeroValue138
 t146:=Tryd.underlying143
 a146:=Tryd.isAgg143
 z146:=Tryd.sizeOf143
 v146:=Tryd.zeroValue143
 g1:=by kernel_rfl }
end Go.Proofs
namespace Go.Proofs.YthnhboimcidhgaaDoor
open Go Go.Aug
def containsG:List DV->Option (AV×List Blk):=fun ds=>match ds with
 | [.v (.string s),.v (.string sub)]=>if s.size<4294967281 then some (.d (.v (.bool (Lib.contains s.data.toList sub.data.toList))),[]) else none
 | _=>none
theorem contains_prim:Go.Aug.Enters Tryd.prog 73/\∀ ds x Ac,containsG ds=some (x,Ac)->∀(I:Nat->Prop) (w:World) (args:Array Value),(∀ b,I b->b<w.heap.size)->Gl I w->DRs I w ds args.toList->Calls Tryd.prog 73 args w (RawPost I w x Ac):=by
 refine⟨⟨Tryd.f73,Tryd.func73,by kernel_rfl,by kernel_rfl⟩,fun ds x Ac hg I w args hI hgl hd=> ?_⟩
 unfold containsG at hg
 split at hg
 ·rename_i s sub
  split at hg
  ·rename_i hs
   simp only[Option.some.injEq,Prod.mk.injEq] at hg
   obtain⟨rfl,rfl⟩:=hg
   obtain rfl:args= #[.string s,.string sub]:=by
    obtain⟨ags⟩:=args
    replace hd:DRs I w [.v (.string s),.v (.string sub)] ags:=hd
    cases hd
    rename_i h hs
    cases hs
    rename_i h2 hs
    cases hs
    cases h
    cases h2
    rfl
   obtain⟨_,m,hm⟩:=hgl.2 0 rfl
   refine(Any.strings_Contains Tryd.lays144 s sub m w hs hm).mono fun e w' h=> ?_
   obtain⟨rfl,rfl⟩:=h
   exact⟨_,⟨I,fun _=>0,_,[],fun _=>False⟩,rfl,rfl,⟨rfl,rfl,rfl,Nat.le_refl _,fun _ _=>rfl⟩,⟨fun _ _ hp=>hp.elim,fun _ _ hp=>hp.elim,fun b hb'=>hI b hb'⟩,rfl,.d (.v _ rfl),fun _ h=>h,fun _ h=>.inl h,fun _ hp=>hp.elim⟩
  ·simp at hg
 ·simp at hg
end Go.Proofs.YthnhboimcidhgaaDoor
