import Derived.Test.YtmfdoekbjkgckaaGreatSo
import Derived.Test.YtmfdoekbjkgckaaGreatGr
import Derived.Test.YtmfdoekbjkgckaaGreatRows
import Derived.Shelf.SlGeneric
import Derived.Shelf.SlicesG.Cmp
import Derived.WalkKit
import Derived.BigCall
import Derived.StillTailTactics
import Derived.Sort.Grow
import Derived.Test.YtmfdoekbjkgckaaGreatProg
namespace Go.Proofs
open Go.Shelf
def Tryz.laysSort_ren:Go.Shelf.Ren:=⟨fun | 6=>31 | 15=>59 | 14=>58 | 28=>96 | 29=>97 | 20=>88 | 21=>89 | 22=>90 | 23=>91 | 24=>92 | 25=>93 | 26=>94 | 27=>95 | 46=>128 | 47=>129 | 48=>130 | 49=>131 | 50=>132 | 57=>147 | n=>n,fun | 22=>39 | 24=>43 | 25=>82 | 3=>3 | 39=>63 | 0=>0 | 53=>140 | 55=>125 | 4=>4 | 46=>134 | 45=>133 | 50=>121 | 5=>5 | 9=>9 | 66=>176 | 70=>180 | 76=>190 | 77=>191 | n=>n,fun | n=>n⟩
theorem Tryz.laysSort:Go.Proofs.SlLaysF0.n6 Tryz.prog Tryz.laysSort_ren:={
 mixed:=by kernel_rfl
 f6:=⟨Tryz.f31.name,by decide,Tryz.func31.trans (congrArg some (by kernel_rfl))⟩
 f14:=⟨Tryz.f58.name,by decide,Tryz.func58.trans (congrArg some (by kernel_rfl))⟩
 f15:=Tryz.func59.trans (congrArg some (by kernel_rfl))
 f20:=⟨Tryz.f88.name,by decide,Tryz.func88.trans (congrArg some (by kernel_rfl))⟩
 f21:=⟨Tryz.f89.name,by decide,Tryz.func89.trans (congrArg some (by kernel_rfl))⟩
 f22:=⟨Tryz.f90.name,by decide,Tryz.func90.trans (congrArg some (by kernel_rfl))⟩
 f23:=⟨Tryz.f91.name,by decide,Tryz.func91.trans (congrArg some (by kernel_rfl))⟩
 f24:=⟨Tryz.f92.name,by decide,Tryz.func92.trans (congrArg some (by kernel_rfl))⟩
 f25:=⟨Tryz.f93.name,by decide,Tryz.func93.trans (congrArg some (by kernel_rfl))⟩
 f26:=⟨Tryz.f94.name,by decide,Tryz.func94.trans (congrArg some (by kernel_rfl))⟩
 f27:=⟨Tryz.f95.name,by decide,Tryz.func95.trans (congrArg some (by kernel_rfl))⟩
 f28:=Tryz.func96.trans (congrArg some (by kernel_rfl))
 f29:=Tryz.func97.trans (congrArg some (by kernel_rfl))
 f46:=⟨Tryz.f128.name,by decide,Tryz.func128.trans (congrArg some (by kernel_rfl))⟩
 f47:=Tryz.func129.trans (congrArg some (by kernel_rfl))
 f48:=Tryz.func130.trans (congrArg some (by kernel_rfl))
 f49:=⟨Tryz.f131.name,by decide,Tryz.func131.trans (congrArg some (by kernel_rfl))⟩
 f50:=⟨Tryz.f132.name,by decide,Tryz.func132.trans (congrArg some (by kernel_rfl))⟩
 f57:=⟨Tryz.f147.name,by decide,Tryz.func147.trans (congrArg some (by kernel_rfl))⟩
 t0:=Tryz.underlying0
 a0:=Tryz.isAgg0
 z0:=Tryz.sizeOf0
 v0:=Tryz.zeroValue0
 t3:=Tryz.underlying3
 a3:=Tryz.isAgg3
 z3:=Tryz.sizeOf3
 v3:=Tryz.zeroValue3
 t4:=Tryz.underlying4
 a4:=Tryz.isAgg4
 z4:=Tryz.sizeOf4
 v4:=Tryz.zeroValue4
 t5:=Tryz.underlying5
 a5:=Tryz.isAgg5
 z5:=Tryz.sizeOf5
 v5:=Tryz.zeroValue5
 t9:=Tryz.underlying9
 a9:=Tryz.isAgg9
 z9:=Tryz.sizeOf9
 v9:=Tryz.zeroValue9
 t22:=Tryz.underlying39
 a22:=Tryz.isAgg39
 z22:=Tryz.sizeOf39
 v22:=Tryz.zeroValue39
 t25:=Tryz.underlying82
 a25:=Tryz.isAgg82
 z25:=Tryz.sizeOf82
 v25:=Tryz.zeroValue82
 t39:=Tryz.underlying63
 a39:=Tryz.isAgg63
 z39:=Tryz.sizeOf63
 v39:=Tryz.zeroValue63
 t45:=Tryz.underlying133
 a45:=Tryz.isAgg133
 z45:=Tryz.sizeOf133
 v45:=Tryz.zeroValue133
 t46:=Tryz.underlying134
 a46:=Tryz.isAgg134
 z46:=Tryz.sizeOf134
 v46:=Tryz.zeroValue134
 t50:=Tryz.underlying121
 a50:=Tryz.isAgg121
 z50:=Tryz.sizeOf121
 v50:=Tryz.zeroValue121
 t53:=Tryz.underlying140
 a53:=Tryz.isAgg140
 z53:=Tryz.sizeOf140
 v53:=Tryz.zeroValue140
 t55:=Tryz.underlying125
 a55:=Tryz.isAgg125
 z55:=Tryz.sizeOf125
 v55:=Tryz.zeroValue125
 t66:=Tryz.underlying176
 a66:=Tryz.isAgg176
 z66:=Tryz.sizeOf176
 v66:=Tryz.zeroValue176
 t70:=Tryz.underlying180
 a70:=Tryz.isAgg180
 z70:=Tryz.sizeOf180
 v70:=Tryz.zeroValue180
 t76:=Tryz.underlying190
 a76:=Tryz.isAgg190
 z76:=Tryz.sizeOf190
 v76:=Tryz.zeroValue190
 t77:=Tryz.underlying191
 a77:=Tryz.isAgg191
 z77:=Tryz.sizeOf191
 v77:=Tryz.zeroValue191 }
def Tryz.laysCmp_ren:Go.Shelf.Ren:=⟨fun | 5=>61 | 7=>98 | n=>n,fun | 22=>3 | 3=>3 | 4=>4 | n=>n,fun | n=>n⟩
theorem Tryz.laysCmp:Go.Proofs.SlLaysC2.n5 Tryz.prog Tryz.laysCmp_ren:={
 mixed:=by kernel_rfl
 f5:=⟨Tryz.f61.name,by decide,Tryz.func61.trans (congrArg some (by kernel_rfl))⟩
 f7:=⟨Tryz.f98.name,by decide,Tryz.func98.trans (congrArg some (by kernel_rfl))⟩
 t3:=Tryz.underlying3
 a3:=Tryz.isAgg3
 z3:=Tryz.sizeOf3
 v3:=Tryz.zeroValue3
 t4:=Tryz.underlying4
 a4:=Tryz.isAgg4
 z4:=Tryz.sizeOf4
 v4:=Tryz.zeroValue4
 t22:=Tryz.underlying3
 a22:=Tryz.isAgg3
 z22:=Tryz.sizeOf3
 v22:=Tryz.zeroValue3 }
def Tryz.laysGrow_ren:Go.Shelf.Ren:=⟨fun | 4=>81 | n=>n,fun | 22=>54 | 25=>5 | 3=>3 | 4=>4 | 9=>9 | 20=>20 | 0=>0 | n=>n,fun | n=>n⟩
theorem Tryz.laysGrow:Go.Proofs.Lays8.n4 Tryz.prog Tryz.laysGrow_ren:={
 mixed:=by kernel_rfl
 f4:=⟨Tryz.f81.name,by decide,Tryz.func81.trans (congrArg some (by kernel_rfl))⟩
 t0:=Tryz.underlying0
 a0:=Tryz.isAgg0
 z0:=Tryz.sizeOf0
 v0:=Tryz.zeroValue0
 t3:=Tryz.underlying3
 a3:=Tryz.isAgg3
 z3:=Tryz.sizeOf3
 v3:=Tryz.zeroValue3
 t4:=Tryz.underlying4
 a4:=Tryz.isAgg4
 z4:=Tryz.sizeOf4
 v4:=Tryz.zeroValue4
 t9:=Tryz.underlying9
 a9:=Tryz.isAgg9
 z9:=Tryz.sizeOf9
 v9:=Tryz.zeroValue9
 t20:=Tryz.underlying20
 a20:=Tryz.isAgg20
 z20:=Tryz.sizeOf20
 v20:=Tryz.zeroValue20
 t22:=Tryz.underlying54
 a22:=Tryz.isAgg54
 z22:=Tryz.sizeOf54
 v22:=Tryz.zeroValue54 }
end Go.Proofs
namespace Go.Proofs.YtmfdoekbjkgckaaGreat.so
open Go Go.Aug Go.RowKit
set_option linter.unusedVariables false
set_option maxHeartbeats 4000000 in
set_option maxRecDepth 1000000 in
theorem Zd3 (x y:Int)(W:World)(blk:Nat)(h0:W.cell? ⟨blk,0,none⟩=some (.int .i64 x))(h1:W.cell? ⟨blk,1,none⟩=some (.int .i64 y)):
  Calls Tryz.prog 60 #[.slice (some ⟨blk,0,none⟩) 2 2] W fun e w'=>e=.returned (.int .i64 (if x=0 then y else x))/\w'=W:=by
 have A:Aside (W.cell? ⟨blk,0,none⟩=some (.int .i64 x)/\W.cell? ⟨blk,1,none⟩=some (.int .i64 y)):=⟨h0,h1⟩
 clear h0 h1
 go_enter Tryz.func60,Tryz.ntmps60
 go_wp2
 go_loopw [8] (fun i wr=>∃ k:Nat,i=.int .i64 k/\k<=2/\wr=W/\(k=0∨k=1/\x=0∨k=2/\x=0/\y=0)) (fun i _=>2-(intOf i).toNat)
 case atStart=>exact⟨0,rfl,by omega,rfl,.inl rfl⟩
 case round=>
  obtain⟨k,rfl,hk,rfl,hc⟩:=hrel
  rcases hc with rfl | ⟨rfl,hx⟩ | ⟨rfl,hx,hy⟩
  ·have c0 := A.out.1
   by_cases hx:x=0
   ·go_wp2
    exact⟨⟨1,rfl,by omega,trivial,.inr (.inl ⟨rfl,hx⟩)⟩,by simp[intOf]⟩
   ·go_wp2
    go_ret
    exact⟨rfl,rfl⟩
  ·have c1 := A.out.2
   by_cases hy:y=0
   ·go_wp2
    exact⟨⟨2,rfl,by omega,trivial,.inr (.inr ⟨rfl,hx,hy⟩)⟩,by simp[intOf]⟩
   ·go_wp2
    go_ret
    exact⟨rfl,rfl⟩
  ·subst hx hy
   go_wp2
   go_ret
   exact⟨rfl,rfl⟩
set_option maxHeartbeats 4000000 in
set_option maxRecDepth 1000000 in
theorem Zhg (x y:Int×Int)(W:World):Calls Tryz.prog 32 #[.agg #[.int .i64 x.1,.int .i64 x.2],.agg #[.int .i64 y.1,.int .i64 y.2]] W fun e w'=>e=.returned (.int .i64 (Ex x y))/\∃ q os',w'=Go.Sort.grow (W.drewN q) os':=by
 have hc1:=fun W'=>AnyG.cmp_Compare_int Tryz.laysCmp x.1 y.1 W'
 have hc2:=fun W'=>AnyG.cmp_Compare_int Tryz.laysCmp x.2 y.2 W'
 change ∀ W',Calls Tryz.prog 61 _ _ _ at hc1
 change ∀ W',Calls Tryz.prog 61 _ _ _ at hc2
 have hcf:Ex x y=if Lib.compareInt x.1 y.1=0 then Lib.compareInt x.2 y.2 else Lib.compareInt x.1 y.1:=rfl
 rw[hcf]
 generalize Lib.compareInt x.1 y.1=r1 at *
 generalize Lib.compareInt x.2 y.2=r2 at *
 clear hcf
 have hor:∃ rr,rr=(if r1=0 then r2 else r1)/\∀ w blk,w.cell? ⟨blk,0,none⟩=some (.int .i64 r1)->w.cell? ⟨blk,1,none⟩=some (.int .i64 r2)->Calls Tryz.prog 60 #[.slice (some ⟨blk,0,none⟩) 2 2] w fun e w'=>e=.returned (.int .i64 rr)/\w'=w:=
  ⟨_,rfl,fun w blk h0 h1=>Zd3 r1 r2 w blk h0 h1⟩
 obtain⟨rr,hrr,hor⟩:=hor
 rw[<-hrr]
 clear hrr
 go_enter Tryz.func32,Tryz.ntmps32
 go_wp2
 refine wp_region_still_tail 10 (by kernel_rfl) (by kernel_rfl) ?_
 simp only[List.take_succ_cons,List.take_zero,List.drop_succ_cons,List.drop_zero]
 obtain⟨w2,hw2⟩:∃ w2,w2=((W.alloc (.cells #[.int .i64 x.1,.int .i64 x.2] 43)).alloc (.cells #[.int .i64 y.1,.int .i64 y.2] 43)).drew:=⟨_,rfl⟩
 change wpStill _ _ (World.drew _) (fun a'=>wpList _ _ _ _ a' (World.drew _)) _ _
 rw[<-hw2]
 have hb0:w2.heap[W.heap.size]? =some (.cells #[.int .i64 x.1,.int .i64 x.2] 43):=by
  rw[hw2]
  show((W.heap.push _).push _)[W.heap.size]? =_
  simp[Array.getElem?_push]
 have hb1:w2.heap[W.heap.size+1]? =some (.cells #[.int .i64 y.1,.int .i64 y.2] 43):=by
  rw[hw2]
  show((W.heap.push _).push _)[W.heap.size+1]? =_
  rw[Array.getElem?_push,if_pos (by simp)]
 have hsz:w2.heap.size=W.heap.size+2:=by
  rw[hw2]
  show((W.heap.push _).push _).size=_
  simp
 have c0:w2.cell? ⟨W.heap.size,0,none⟩=some (.int .i64 x.1):=by simp[World.cell?,hb0]
 have c1:w2.cell? ⟨W.heap.size,1,none⟩=some (.int .i64 x.2):=by simp[World.cell?,hb0]
 have c2:w2.cell? ⟨W.heap.size+1,0,none⟩=some (.int .i64 y.1):=by simp[World.cell?,hb1]
 have c3:w2.cell? ⟨W.heap.size+1,1,none⟩=some (.int .i64 y.2):=by simp[World.cell?,hb1]
 have hgr:w2=Go.Sort.grow (W.drewN 1) #[.cells #[.int .i64 x.1,.int .i64 x.2] 43,.cells #[.int .i64 y.1,.int .i64 y.2] 43]:=by
  rw[hw2]
  show World.mk .. =World.mk ..
  congr 1
 have Hg:Aside (w2=Go.Sort.grow (W.drewN 1) #[.cells #[.int .i64 x.1,.int .i64 x.2] 43,.cells #[.int .i64 y.1,.int .i64 y.2] 43]):=hgr
 clear hw2 hb0 hb1 hgr
 still_step
 still_step
 still_step
 still_step
 still_call (hc1 _)
 still_step
 still_step
 still_step
 still_step
 still_call (hc2 _)
 refine wpStill_nil ?_
 have hbn:(w2.alloc (.cells #[.int .i64 r1,.int .i64 r2] 3)).heap[w2.heap.size]? =some (.cells #[.int .i64 r1,.int .i64 r2] 3):=by
  show(w2.heap.push _)[w2.heap.size]? =_
  simp
 have hor:=hor (w2.alloc (.cells #[.int .i64 r1,.int .i64 r2] 3)) w2.heap.size (by unfold World.cell?;rw[hbn];rfl) (by unfold World.cell?;rw[hbn];rfl)
 clear hbn hsz c0 c1 c2 c3 hc1 hc2
 go_wp2_with (go_at_call 60;refine hor.mono ?_;rintro e w' ⟨rfl,rfl⟩)
 go_ret
 have hw:=Hg.out
 refine⟨rfl,1,#[.cells #[.int .i64 x.1,.int .i64 x.2] 43,.cells #[.int .i64 y.1,.int .i64 y.2] 43,.cells #[.int .i64 r1,.int .i64 r2] 3],?_⟩
 rw[Go.Sort.alloc_eq_grow,hw,Go.Sort.grow_grow,List.append_toArray]
 rfl
theorem Zhj (blk off size:Nat)(w:World):CmpLays Tryz.prog 32 #[] J4 2 Ex blk off size w:=fun _ _ _ _ x y=>Zhg x y _
theorem sort_ok:RT Tryz.prog 31 fun _ _ _ xs A=>P9 32 xs A:=
 Z9w Tryz.laysSort (fun w=>Tryz.isAgg43 w) (fun w=>Tryz.sizeOf43 w) (enters_of Tryz.func32 (by kernel_rfl) rfl) Zhj ⟨Tryz.f31,Tryz.func31,by kernel_rfl,by kernel_rfl⟩
set_option maxRecDepth 10000000
theorem Z3n:(Tryz.prog.info? 5).isSome=true:=by kernel_rfl
theorem grow_ok:RT Tryz.prog 81 fun _ _ _ xs A=>D7 xs A:=
 Zfv Tryz.laysGrow (i0:=(Tryz.prog.info? 5).get Z3n) (Option.some_get Z3n).symm (by kernel_rfl) (by kernel_rfl) (by kernel_rfl) rfl ⟨Tryz.f81,Tryz.func81,by kernel_rfl,by kernel_rfl⟩
end Go.Proofs.YtmfdoekbjkgckaaGreat.so
