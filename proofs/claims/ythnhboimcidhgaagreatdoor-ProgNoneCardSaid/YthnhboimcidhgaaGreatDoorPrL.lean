import Derived.Test.YthnhboimcidhgaaGreatDoorPrG
import Derived.Test.YthnhboimcidhgaaGreatDoorEvN
import Derived.Shelf.Strings.BuilderK
namespace Go.Aug
open Go Go.RowKit
theorem kept_alloc (w:World)(o:Obj):Kept w (w.alloc o):=⟨rfl,rfl,rfl,by show w.heap.size<=(w.heap.push o).size;simp,fun k hk=>Lib.alloc_old w o k hk⟩
theorem Kept.refl (w:World):Kept w w:=⟨rfl,rfl,rfl,Nat.le_refl _,fun _ _=>rfl⟩
theorem Kept.trans {a b c:World}(h:Kept a b)(k:Kept b c):Kept a c:=⟨k.os.trans h.os,k.tape.trans h.tape,k.output.trans h.output,Nat.le_trans h.size k.size,fun i hi=>(k.block i (Nat.lt_of_lt_of_le hi h.size)).trans (h.block i hi)⟩
theorem Kept.below {a b c:World}(h:Kept a b){B:Nat}(hB:a.heap.size<=B)(k:Below B b c):Kept a c:=⟨k.os.trans h.os,k.tape.trans h.tape,k.output.trans h.output,Nat.le_trans h.size k.size,fun i hi=>(k.block i (Nat.lt_of_lt_of_le hi hB)).trans (h.block i hi)⟩
theorem bld_kept {T e:TypeId}{B b:Nat}{bs:List Value}{w w':World}(h:Lib.IsBuilderF T e B b bs w)(k:Kept w w'):Lib.IsBuilderF T e B b bs w':=by
 have one:∀ p,Lib.BuilderAtF T e B b p bs w->Lib.BuilderAtF T e B b p bs w':=by
  rintro p ⟨hB,v,hb,⟨hl,ho⟩,hne⟩
  refine⟨hB,v,(k.block b (Array.getElem?_eq_some_iff.1 hb).1).trans hb,⟨hl,?_⟩,hne⟩
  rcases ho with h | ⟨g,cap,cur,fz,h1,h2,h3,h4⟩
  ·exact .inl h
  ·exact .inr ⟨g,cap,cur,fz,h1,h2,(k.block g (Array.getElem?_eq_some_iff.1 h3).1).trans h3,h4⟩
 rcases h with h | h
 ·exact .inl (one _ h)
 ·exact .inr (one _ h)
theorem bld_fresh {T e:TypeId}{b:Nat}{w:World}(h:w.heap[b]? =some (.cells #[.pointer none,.slice none 0 0] T)):Lib.IsBuilderF T e b b (Lib.byteCells []) w:=
 .inl ⟨Nat.le_refl _,_,h,⟨by simp[Lib.byteCells],.inl ⟨rfl,rfl⟩⟩,by simp[Value.ownBlock]⟩
theorem valsOf_ok {c:Cx}:∀ {cs:List AV} {vs Xs:List Value},valsOf cs=some vs->VRs c cs Xs->Xs=vs
 | [],vs,_,h,.nil=>by simp[valsOf] at h;exact h.symm
 | .d (.v x)::l,vs,_,h,.cons hx hs=>by
  simp only[valsOf] at h
  cases hl:valsOf l with
  | none=>simp[hl] at h
  | some r=>
   simp only[hl,Option.some.injEq] at h
   rw[hx.v_inv,valsOf_ok hl hs,h]
theorem lineOf_ok {q:Option (AV×List Blk)}{o:Option ByteArray}(h:lineOf q=some o):∃ x A,q=some (x,A)/\∀(c:Cx) (X:Value),VR c x X->∃ s b,X=.tuple #[.string s,.bool b]/\o=if b then some s else none:=by
 unfold lineOf at h
 split at h
 ·rename_i s ok
  simp only[Option.some.injEq] at h
  refine⟨_,_,rfl,fun c X hx=> ?_⟩
  obtain⟨Xs,rfl,hv⟩:=hx.dtup_inv
  obtain⟨Xs⟩:=Xs
  cases hv
  rename_i h1 hv
  cases hv
  rename_i h2 hv
  cases hv
  cases h1
  cases h2
  exact⟨s,ok,rfl,h.symm⟩
 ·rename_i s ok
  simp only[Option.some.injEq] at h
  refine⟨_,_,rfl,fun c X hx=> ?_⟩
  obtain⟨Xs,rfl,hv⟩:=hx.tup_inv
  obtain⟨Xs⟩:=Xs
  cases hv
  rename_i h1 hv
  cases hv
  rename_i h2 hv
  cases hv
  rw[h1.str_inv,h2.bool_inv]
  exact⟨s,ok,rfl,h.symm⟩
 ·simp at h
theorem texts_step {raw:RawT}{fPr:FuncId}{m:Nat}{l:List Value}{acc:ByteArray}{r:Option ByteArray}(h:textsOf raw fPr (m+1) l acc=some r):
  ∃(a0 a1:Int) (a2:Bool) (a3:ByteArray) (a4 a5 a6:Int) (a7:Bool) (a8:Int) (a9:Bool) (a10:Int) (a11:ByteArray) (a12:Int),∃ rest:List Value,l=.int .i64 a0:: .int .i64 a1:: .bool a2:: .string a3:: .int .i64 a4:: .int .i64 a5:: .int .i64 a6:: .bool a7:: .int .i64 a8:: .bool a9:: .int .i64 a10:: .string a11:: .int .i64 a12::rest/\∃ o,lineOf (raw fPr [.agg ([.int .i64 a0,.int .i64 a1,.bool a2,.string a3,.int .i64 a4,.int .i64 a5,.int .i64 a6,.bool a7,.int .i64 a8,.bool a9,.int .i64 a10,.string a11,.int .i64 a12].map .v)])=some o/\((o=none/\r=none)∨∃ s,o=some s/\acc.size+s.size<=1000000000/\textsOf raw fPr m rest ((acc++s).push 10)=some r):=by
 unfold textsOf at h
 split at h
 ·rename_i heq;simp at heq
 ·rename_i acc' y2 y1 y0 n' a0 a1 a2 a3 a4 a5 a6 a7 a8 a9 a10 a11 a12 rest heq
  obtain rfl:m=n':=by simpa using heq
  refine⟨a0,a1,a2,a3,a4,a5,a6,a7,a8,a9,a10,a11,a12,rest,rfl,?_⟩
  split at h
  ·rename_i s hs
   refine⟨_,hs,.inr ⟨s,rfl,?_⟩⟩
   cases hb:Nat.ble (acc'.size+s.size) 1000000000 with
   | false=>rw[hb] at h;simp at h
   | true=>rw[hb] at h;exact⟨Nat.le_of_ble_eq_true hb,h⟩
  ·rename_i hs
   exact⟨_,hs,.inl ⟨rfl,(Option.some.inj h).symm⟩⟩
  ·simp at h
 ·simp at h
theorem cell_at {w:World}{b k:Nat}{C:Array Value}{e:TypeId}{fz:Nat×Nat}(hb:w.heap[b]? =some (.cells C e fz)){vs l:List Value}{N:Nat}(hC:C.toList.take N=vs)(hl:vs.drop (k*13)=l)(j:Nat){v:Value}(hj:l[j]? =some v):
  w.cell? ⟨b,k*13+j,none⟩=some v:=by
 simp only[World.cell?,hb,Option.isSome_none,Bool.false_eq_true,if_false]
 subst hl
 subst hC
 rw[List.getElem?_drop,List.getElem?_take] at hj
 split at hj
 ·rw[<-Array.getElem?_toList];exact hj
 ·simp at hj
theorem isI_inv {c:Cx}{x:AV}{X:Value}(h:isI x=true)(hx:VR c x X):∃ n,X=.int .i64 n:=by
 unfold isI at h
 split at h
 ·exact⟨_,hx.int_inv⟩
 ·simp at h
theorem isSl_inv {c:Cx}{x:AV}{X:Value}(h:isSl x=true)(hx:VR c x X):∃ a n cp,X=.slice a n cp:=by
 unfold isSl at h
 split at h
 ·obtain⟨b,l,cp,hq,_⟩:=hx.slice_shape (.inl ⟨_,_,_,_,_,_,rfl⟩);exact⟨b,l,cp,hq⟩
 ·obtain⟨b,l,cp,hq,_⟩:=hx.slice_shape (.inr (.inl ⟨_,_,_,rfl⟩));exact⟨b,l,cp,hq⟩
 ·obtain⟨a,cap,rfl⟩:=hx.nel_inv;exact⟨_,_,_,rfl⟩
 ·simp at h
theorem prog_inv {c:Cx}{q:AV}{Q:Value}(h1:isAg q=true)(h2:progCs q.cells=true)(hq:VR c q Q):
  ∃ n0 n1 n2 n3 n4 n5 n6 am lm cm al ll cl ai li ci,Q=.agg #[.int .i64 n0,.int .i64 n1,.int .i64 n2,.int .i64 n3,.int .i64 n4,.int .i64 n5,.int .i64 n6,.slice am lm cm,.slice al ll cl,.slice ai li ci]:=by
 have hb:q.isBot=false:=by cases q<;>first | rfl | simp[isAg] at h1
 have hv:=hq.cells hb
 obtain⟨Xs,rfl⟩:∃ Xs,Q=.agg Xs:=by
  unfold isAg at h1
  split at h1
  ·obtain⟨Xs,rfl,_⟩:=hq.agg_inv;exact⟨_,rfl⟩
  ·obtain⟨Xs,rfl,_⟩:=hq.dagg_inv;exact⟨_,rfl⟩
  ·simp at h1
 obtain⟨Xs⟩:=Xs
 replace hv:VRs c q.cells Xs:=hv
 revert h2 hv
 generalize q.cells=l
 intro h2 hv
 unfold progCs at h2
 split at h2
 ·simp only [Bool.and_eq_true] at h2
  obtain⟨⟨⟨⟨⟨⟨⟨⟨⟨e0,e1⟩,e2⟩,e3⟩,e4⟩,e5⟩,e6⟩,e7⟩,e8⟩,e9⟩:=h2
  obtain _ | ⟨h0,hv⟩:=hv
  obtain _ | ⟨g1,hv⟩:=hv
  obtain _ | ⟨g2,hv⟩:=hv
  obtain _ | ⟨g3,hv⟩:=hv
  obtain _ | ⟨g4,hv⟩:=hv
  obtain _ | ⟨g5,hv⟩:=hv
  obtain _ | ⟨g6,hv⟩:=hv
  obtain _ | ⟨g7,hv⟩:=hv
  obtain _ | ⟨g8,hv⟩:=hv
  obtain _ | ⟨g9,hv⟩:=hv
  obtain _ | _:=hv
  obtain⟨_,rfl⟩:=isI_inv e0 h0
  obtain⟨_,rfl⟩:=isI_inv e1 g1
  obtain⟨_,rfl⟩:=isI_inv e2 g2
  obtain⟨_,rfl⟩:=isI_inv e3 g3
  obtain⟨_,rfl⟩:=isI_inv e4 g4
  obtain⟨_,rfl⟩:=isI_inv e5 g5
  obtain⟨_,rfl⟩:=isI_inv e6 g6
  obtain⟨_,_,_,rfl⟩:=isSl_inv e7 g7
  obtain⟨_,_,_,rfl⟩:=isSl_inv e8 g8
  obtain⟨_,_,_,rfl⟩:=isSl_inv e9 g9
  exact⟨_,_,_,_,_,_,_,_,_,_,_,_,_,_,_,_,rfl⟩
 ·simp at h2
theorem tupOf_ok {c:Cx}{x:AV}{X:Value}{l:List AV}(h:tupOf x=some l)(hx:VR c x X):∃ Xs:List Value,X=.tuple ⟨Xs⟩/\VRs c l Xs:=by
 unfold tupOf at h
 split at h
 ·simp only [Option.some.injEq] at h
  subst h
  obtain⟨⟨Xs⟩,rfl,hv⟩:=hx.tup_inv
  exact⟨Xs,rfl,hv⟩
 ·simp only [Option.some.injEq] at h
  subst h
  obtain⟨⟨Xs⟩,rfl,hv⟩:=hx.dtup_inv
  exact⟨Xs,rfl,VRs.ofD hv⟩
 ·simp at h
theorem back_inv {raw:RawT}{fSame:FuncId}{p:DV}{o:Option (AV×List Blk)}{b:Bool}(h:backOf raw fSame p o=some b):
  ∃ x A,o=some (x,A)/\∃ q n m ok,tupOf x=some [q,.d (.v (.int .i64 n)),.d (.v (.int .i64 m)),.d (.v (.bool ok))]/\isAg q=true/\progCs q.cells=true/\
   ((ok=false/\b=false)∨ok=true/\∃ ds u A2,mapD (deep A 8) [q,.d p]=some (ds,u)/\raw fSame ds=some (.d (.v (.bool b)),A2)):=by
 unfold backOf at h
 split at h
 ·rename_i x A
  refine⟨x,A,rfl,?_⟩
  unfold backT at h
  split at h
  ·rename_i q n m ok ht
   cases h1:(isAg q&&progCs q.cells) with
   | false=>rw[h1] at h;simp at h
   | true=>
    rw[h1] at h
    simp only[Bool.and_eq_true] at h1
    refine⟨q,n,m,ok,ht,h1.1,h1.2,?_⟩
    cases ok with
    | false=>simp at h;exact .inl ⟨rfl,h⟩
    | true=>
     simp only[cond_true] at h
     refine .inr ⟨rfl,?_⟩
     unfold sameOf at h
     split at h
     ·rename_i ds u hm
      refine⟨ds,u,?_⟩
      unfold sameAns at h
      split at h
      ·rename_i b' hr
       simp only[Option.some.injEq] at h
       subst h
       exact⟨[],hm,hr⟩
      ·simp at h
     ·simp at h
  ·simp at h
 ·simp at h
theorem size_mk (l:List UInt8):(ByteArray.mk l.toArray).size=l.length:=List.size_toArray
theorem bytes_line (acc:List UInt8)(s:ByteArray):Lib.byteCells (acc++s.data.toList++[10])=(Lib.byteCells acc++Lib.strCells s)++[.int .u8 10]:=by
 simp[Lib.byteCells,Lib.strCells]
theorem bytes_push (acc:List UInt8)(s:ByteArray):(ByteArray.mk acc.toArray++s).push 10=ByteArray.mk (acc++s.data.toList++[10]).toArray:=by
 apply ByteArray.ext
 show(ByteArray.mk acc.toArray++s).data.push 10=_
 rw[ByteArray.data_append]
 apply Array.ext'
 simp
theorem ans_post {I:Nat->Prop}{w w':World}(hI:∀ b,I b->b<w.heap.size)(k:Kept w w')(s:ByteArray)(b:Bool){x:AV}{Ac:List Blk}(h:ansT s b=some (x,Ac)):RawPost I w x Ac (.returned (.tuple #[.string s,.bool b])) w':=by
 unfold ansT at h
 simp only[Option.some.injEq,Prod.mk.injEq] at h
 obtain⟨rfl,rfl⟩:=h
 exact⟨_,⟨I,fun _=>0,w',[],fun _=>False⟩,rfl,rfl,k,⟨fun _ _ hp=>hp.elim,fun _ _ hp=>hp.elim,fun b hb=>Nat.lt_of_lt_of_le (hI b hb) k.size⟩,rfl,.tup (.cons (.d (.v _ rfl)) (.cons (.d (.v _ rfl)) .nil)),fun _ h=>h,fun _ h=>.inl h,fun _ hp=>hp.elim⟩
end Go.Aug
