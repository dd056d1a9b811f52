import Derived.Test.YtmfdoekbjkgckaaGreatEvN
import Derived.Carry
import Derived.ChangeSlices
import Derived.OpenShut
import Derived.RowKit
namespace Go.Aug
open Go Go.ChangeShapes Go.WideShapes Go.RowKit
inductive Typ where
 | bool | str
 | int (k:IntKind)
 | slice (t:Typ)
 | recd (fs:List Typ)
 deriving Inhabited
def Rq (P:Program):Nat->List Field->Option Nat
 | n,[]=>some n
 | n,f::l=>if f.offset=n then Rq P (n+P.cellsOf f.type) l else none
def GG (P:Program):Nat->TypeId->Option Typ
 | 0,_=>none
 | d+1,t=>match P.underlying t with
  | some .bool=>some .bool
  | some .string=>some .str
  | some (.int k)=>some (.int k)
  | some (.slice e)=>if P.cellsOf e=0 then none else(GG P d e).map .slice
  | some (.struct fs)=>if Rq P 0 fs.toList=some (P.cellsOf t) then(fs.toList.mapM fun f=>GG P d f.type).map .recd else none
  | some (.array n e)=>if P.cellsOf t=n*P.cellsOf e then(GG P d e).map fun x=>.recd (List.replicate n x) else none
  | _=>none
mutual
inductive WT:Typ->List DV->Prop
 | bool (b:Bool):WT .bool [.v (.bool b)]
 | str (s:ByteArray) (h:s.size<=maxLen):WT .str [.v (.string s)]
 | int (k:IntKind) (n:Int) (h:(Lit.int k n).wf=true):WT (.int k) [.v (.int k n)]
 | slice {t:Typ} {n:Nat} {cs:List DV} (hn:n<=maxLen) (h:WTn t n cs):WT (.slice t) [.lst cs n none]
 | recd {fs:List Typ} {cs:List DV} (h:WTs fs cs):WT (.recd fs) cs
inductive WTn:Typ->Nat->List DV->Prop
 | nil (t:Typ):WTn t 0 []
 | cons {t:Typ} {n:Nat} {x cs:List DV} (h:WT t x) (hs:WTn t n cs):WTn t (n+1) (x++cs)
inductive WTs:List Typ->List DV->Prop
 | nil:WTs [] []
 | cons {t:Typ} {ts:List Typ} {x cs:List DV} (h:WT t x) (hs:WTs ts cs):WTs (t::ts) (x++cs)
end
theorem DRs.append {I:Nat->Prop}{w:World}:∀ {xs:List DV} {Xs:List Value} {ys:List DV} {Ys:List Value},DRs I w xs Xs->DRs I w ys Ys->DRs I w (xs++ys) (Xs++Ys)
 | [],[],_,_,_,h=>h
 | _::_,_::_,_,_,.cons h hs,h'=>.cons h (DRs.append hs h')
theorem DRm.of {I:Nat->Prop}{w:World}{b:Nat}:∀ {xs:List DV} {Xs:List Value} {o:Nat},DRs I w xs Xs->(∀ i,i<Xs.length->w.cell? ⟨b,o+i,none⟩=Xs[i]?)->DRm I w xs b o
 | [],[],_,_,_=>.nil
 | _::_,X::Xs,o,.cons h hs,hc=>by
  refine .cons (X:=X) ?_ h (DRm.of hs fun i hi=> ?_)
  ·simpa using hc 0 (by simp)
  ·have := hc (i + 1) (by simp; omega)
   simpa [Nat.add_assoc,Nat.add_comm 1 i] using this
theorem DRm.append {I:Nat->Prop}{w:World}{b:Nat}:∀ {xs:List DV} {o:Nat} {ys:List DV},DRm I w xs b o->DRm I w ys b (o+xs.length)->DRm I w (xs++ys) b o
 | [],_,_,_,h=>by simpa using h
 | _::xs,o,_,.cons hc h hs,h'=>by
  refine .cons hc h (DRm.append hs ?_)
  have e:o+1+xs.length=o+(xs.length+1):=by omega
  rw[e];simpa using h'
section
variable {H:Type} {enc:TypeId×Value->H} {P:Program} {w:World}
theorem S4:∀(d:Nat) (t:TypeId) (T:Typ),GG P d t=some T->∀(fuel:Nat) (cs:List Value) (x:DataW H×List MemPlace),
  DataW.trod enc P w 0 (fun _=>true) true fuel t cs=some x->∀(I:Nat->Prop),(∀ b o,MemPlace.cell b o ∈ x.2->I b)->∃ xs,DRs I w xs cs/\WT T xs
 | 0,t,T,ht,_,_,_,_,_,_=>by simp[GG] at ht
 | d+1,t,T,ht,fuel,cs,x,h,I,hI=>by
  unfold GG at ht
  split at ht
  ·rename_i hu
   simp at ht;subst ht
   obtain⟨b,rfl,rfl⟩:=DataW.trod_bool hu h
   exact⟨_,.cons (.v _ rfl) .nil,.bool b⟩
  ·rename_i hu
   simp at ht;subst ht
   obtain⟨s,rfl,rfl,hs⟩:=DataW.trod_string hu h
   exact⟨_,.cons (.v _ rfl) .nil,.str s hs⟩
  ·rename_i k hu
   simp at ht;subst ht
   obtain⟨n,rfl,rfl,hw⟩:=DataW.trod_int hu h
   exact⟨_,.cons (.v _ rfl) .nil,.int k n hw⟩
  ·rename_i e hu
   split at ht
   ·simp at ht
   rename_i hc0
   simp only[Option.map_eq_some_iff] at ht
   obtain⟨E,hE,rfl⟩:=ht
   rcases DataW.trod_slice hu h with⟨rfl,rfl⟩ | ⟨a,len,cap,elems,rest,n,rfl,rfl,rfl,hb,hl,hm,hlen,hel,_,_⟩
   ·exact⟨[.lst [] 0 none],.cons (.emp (by simp)) .nil,.slice (by simp) (.nil E)⟩
   ·rcases Nat.eq_zero_or_pos len with hz | hz
    ·subst hz
     exact⟨[.lst [] 0 none],.cons (.nil (by simp)) .nil,.slice (by simp) (.nil E)⟩
    have hspot:a.spot=none:=by
     have hi:=hel 0 hz
     have hlt:0<elems.length:=by omega
     rw[List.getElem?_eq_getElem hlt,Option.bind_eq_some_iff] at hi
     obtain⟨cs',hc',_⟩:=hi
     obtain⟨_,hcl,hcc⟩:=World.cells?_some hc'
     have:=hcc 0 (by omega)
     have h2:cs'[0]? ≠none:=by rw[List.getElem?_eq_getElem (by omega)];simp
     rw[<-this] at h2
     unfold World.cell? at h2
     split at h2
     ·split at h2
      ·simp at h2
      ·rename_i hs;simpa [Addr.add] using hs
     ·simp at h2
    obtain⟨ab,ao,asp⟩:=a
    simp only at hspot;subst hspot
    have key:∀ k,k<=len->∃ xs,xs.length=k*P.cellsOf e/\DRm I w xs ab (ao+(len-k)*P.cellsOf e)/\WTn E k xs:=by
     intro k
     induction k with
     | zero=>exact fun _=>⟨[],by simp,.nil,.nil E⟩
     | succ k ih=>
      intro hk
      obtain⟨xs,hxl,hxm,hxt⟩:=ih (by omega)
      have hi:=hel (len-(k+1)) (by omega)
      have hlt:len-(k+1)<elems.length:=by omega
      rw[List.getElem?_eq_getElem hlt,Option.bind_eq_some_iff] at hi
      obtain⟨cs',hc',ht'⟩:=hi
      obtain⟨_,hcl,hcc⟩:=World.cells?_some hc'
      obtain⟨ys,hy,hyt⟩:=S4 d e E hE n cs' _ ht' I (fun b o hbo=>hI b o (by
       simp only[List.mem_append,List.mem_flatMap]
       exact .inr ⟨_,.inl (List.getElem_mem hlt),hbo⟩))
      have hyl:ys.length=P.cellsOf e:=by have:=hy.len;omega
      refine⟨ys++xs,?_,DRm.append (DRm.of hy fun i hi=> ?_) ?_,.cons hyt hxt⟩
      ·simp only[List.length_append,hxl,hyl,Nat.add_mul];omega
      ·have h3 := hcc i (by omega)
       rw[<-h3]
       congr 1
       simp only[Addr.add]
       split<;>split<;>simp_all<;>omega
      ·rw [hyl]
       have e1:ao+(len-(k+1))*P.cellsOf e+P.cellsOf e=ao+(len-k)*P.cellsOf e:=by
        have:len-k=(len-(k+1))+1:=by omega
        rw[this,Nat.add_mul];omega
       rw[e1];exact hxm
    obtain⟨xs,hxl,hxm,hxt⟩:=key len (Nat.le_refl _)
    simp only[Nat.sub_self,Nat.zero_mul,Nat.add_zero] at hxm
    refine⟨[.lst xs len none],.cons (.lst (hI ab ao ?_) hl (by simp) hxm) .nil,.slice (by omega) hxt⟩
    simp only[List.mem_append,MemPlace.row,List.mem_map,List.mem_range]
    refine .inl ⟨0,?_,by simp⟩
    have:0<len*P.cellsOf e:=Nat.mul_pos hz (by omega)
    rw[Nat.add_mul,hlen];omega
  ·rename_i fs hu
   split at ht
   ·rename_i hcg
    simp only[Option.map_eq_some_iff] at ht
    obtain⟨Ts,hTs,rfl⟩:=ht
    obtain⟨xs,n,rfl,rfl,hcl,hxl,hf⟩:=DataW.trod_struct hu h
    have key:∀(l:List Field) (Ts:List Typ) (j off:Nat),fs.toList.drop j=l->l.mapM (fun f=>GG P d f.type)=some Ts->Rq P off l=some (P.cellsOf t)->∃ ys,DRs I w ys (cs.drop off)/\WTs Ts ys:=by
     intro l
     induction l with
     | nil=>
      intro Ts j off hd hm hc
      simp at hm;subst hm
      simp only[Rq,Option.some.injEq] at hc
      rw[List.drop_eq_nil_of_le (by omega)]
      exact⟨[],.nil,.nil⟩
     | cons f l ih=>
      intro Ts j off hd hm hc
      rw[List.mapM_cons] at hm
      simp only[Option.bind_eq_bind,Option.bind_eq_some_iff,Option.pure_def,Option.some.injEq] at hm
      obtain⟨T1,h1,Ts1,h2,rfl⟩:=hm
      simp only[Rq] at hc
      split at hc
      ·rename_i ho
       have hj:fs[j]? =some f:=by
        have:(fs.toList.drop j)[0]? =some f:=by rw[hd];rfl
        simpa using this
       have hd':fs.toList.drop (j+1)=l:=by
        rw[<-List.drop_drop,hd];rfl
       have hfj:=hf j f hj
       have hjl:j<xs.length:=by
        rw[hxl]
        exact(Array.getElem?_eq_some_iff.1 hj).1
       rw[List.getElem?_eq_getElem hjl] at hfj
       obtain⟨ys,hy,hyt⟩:=S4 d f.type T1 h1 n _ _ hfj I (fun b o hbo=>hI b o (by
        simp only[List.mem_flatMap]
        exact⟨_,List.getElem_mem hjl,hbo⟩))
       obtain⟨zs,hz,hzt⟩:=ih Ts1 (j+1) _ hd' h2 hc
       refine⟨ys++zs,?_,.cons hyt hzt⟩
       have e:cs.drop off=(cs.drop f.offset).take (P.cellsOf f.type)++cs.drop (off+P.cellsOf f.type):=by
        rw[ho,<-List.drop_drop,List.take_append_drop]
       rw[e]
       exact hy.append hz
      ·simp at hc
    obtain⟨ys,hy,hyt⟩:=key fs.toList Ts 0 0 (by simp) hTs hcg
    exact⟨ys,by simpa using hy,.recd hyt⟩
   ·simp at ht
  ·rename_i n e hu
   split at ht
   ·rename_i hcg
    simp only[Option.map_eq_some_iff] at ht
    obtain⟨E,hE,rfl⟩:=ht
    obtain⟨xs,m,rfl,rfl,hcl,hxl,hf⟩:=DataW.trod_array hu h
    have key:∀ k,k<=n->∃ ys,DRs I w ys (cs.drop ((n-k)*P.cellsOf e))/\WTs (List.replicate k E) ys:=by
     intro k
     induction k with
     | zero=>
      intro _
      rw[List.drop_eq_nil_of_le (by simp;omega)]
      exact⟨[],.nil,.nil⟩
     | succ k ih=>
      intro hk
      obtain⟨zs,hz,hzt⟩:=ih (by omega)
      have hfj:=hf (n-(k+1)) (by omega)
      have hjl:n-(k+1)<xs.length:=by omega
      rw[List.getElem?_eq_getElem hjl] at hfj
      obtain⟨ys,hy,hyt⟩:=S4 d e E hE m _ _ hfj I (fun b o hbo=>hI b o (by
       simp only[List.mem_flatMap]
       exact⟨_,List.getElem_mem hjl,hbo⟩))
      refine⟨ys++zs,?_,.cons hyt hzt⟩
      have e1:(n-k)*P.cellsOf e=(n-(k+1))*P.cellsOf e+P.cellsOf e:=by
       have:n-k=(n-(k+1))+1:=by omega
       rw[this,Nat.add_mul];omega
      have e2:cs.drop ((n-(k+1))*P.cellsOf e)=(cs.drop ((n-(k+1))*P.cellsOf e)).take (P.cellsOf e)++cs.drop ((n-k)*P.cellsOf e):=by
       rw[e1,<-List.drop_drop,List.take_append_drop]
      rw[e2]
      exact hy.append hz
    obtain⟨ys,hy,hyt⟩:=key n (Nat.le_refl _)
    exact⟨ys,by simpa using hy,.recd hyt⟩
   ·simp at ht
  ·simp at ht
inductive WA:List Typ->List AV->Prop
 | nil:WA [] []
 | one {T:Typ} {Ts:List Typ} {x:DV} {xs:List AV} (hT:∀ fs,T≠ .recd fs) (h:WT T [x]) (hs:WA Ts xs):WA (T::Ts) (.d x::xs)
 | agg {fs:List Typ} {Ts:List Typ} {cs:List DV} {xs:List AV} (h:WTs fs cs) (hs:WA Ts xs):WA (.recd fs::Ts) (.d (.agg cs)::xs)
def P6 (P:Program):List TypeId->Option (List Typ)
 | []=>some []
 | t::l=>match GG P 8 t,P6 P l with
  | some a,some b=>some (a::b)
  | _,_=>none
theorem Z79 {I:Nat->Prop}{r:Reach}{b0:Nat}:∀ {ts:List TypeId} {Ts:List Typ} {vs:List Value} {ds:List (DataW H)} {ps:List MemPlace},P6 P ts=some Ts->
  DataW.TrodAll enc P w 0 (fun _=>true) true ts vs ds ps->(∀(j:Nat) (t:TypeId) (v:Value),ts[j]? =some t->vs[j]? =some v->Value.okWide P w r b0 t v)->(∀ b o,MemPlace.cell b o ∈ ps->I b)->
  ∃ xs,VRs (BV I w) xs vs/\WA Ts xs
 | [],Ts,vs,ds,ps,ht,h,_,_=>by
  simp[P6] at ht;subst ht
  obtain⟨rfl,rfl,rfl⟩:=trodAll_nil h
  exact⟨[],.nil,.nil⟩
 | t::ts,Ts,vs,ds,ps,ht,h,hv,hI=>by
  obtain⟨v,vs,d,ds,p,q,rfl,rfl,rfl,h1,h2⟩:=trodAll_cons h
  unfold P6 at ht
  split at ht
  ·rename_i T Us hT hUs
   simp at ht;subst ht
   obtain⟨xs,hx,hw⟩:=Z79 hUs h2 (fun j t' v' hj hv'=>hv (j+1) t' v' (by simpa using hj) (by simpa using hv')) (fun b o hbo=>hI b o (by simp[hbo]))
   have hval:=hv 0 t v rfl rfl
   obtain⟨fuel,hf⟩:=h1
   obtain⟨ys,hy,hyt⟩:=S4 8 t T hT fuel _ _ hf I (fun b o hbo=>hI b o (by simp[show MemPlace.cell b o ∈ p from hbo]))
   have one:∀ v0:Value,v=v0->v0.cells.toList=[v0]->(∀ fs,T≠ .recd fs)->∃ xs,VRs (BV I w) xs (v::vs)/\WA (T::Us) xs:=by
    intro v0 e hc hn
    subst e
    rw[hc] at hy
    cases hy with
    | cons a b=>
     cases b
     exact⟨_,.cons (.d a) hx,.one hn hyt hw⟩
   have agg:∀(cs:Array Value) (fs:List Typ),v=.agg cs->T=.recd fs->∃ xs,VRs (BV I w) xs (v::vs)/\WA (T::Us) xs:=by
    intro cs fs e hc
    subst e;subst hc
    cases hyt with
    | recd h=>exact⟨_,.cons (.d (.agg hy)) hx,.agg h hw⟩
   unfold GG at hT
   split at hT
   ·rename_i hu
    simp at hT;subst hT
    obtain⟨b,rfl⟩:=okWide_bool hu hval
    exact one _ rfl rfl (by simp)
   ·rename_i hu
    simp at hT;subst hT
    obtain⟨b,rfl⟩:=okWide_string hu hval
    exact one _ rfl rfl (by simp)
   ·rename_i k hu
    simp at hT;subst hT
    obtain⟨b,rfl⟩:=okWide_int hu hval
    exact one _ rfl rfl (by simp)
   ·rename_i e hu
    split at hT
    ·simp at hT
    simp only[Option.map_eq_some_iff] at hT
    obtain⟨E,hE,rfl⟩:=hT
    obtain⟨a,l,c,rfl⟩:=okWide_slice hu hval
    exact one _ rfl rfl (by simp)
   ·rename_i fs hu
    split at hT
    ·simp only [Option.map_eq_some_iff] at hT
     obtain⟨E,hE,rfl⟩:=hT
     obtain⟨cs,rfl,_⟩:=okWide_struct hu hval
     exact agg cs _ rfl rfl
    ·simp at hT
   ·rename_i n e hu
    split at hT
    ·simp only [Option.map_eq_some_iff] at hT
     obtain⟨E,hE,rfl⟩:=hT
     unfold Value.okWide at hval
     rw[hu] at hval
     obtain⟨cs,rfl,_⟩:=hval
     exact agg cs _ rfl rfl
    ·simp at hT
   ·simp at hT
  ·simp at ht
theorem Z78 {w':World}(hl:laidOutB P=true)(hb:Below w.heap.size w w'):∀ {ts:List TypeId} {vs:List Value} {ds:List (DataW H)} {ps:List MemPlace},
  DataW.TrodAll enc P w 0 (fun _=>true) true ts vs ds ps->(ts.all fun t=>P.readableRec t&&decide (t<P.types.size))=true->
  DataW.TrodAll enc P w' 0 (fun b=>decide (b<w.heap.size)) true ts vs ds ps
 | [],_,_,_,h,_=>by
  obtain⟨rfl,rfl,rfl⟩:=trodAll_nil h
  rfl
 | t::ts,_,_,_,h,hr=>by
  obtain⟨v,vs,d,ds,p,q,rfl,rfl,rfl,h1,h2⟩:=trodAll_cons h
  simp only[List.all_cons,Bool.and_eq_true,decide_eq_true_eq] at hr
  refine⟨p,q,Below.trod hl hr.1.1 hr.1.2 h1 hb ?_,Z78 hl hb h2 (by simpa using hr.2),rfl⟩
  obtain⟨n,hn⟩:=h1
  exact DataW.trod_lt n _ _ _ hn
theorem XY:∀ {ts:List TypeId} {vs:List Value} {ds:List (DataW H)} {ps:List MemPlace},
  DataW.TrodAll enc P w 0 (fun _=>true) true ts vs ds ps->∀ p ∈ ps,p.block<w.heap.size
 | [],_,_,_,h=>by
  obtain⟨rfl,rfl,rfl⟩:=trodAll_nil h
  simp
 | t::ts,_,_,_,h=>by
  obtain⟨v,vs,d,ds,p,q,rfl,rfl,rfl,⟨n,hn⟩,h2⟩:=trodAll_cons h
  intro x hx
  simp only[List.mem_append] at hx
  rcases hx with hx | hx
  ·exact DataW.trod_lt n _ _ _ hn x hx
  ·exact XY h2 x hx
theorem XZ:∀ {ts:List TypeId} {vs:List Value} {ds:List (DataW H)} {ps:List MemPlace},DataW.TrodAll enc P w 0 (fun _=>true) true ts vs ds ps->ds.length=ts.length
 | [],_,_,_,h=>by obtain⟨rfl,rfl,rfl⟩:=trodAll_nil h;rfl
 | t::ts,_,_,_,h=>by
  obtain⟨v,vs,d,ds,p,q,rfl,rfl,rfl,h1,h2⟩:=trodAll_cons h
  simp[XZ h2]
theorem WA.nil_inv {xs:List AV}(h:WA [] xs):xs=[]:=by cases h;rfl
theorem WA.int_inv {k:IntKind}{Ts:List Typ}{xs:List AV}(h:WA (.int k::Ts) xs):∃ n ys,xs=.d (.v (.int k n))::ys/\(Lit.int k n).wf=true/\WA Ts ys:=by
 cases h with
 | one hT h hs=>cases h with | int _ n hw=>exact⟨n,_,rfl,hw,hs⟩
theorem WA.bool_inv {Ts:List Typ}{xs:List AV}(h:WA (.bool::Ts) xs):∃ b ys,xs=.d (.v (.bool b))::ys/\WA Ts ys:=by
 cases h with
 | one hT h hs=>cases h with | bool b=>exact⟨b,_,rfl,hs⟩
theorem WTn.ints {k:IntKind}:∀ {n:Nat} {cs:List DV},WTn (.int k) n cs->∃ zs:List Int,cs=zs.map (fun z=>.v (.int k z))/\zs.length=n/\∀ z ∈ zs,(Lit.int k z).wf=true
 | 0,_,.nil _=>⟨[],rfl,rfl,by simp⟩
 | n+1,_,.cons h hs=>by
  obtain⟨zs,rfl,hl,hw⟩:=WTn.ints hs
  cases h with
  | int _ z hz=>exact⟨z::zs,rfl,by simp[hl],by simpa using⟨hz,hw⟩⟩
def VV (k:IntKind)(zs:List Int):DV:=.lst (zs.map fun z=>.v (.int k z)) zs.length none
theorem WA.ints_inv {k:IntKind}{Ts:List Typ}{xs:List AV}(h:WA (.slice (.int k)::Ts) xs):∃ zs ys,xs=.d (VV k zs)::ys/\zs.length<=maxLen/\(∀ z ∈ zs,(Lit.int k z).wf=true)/\WA Ts ys:=by
 cases h with
 | one hT h hs=>
  cases h with
  | slice hn h=>
   obtain⟨zs,rfl,rfl,hw⟩:=h.ints
   exact⟨zs,_,rfl,hn,hw,hs⟩
end
end Go.Aug
