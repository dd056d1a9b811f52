import Derived.Test.YtmfdoekbjkgckaaGreatEvH
import Derived.LaidEqlPtr
import Derived.Laws.Pointers
import Derived.Laws.MakeOwn
import Derived.Laws.CopyRow
namespace Go.Aug
open Go
theorem Z2t {P:Program}{c:Cx}{a:Act}{o:Oper}{t:TypeId}{y1 y2:Operand}{f:Zw}{tm:List AV}{E:Env}{call:cT}{A:List Blk}{nb:Nat}{d:Done}(ho:o.op=.makeSlice t y1 y2)
  (h:ZN P (.makeSlice t y1 y2)=some f) (ht:TR c tm a) (hd:f E call tm A nb=some d):∃ x b,d=.made x [b]/\BJ P c a o nb x b:=by
 simp only[ZN] at h
 split at h
 ·rename_i e l cc hu h1 h2
  split at h
  ·rename_i i zs hi hz
   split at h
   ·rename_i hc
    simp at h;subst h
    simp only[M3] at hd
    unfold T6 at hd
    split at hd
    ·rename_i kl l' kc c' e1 e2
     have hL:=VR.look ht h1
     have hC:=VR.look ht h2
     rw[e1] at hL
     rw[e2] at hC
     split at hd
     ·rename_i hb
      obtain⟨b1,b2,b3,b4⟩:=hb
      simp at hd
      refine⟨_,_,hd.symm,?_⟩
      obtain⟨i',z,hi',hzz,hzo,hzs⟩:=TU hz
      rw[hi] at hi'
      simp at hi'
      subst hi'
      have hv:=RA (c:=c) hzo
      have hrun:=run_make (P:=P) c.w t e i z hu hi hzz kl kc l' c' b1 b2 (by simp[Z4] at b3;omega) (by simp[Z4] at b4;omega)
      have harr:(madeCells z.cells (c'.toNat*i.size)).toList=rep z.cells.toList c'.toNat:=by
       have hzz2:z.cells.size=i.size:=by omega
       rw[<-hzz2]
       exact Sz z.cells (by omega) c'.toNat
      have hvr:=hv.rep c'.toNat
      refine⟨_,_,c.w.alloc (.cells (madeCells z.cells (c'.toNat*i.size)) e),?_,rfl,rfl,rfl,rfl,rfl,rfl,⟨madeCells z.cells (c'.toNat*i.size),e,rfl,?_,?_⟩,
       .inr ⟨l'.toNat,i.size,some c'.toNat,c'.toNat,rfl,rfl,by omega,fun m hm=>by simpa using hm,_,e,(0,0),rfl,(size_madeCells _ _).symm⟩⟩
      ·simp only [execOp, ho]
       rw[hL.int_inv,hC.int_inv]
       exact Sq hrun
      ·have := hvr.length
       rw[<-harr] at this
       simp at this
       simp
       omega
      ·have := hvr.length
       rw[harr,List.take_of_length_le (by omega)]
       exact⟨hvr,hc.2.2⟩
     ·simp at hd
    ·simp at hd
   ·simp at h
  ·simp at h
 ·simp at h
theorem Zfj {x:AV}(h:x.cells.all AV.one=true):x.isBot=false:=by
 cases x<;>first | rfl | simp[AV.cells,AV.one] at h
theorem VR.one {c:Cx}{x:AV}{X:Value}(h:VR c x X)(h1:x.one=true):X.oneCell'=true:=by
 cases h with
 | d h=>
  cases h with
  | v x hx=>exact hx
  | agg h=>simp[AV.one] at h1
  | tup h=>simp[AV.one] at h1
  | _=>rfl
 | bot=>simp[AV.one] at h1
 | agg h=>simp[AV.one] at h1
 | tup h=>simp[AV.one] at h1
 | _=>rfl
theorem VRs.ones {c:Cx}:∀ {xs:List AV} {Xs:List Value},VRs c xs Xs->xs.all AV.one=true->∀ X ∈ Xs,X.oneCell'=true
 | _,_,.nil,_,X,hX=>by simp at hX
 | _,_,.cons h hs,h1,X,hX=>by
  simp at h1
  simp at hX
  rcases hX with rfl | hX
  ·exact h.one h1.1
  ·exact VRs.ones hs (by simpa using h1.2) X hX
theorem Z0a {α:Type}(C l:List α)(off n:Nat)(h1:off<=n)(h2:n<=C.length)(h3:off+l.length<=C.length):(splice C off l).take (splice (C.take n) off l).length=splice (C.take n) off l:=by
 have e:splice (C.take n) off l=(C.take off++l)++(C.drop (off+l.length)).take (n-(off+l.length)):=by
  unfold splice
  rw[List.take_take,Nat.min_eq_left h1,List.drop_take]
 rw[e,List.length_append,splice]
 have e2:((C.drop (off+l.length)).take (n-(off+l.length))).length=n-(off+l.length):=by simp;omega
 rw[e2,List.take_length_add_append]
def Xz (c:Cx)(i:Nat)(b:Blk)(w':World)(c':Cx):Prop:=Fr c c'/\Rel c'/\c'.w=w'/\c'.A=c.A.set i b/\c'.Pr=c.Pr/\c'.I=c.I
theorem UC {P:Program}{c:Cx}(hr:Rel c){i ver off:Nat}{cs xs:List AV}{Xs:List Value}(hp:c.Pr i)(hb:c.A[i]? =some (.cells cs ver false))(hv:VRs c xs Xs)(h1:xs.all AV.one=true)
  {cs':List AV} (hle:off+xs.length<=Yz c.w (c.ρ i)) (hcs:cs'=splice cs off xs) (hoff:off<=cs.length) {v':Nat} (hv':ver<=v'):
  ∃ w' c',(storeCells ⟨c.ρ i,off,none⟩ Xs).run P c.w=.ok () w'/\Xz c i (.cells cs' v' false) w' c'/\c'.ρ=c.ρ/\Yz w' (c.ρ i)=Yz c.w (c.ρ i):=by
 obtain⟨C,e,hheap,hsz,hlen,hcells,_⟩:=hr.mem hp hb
 have hl:=hv.length
 have hrun:=run_storeCells_at P (c.ρ i) off e Xs 0 C c.w hheap (by omega) (hv.ones h1)
 simp only[Nat.add_zero] at hrun
 let C':Array Value:=(C.toList.take off++Xs++C.toList.drop (off+Xs.length)).toArray
 have hC':C'.toList=splice C.toList off Xs:=by simp[C',splice]
 have hCs:C'.size=C.size:=by
  have:=S7 C.toList off Xs (by simp;omega)
  rw[<-hC'] at this
  simpa using this
 have hnew:(c.w.setRow (c.ρ i) C').heap[c.ρ i]? =some (.cells C' e (0,0)):=setRow_heap _ _ _ _ _ _ hheap
 have hbs:Yz (c.w.setRow (c.ρ i) C') (c.ρ i)=Yz c.w (c.ρ i):=by
  rw[<-hsz,<-hCs];unfold Yz;rw[hnew]
 have hrel:∀ c',Ext c c'->Aq c' (.cells cs' v' false) (.cells C' e (0,0)):=by
  intro c' ext
  refine⟨C',e,rfl,?_,?_⟩
  ·rw [hcs]
   unfold splice
   simp
   omega
  ·have key:VRs c cs' (C'.toList.take cs'.length):=by
    have hsp:=(hcells.splice hv off)
    have:C'.toList.take cs'.length=splice (C.toList.take cs.length) off Xs:=by
     rw[hC',hcs,hsp.length]
     exact Z0a _ _ _ _ hoff (by simp;omega) (by simp;omega)
    rw[this,hcs]
    exact hsp
   exact⟨key.mono ext,hr.mem_okT hp hb hheap⟩
 obtain⟨fr,rel⟩:=hr.turn (b':=.cells cs' v' false) (o':=.cells C' e (0,0)) (w':=c.w.setRow (c.ρ i) C') (r:=c.ρ i) (v:=ver) (v':=v') hp hb rfl rfl rfl rfl hv' (fun _=>⟨rfl,hbs⟩) (.inl rfl) hnew hrel
  (fun k _ hk=>setRow_other _ _ _ _ hk) (by simp) rfl rfl rfl
 have hρ:(fun j=>if j=i then c.ρ i else c.ρ j)=c.ρ:=by
  funext j
  by_cases h:j=i
  ·subst h;simp
  ·simp[h]
 rw[hρ] at fr rel
 exact⟨_,_,hrun,⟨fr,rel,rfl,rfl,rfl,rfl⟩,rfl,hbs⟩
theorem WS {P:Program}{t:TypeId}{y z:Operand}{f:Zw}(h:ZN P (.store t y z)=some f):∃ a x n,Zx y=some a/\Zx z=some x/\Q0 P t=some n/\f=oS a x n:=by
 simp only[ZN] at h
 split at h
 ·rename_i a x s h1 h2 h3
  simp at h
  exact⟨a,x,s,h1,h2,h3,h.symm⟩
 ·simp at h
theorem W6 {A A':List Blk}{a x:AV}{n:Nat}(h:GX A a x n=some A'):
  ∃ i ver off cs,a=.ref i ver off/\A[i]? =some (.cells cs ver false)/\x.cells.length=n/\off+n<=cs.length/\x.cells.all AV.one=true/\A'=A.set i (.cells (splice cs off x.cells) ver false):=by
 unfold GX at h
 split at h
 ·split at h
  ·rename_i cs v hb
   split at h
   ·rename_i hc
    obtain⟨rfl,h2,h3,h4⟩:=hc
    simp at h
    exact⟨_,_,_,cs,rfl,hb,h2,h3,h4,h.symm⟩
   ·simp at h
  ·simp at h
 ·simp at h
theorem Z06 {P:Program}{c:Cx}(hr:Rel c){tm:List AV}{a:Act}(ht:TR c tm a){o:Oper}{t:TypeId}{y z:Operand}{p x:Opd}{n i ver off:Nat}{cs:List AV}(ho:o.op=.store t y z)
  (hy:Zx y=some p) (hz:Zx z=some x) (hs:Q0 P t=some n) (hp:look tm p=.ref i ver off) (hb:c.A[i]? =some (.cells cs ver false)) (h1:(look tm x).cells.length=n) (h2:off+n<=cs.length)
  (h3:(look tm x).cells.all AV.one=true):
  ∃ w' c',(execOp a.eval o).run P c.w=.ok .skip w'/\Xz c i (.cells (splice cs off (look tm x).cells) ver false) w' c':=by
 have hP:=VR.look ht hy
 rw[hp] at hP
 obtain⟨hP,hpr⟩:=hP.ref_inv (KS (Fv hb))
 have hX:=(VR.look ht hz).cells (Zfj h3)
 obtain⟨C,e,_,g1,g2,_⟩:=hr.mem hpr hb
 obtain⟨w',c',hrun,htu,_⟩:=UC (P:=P) hr hpr hb hX h3 (cs':=splice cs off (look tm x).cells) (by omega) rfl (by omega) (Nat.le_refl ver)
 refine⟨w',c',?_,htu⟩
 simp only[execOp,ho,hP]
 have hl:=hX.length
 have hsz:(a.eval z).cells.size=n:=by simp at hl;omega
 simp[Instr.storeAt,Instr.sureAddr,storeVar,E3 hs,hsz,hrun]
theorem DRs.len {I:Nat->Prop}{w:World}{cs:List DV}{Xs:List Value}(h:DRs I w cs Xs):Xs.length=cs.length:=h.length.symm
structure Agr (c:Cx) (A:List Blk):Prop where
 pr:∀ i b,c.Pr i->A[i]? =some b->c.A[i]? =some b
 ver:∀ i v,Zk A i=some v->∀ v',Zk c.A i=some v'->v'=v
theorem Agr.refl (c:Cx):Agr c c.A:=⟨fun _ _ _ h=>h,fun _ _ h=>KS h⟩
theorem Ze0 {P:Program}{c:Cx}(hr:Rel c){A:List Blk}{str:Bool}{s n:Nat}{x:AV}{X:Value}{new:List AV}(hx:VR c x X)(hA:Agr c A)(hs:str=true->s=1)
  (h : CH A str s x = some (new, n)) : ∃ Xs, VRs c new Xs /\ new.length = n * s /\ (Builtin.lenOf X : Sem Nat) = pure n /\
   (∀ w',w'.heap=c.w.heap->(Builtin.firstCells s n X).run P w'=.ok Xs.toArray w')/\(str=true->∃ b,X=.string b)/\(str=false->∃ b l cp,X=.slice b l cp):=by
 have fromMem:∀ {b o l cp:Nat} {Xs:List Value},CQ c.w b o Xs->Xs.length=n*s->∀ w',w'.heap=c.w.heap->(Builtin.firstCells s n (.slice (some ⟨b,o,none⟩) l cp)).run P w'=.ok Xs.toArray w':=by
  intro b o l cp Xs hM hl w' hw
  simp only[Builtin.firstCells]
  rw[<-hl]
  refine Pq fun j v hj=> ?_
  rw[<-hM j v hj]
  exact Rv (by rw[hw]) _ _
 unfold CH at h
 split at h
 ·simp at h
  obtain⟨rfl,rfl⟩:=h
  rw[hx.v_inv]
  exact⟨[],.nil,by simp,rfl,fun w' _=>by simp[Builtin.firstCells],by simp,fun _=>⟨_,_,_,rfl⟩⟩
 ·rename_i cs len k
  split at h
  ·rename_i hcl
   simp at h
   obtain⟨rfl,rfl⟩:=h
   obtain⟨ad,cap,rfl,_,_,hm⟩:=hx.lst_inv
   rcases hm with⟨rfl,rfl⟩ | ⟨b,o,rfl,hI,hm⟩
   ·refine ⟨[], .nil, by simp, rfl, fun w' _ => ?_, by simp, fun _ => ⟨_, _, _, rfl⟩⟩
    cases ad with
    | none=>simp[Builtin.firstCells]
    | some ad=>simp[Builtin.firstCells,loadCells,loadCellsFrom]
   ·obtain ⟨Xs, hd, hM⟩ := hm.mem
    exact⟨Xs,VRs.ofD hd,by simpa using hcl,rfl,fromMem hM (by rw[hd.len];exact hcl),by simp,fun _=>⟨_,_,_,rfl⟩⟩
  ·simp at h
 ·rename_i i ver off len sz k
  split at h
  ·rename_i cs hc
   split at h
   ·rename_i hcl
    obtain⟨rfl,hcl⟩:=hcl
    simp at h
    obtain⟨rfl,rfl⟩:=h
    have hp:c.Pr i:=by
     cases hx with
     | sref hp=>exact hp
     | srefS hv hl=>
      have:=hA.ver i _ (Rz hc) _ hv
      omega
    obtain⟨hver,Xs,hv,hM,_⟩:=hr.cellsAt hp (fun b=>hA.pr i b hp) hc
    obtain⟨cap,rfl,_,_,_,_,_⟩:=hx.sref_inv (KS hver)
    have hl:=hv.length
    exact⟨Xs.take (len*s),hv.take _,by simp;omega,rfl,fromMem (hM.take _) (by simp;omega),by simp,fun _=>⟨_,_,_,rfl⟩⟩
   ·simp at h
  ·simp at h
 ·rename_i b
  simp at h
  obtain⟨rfl,rfl⟩:=h
  rw[hx.v_inv]
  have hs1:=hs rfl
  subst hs1
  refine⟨b.data.toList.map fun b=>.int .u8 b.toNat,?_,?_,rfl,fun w' _=> ?_,fun _=>⟨_,rfl⟩,by simp⟩
  ·have := VRs.ofD (c := c) (DRs.ofV (b.data.toList.map fun b => Value.int .u8 b.toNat) (fun x hx => by simp at hx; obtain ⟨y, _, rfl⟩ := hx; rfl))
   simpa [List.map_map,Function.comp_def] using this
  ·simp
  ·simp only [Builtin.firstCells, Sem.run_pure]
   congr 1
   have:b.extract 0 b.size=b:=by simp
   rw[this]
   apply Array.ext'
   simp
 ·simp at h
  obtain⟨rfl,rfl⟩:=h
  obtain⟨a1,cap,rfl⟩:=hx.nel_inv
  exact⟨[],.nil,by simp,rfl,fun w' _=>by simp[Builtin.firstCells,loadCells,loadCellsFrom],by simp,fun _=>⟨_,_,_,rfl⟩⟩
 ·simp at h
theorem Zif {P:Program}{cl:Call}{f:Zw}(h:BZ P cl=some f)(hb:cl.callee=.builtin .append):
  ∃ yb yx b x t u e i z str,cl.args.toList=[yb,yx]/\cl.argTypes.toList=[t,u]/\Zx yb=some b/\Zx yx=some x/\P.underlying t=some (.slice e)/\P.info? e=some i/\i.zero=some z/\z.cells.size=i.size/\i.size≠0/\
   DD e=true/\f=Y5 str i.size i.bytes b x/\(str=true->i.size=1/\P.underlying u=some .string)/\(str=false->∃ e',P.underlying u=some (.slice e')):=by
 have h:TX P cl=some f:=by
  rw[<-h];unfold BZ;rw[hb]
 unfold TX at h
 split at h
 ·rename_i b x t u hargs htys
  split at h
  ·rename_i e ud hu hud
   split at h
   ·rename_i i zs hi hz
    obtain⟨i',z,hi',hzz,_,hzs⟩:=TU hz
    rw[hi] at hi'
    simp at hi'
    subst hi'
    have hal:∃ yb yx,cl.args.toList=[yb,yx]/\Zx yb=some b/\Zx yx=some x:=by
     cases hq:cl.args.toList with
     | nil=>rw[hq] at hargs;simp[Qx] at hargs
     | cons y1 r1=>
      rw[hq] at hargs
      simp only[Qx] at hargs
      cases e1:Zx y1 with
      | none=>simp[e1] at hargs
      | some x1=>
       cases r1 with
       | nil=>simp[e1,Qx] at hargs
       | cons y2 r2=>
        simp only[Qx] at hargs
        cases e2:Zx y2 with
        | none=>simp[e1,e2] at hargs
        | some x2=>
         cases r2 with
         | nil=>simp[e1,e2,Qx] at hargs;obtain⟨rfl,rfl⟩:=hargs;exact⟨y1,y2,rfl,e1,e2⟩
         | cons y3 r3=>
          simp only[Qx] at hargs
          cases e3:Zx y3 with
          | none=>simp[e1,e2,e3] at hargs
          | some x3=>
           cases e4:Qx r3 with
           | none=>simp[e1,e2,e3,e4] at hargs
           | some r4=>simp[e1,e2,e3,e4] at hargs
    obtain⟨yb,yx,ha,hb',hx'⟩:=hal
    split at h
    ·simp at h
    ·rename_i hc
     simp only[not_or,Decidable.not_not] at hc
     split at h
     ·simp at h
      exact⟨yb,yx,b,x,t,u,e,i,z,false,ha,htys,hb',hx',hu,hi,hzz,by omega,hc.1,by simpa using hc.2.2,h.symm,by simp,fun _=>⟨_,hud⟩⟩
     ·split at h
      ·rename_i h1
       simp at h
       exact⟨yb,yx,b,x,t,u,e,i,z,true,ha,htys,hb',hx',hu,hi,hzz,by omega,hc.1,by simpa using hc.2.2,h.symm,fun _=>⟨h1,hud⟩,by simp⟩
      ·simp at h
     ·simp at h
   ·simp at h
  ·simp at h
 ·simp at h
theorem Z0t {P:Program}{t u ty e:TypeId}{i:TypeInfo}{b:Option Addr}{sLen sCap n:Nat}{X:Value}{Xs:List Value}{w:World}{ud:TypeDesc}(ht:P.underlying t=some (.slice e))(hi:P.info? e=some i)
  (hu:P.underlying u=some ud) (hud:ud=.string∨∃ e',ud=.slice e') (hl:(Builtin.lenOf X:Sem Nat)=pure n) (hf:(Builtin.firstCells i.size n X).run P w=.ok Xs.toArray w) (hroom:sLen+n<=sCap):
  (Builtin.append_ #[t, u] ty #[.slice b sLen sCap, X]).run P w =
   ((match b with | some a=>storeCells (a.add (sLen*i.size)) Xs | none=>pure ():Sem Unit).run P w).andThen fun _ w'=>.ok (.slice b (sLen+n) sCap) w':=by
 rcases hud with rfl | ⟨e',rfl⟩
 ·cases b<;>simp[Builtin.append_,run_underlying ht,run_underlying hu,sizeOf,typeInfo,hi,hl,hroom,hf]
 ·cases b<;>simp[Builtin.append_,run_underlying ht,run_underlying hu,sizeOf,typeInfo,hi,hl,hroom,hf]
theorem Z0u {P:Program}{t u ty e:TypeId}{i:TypeInfo}{z:Value}{b:Option Addr}{sLen sCap n:Nat}{X:Value}{Xs Os:List Value}{w:World}{ud:TypeDesc}(ht:P.underlying t=some (.slice e))(hi:P.info? e=some i)
  (hzz:i.zero=some z) (hu:P.underlying u=some ud) (hud:ud=.string∨∃ e',ud=.slice e') (hl:(Builtin.lenOf X:Sem Nat)=pure n) (hf:∀ w',w'.heap=w.heap->(Builtin.firstCells i.size n X).run P w'=.ok Xs.toArray w')
  (ho:∀ w',w'.heap=w.heap->(Builtin.firstCells i.size sLen (.slice b sLen sCap)).run P w'=.ok Os.toArray w') (hroom:sCap<sLen+n) (hb:(sLen+n)*i.bytes<=Z4) (hn:sLen+n<=Z4):
  ∃ cap,sLen+n<=cap/\(Builtin.append_ #[t,u] ty #[.slice b sLen sCap,X]).run P w=.ok (.slice (some ⟨w.heap.size,0,none⟩) (sLen+n) cap)
   (w.drew.alloc (.cells ((Os++Xs).toArray++Builtin.zeroCells z.cells (cap-(sLen+n))) e)):=by
 have hne:¬(sLen+n<=sCap):=by omega
 have hlim:Z4=1099511627776:=rfl
 have hfit:Builtin.nextslicecap (sLen+n) sCap*i.bytes<=281474976710656:=growslice_fits hroom (by omega)
 have h48:¬(281474976710656<Builtin.nextslicecap (sLen+n) sCap*i.bytes):=by omega
 have h63:¬(9223372036854775807<((sLen:Int)+(n:Int))):=by omega
 refine⟨(Question.appendCap (sLen+n) sCap e).cut (w.tape w.drawn (.appendCap (sLen+n) sCap e)),by simp[Question.cut],?_⟩
 have hf':=hf w.drew rfl
 have ho':=ho w.drew rfl
 rcases hud with rfl | ⟨e',rfl⟩<;>simp[Builtin.append_,run_underlying ht,run_underlying hu,sizeOf,typeInfo,zeroValue,hl,hne,h63,h48,IntKind.max,IntKind.signed,IntKind.bits,Question.forced,ho',hf',newRow,hi,hzz]
 all_goals
  congr 2
  apply Array.ext'
  simp
theorem Zgm {A:List Blk}{s bytes:Nat}{base:AV}{new:List AV}{r:App}(h:ZS A s bytes base new 0=some r):r=.same/\((∃ i ver off len sz k,base=.sref i ver off len sz k)∨(∃ cs len k,base=.d (.lst cs len k))∨base=U2):=by
 unfold ZS at h
 simp only[if_true] at h
 split at h<;>simp at h
 ·exact⟨h.symm,.inl ⟨_,_,_,_,_,_,rfl⟩⟩
 ·exact⟨h.symm,.inr (.inl ⟨_,_,_,rfl⟩)⟩
 ·exact⟨h.symm,.inr (.inr rfl)⟩
theorem VR.slice_shape {c:Cx}{base:AV}{X:Value}(h:VR c base X)(hb:(∃ i ver off len sz k,base=.sref i ver off len sz k)∨(∃ cs len k,base=.d (.lst cs len k))∨base=U2):∃ b l cp,X=.slice b l cp/\l<=cp:=by
 rcases hb with⟨i,ver,off,len,sz,k,rfl⟩ | ⟨cs,len,k,rfl⟩ | rfl
 ·cases h with
  | sref hp hv hl=>exact⟨_,_,_,rfl,hl⟩
  | srefS hv hl hc=>exact⟨_,_,_,rfl,hc⟩
 ·obtain ⟨a, cap, rfl, h1, _⟩ := h.lst_inv
  exact⟨_,_,_,rfl,h1⟩
 ·rw[h.v_inv];exact⟨_,_,_,rfl,Nat.le_refl _⟩
theorem Z0g (z:Array Value)(n:Nat):(Builtin.zeroCells z n).size=n*z.size:=by simp[Builtin.zeroCells]
theorem Zj2 {P:Program}{c:Cx}(hr:Rel c){tm:List AV}{a:Act}(ht:TR c tm a){A:List Blk}(hA:Agr c A){o:Oper}{cl:Call}{f:Zw}{E:Env}{call:cT}{nb:Nat}{d:Done}(ho:o.op=.call cl)
  (hb:cl.callee=.builtin .append) (h:BZ P cl=some f) (hd:f E call tm A nb=some d):
  (∃ x X, d = .made x [] /\ (execOp a.eval o).run P c.w = .ok (.value X) c.w /\ VR c x X) ∨ (∃ x b, d = .made x [b] /\ BJ P c a o nb x b) ∨
   ∃ x X i b w' c',d=.turned x (A.set i b)/\(execOp a.eval o).run P c.w=.ok (.value X) w'/\Fr c c'/\Rel c'/\c'.w=w'/\c'.A=c.A.set i b/\c'.Pr=c.Pr/\c'.I=c.I/\VR c' x X/\c.Pr i/\i<A.length:=by
 obtain⟨yb,yx,b,x,t,u,e,i,z,str,hargs,htys,hyb,hyx,hu,hi,hzz,hzs,hs0,hok,rfl,hstr1,hstr2⟩:=Zif h hb
 have hB:=VR.look ht hyb
 have hX:=VR.look ht hyx
 simp only[Y5] at hd
 cases hnew:CH A str i.size (look tm x) with
 | none=>simp[hnew,RM] at hd
 | some nn=>
  obtain⟨new,n⟩:=nn
  simp only[hnew,RM] at hd
  obtain⟨Xs,hv,hnl,hlen,hfc,hX1,hX2⟩:=Ze0 (P:=P) hr hX hA (fun hs=>(hstr1 hs).1) hnew
  have hXl:Xs.length=n*i.size:=by rw[<-hv.length];exact hnl
  obtain⟨ud,hud,hudk⟩:∃ ud,P.underlying u=some ud/\(ud=.string∨∃ e',ud=.slice e'):=by
   cases str with
   | true=>exact⟨_,(hstr1 rfl).2,.inl rfl⟩
   | false=>obtain⟨e',he⟩:=hstr2 rfl;exact⟨_,he,.inr ⟨e',rfl⟩⟩
  have hexec:∀(w':World) (V:Value),(Builtin.append_ #[t,u] o.type #[a.eval yb,a.eval yx]).run P c.w=.ok V w'->(execOp a.eval o).run P c.w=.ok (.value V) w':=by
   intro w' V hrun
   simp only[execOp,ho,resolve,hb,pure_bind,invoke,Go.builtin]
   have e1:cl.args.map a.eval= #[a.eval yb,a.eval yx]:=by
    apply Array.ext'
    simp[hargs]
   have e2:cl.argTypes= #[t,u]:=by
    apply Array.ext'
    simp[htys]
   rw[e1,e2]
   exact Sq hrun
  have fresh:∀(bb:Option Addr) (sLen sCap:Nat) (Os:List Value) (old:List AV),a.eval yb=.slice bb sLen sCap->sCap<sLen+n->VRs c old Os->old.length=sLen*i.size->
    (∀ w',w'.heap=c.w.heap->(Builtin.firstCells i.size sLen (.slice bb sLen sCap)).run P w'=.ok Os.toArray w')->(sLen+n)*i.bytes<=Z4->sLen+n<=Z4->
    BJ P c a o nb (.sref nb 0 0 (sLen+n) i.size none) (.cells (old++new) 0 false):=by
   intro bb sLen sCap Os old hbb hroom hvo hol hos hby hlm
   obtain⟨cap,hcap,hrun⟩:=Z0u (P:=P) (ty:=o.type) hu hi hzz hud hudk hlen hfc hos hroom hby hlm
   rw[<-hbb] at hrun
   have hvv:=hvo.append hv
   have hl:=hvv.length
   refine⟨_,_,_,hexec _ _ hrun,rfl,rfl,rfl,rfl,rfl,rfl,⟨_,e,rfl,?_,?_⟩,.inr ⟨sLen+n,i.size,none,cap,rfl,rfl,hcap,by simp,_,e,(0,0),rfl,?_⟩⟩
   ·rw[hl];simp
   ·rw [hl, Array.toList_append, List.take_left' (by simp)]
    exact⟨hvv,hok⟩
   ·have hOl : Os.length = sLen * i.size := by rw [<- hvo.length]; exact hol
    rw[Array.size_append,Z0g,hzs]
    simp only[List.size_toArray,List.length_append,hOl,hXl]
    rw[<-Nat.add_mul,<-Nat.add_mul]
    congr 1
    omega
  by_cases hn0:n=0
  ·subst hn0
   cases hap:ZS A i.size i.bytes (look tm b) new 0 with
   | none=>simp[hap,Dk] at hd
   | some r=>
    obtain⟨rfl,hsh⟩:=Zgm hap
    simp[hap,Dk] at hd
    obtain⟨bb,l,cp,hq,hlc⟩:=hB.slice_shape hsh
    refine .inl ⟨_,_,hd.symm,hexec c.w (a.eval yb) ?_,hB⟩
    have hXe:Xs=[]:=List.eq_nil_of_length_eq_zero (by simpa using hXl)
    subst hXe
    rw[hq,Z0t (P:=P) (ty:=o.type) hu hi hud hudk hlen (hfc _ rfl) (by omega)]
    cases bb<;>simp[storeCells]
  ·cases hap : ZS A i.size i.bytes (look tm b) new n with
   | none=>simp[hap,Dk] at hd
   | some r=>
    simp only[hap] at hd
    unfold ZS at hap
    rw[if_neg hn0] at hap
    split at hap
    ·rename_i hbe
     rw[hbe] at hB
     split at hap
     ·rename_i hc
      simp at hap;subst hap
      simp[Dk] at hd
      refine .inr (.inl ⟨_,_,hd.symm,?_⟩)
      have:=fresh none 0 0 [] [] hB.v_inv (by omega) .nil (by simp) (fun w' _=>by simp[Builtin.firstCells]) (by simpa using hc.1) (by simpa using hc.2)
      simpa using this
     ·simp at hap
    ·rename_i cs len kc hbe
     rw[hbe] at hB
     split at hap
     ·rename_i hc
      obtain⟨h1,h2,h3,h4⟩:=hc
      simp at hap;subst hap
      simp[Dk] at hd
      refine .inr (.inl ⟨_,_,hd.symm,?_⟩)
      obtain⟨ad,cap,hq,hlc,hk,hm⟩:=hB.lst_inv
      have hcap:=hk _ rfl
      subst hcap
      rcases hm with⟨rfl,rfl⟩ | ⟨bk,of,rfl,hI,hm⟩
      ·refine fresh ad 0 cap [] [] hq h1 .nil (by simp) (fun w' _ => ?_) h3 h4
       cases ad<;>simp[Builtin.firstCells,loadCells,loadCellsFrom]
      ·obtain ⟨Os, hdo, hM⟩ := hm.mem
       refine fresh _ len cap Os (cs.map .d) hq h1 (VRs.ofD hdo) (by simpa using h2) (fun w' hw=> ?_) h3 h4
       simp only[Builtin.firstCells]
       have hol:Os.length=len*i.size:=by rw[hdo.len];exact h2
       rw[<-hol]
       refine Pq fun j v hj=> ?_
       rw[<-hM j v hj]
       exact Rv (by rw[hw]) _ _
     ·simp at hap
    ·rename_i bi ver off len sz k hbe
     rw[hbe] at hB
     split at hap
     ·simp at hap
     ·rename_i hc
      simp only[not_or,Decidable.not_not,Nat.not_lt] at hc
      obtain⟨rfl,hby,hlm,hone⟩:=hc
      have hone:new.all AV.one=true:=by simpa using hone
      split at hap
      ·rename_i cs v ro hAi
       split at hap
       ·simp at hap
       ·rename_i hc2
        simp only[not_or,Decidable.not_not,Nat.not_lt] at hc2
        obtain⟨rfl,hcl⟩:=hc2
        obtain⟨cap,hq,hpr,hlc,hk,hbz,hbn⟩:=hB.sref_inv (hA.ver _ _ (Fv hAi))
        have hcA:c.A[bi]? =some (.cells cs v ro):=hA.pr bi _ hpr hAi
        have hver:Zk c.A bi=some v:=Fv hcA
        obtain⟨C,te,hheap,hCsz,hcC,hvC,hM⟩:=hr.mem hpr hcA
        have hol:∀ w',w'.heap=c.w.heap->(Builtin.firstCells i.size len (.slice (some ⟨c.ρ bi,off,none⟩) len cap)).run P w'=.ok (((C.toList.take cs.length).drop off).take (len*i.size)).toArray w':=by
         intro w' hw
         simp only[Builtin.firstCells]
         have hol:(((C.toList.take cs.length).drop off).take (len*i.size)).length=len*i.size:=by simp;omega
         have hmem:CQ w' (c.ρ bi) off (((C.toList.take cs.length).drop off).take (len*i.size)):=by
          intro j v' hj
          have:=(((hM.take cs.length).drop off).take (len*i.size)) j v' hj
          rw[Nat.zero_add] at this
          rw[<-this]
          exact Rv (by rw[hw]) _ _
         have:=Pq (P:=P) hmem
         rw[hol] at this
         exact this
        have hvo:VRs c ((cs.drop off).take (len*i.size)) (((C.toList.take cs.length).drop off).take (len*i.size)):=(hvC.drop off).take _
        have hfr:cap<len+n->BJ P c a o nb (.sref nb 0 0 (len+n) i.size none) (.cells ((cs.drop off).take (len*i.size)++new) 0 false):=
         fun hlt=>fresh _ len cap _ _ hq hlt hvo (by simp;omega) hol hby hlm
        have hroomy:len+n<=cap->off+len*i.size<=cs.length->∀(cs':List AV) (v':Nat),ro=false->cs'=splice cs (off+len*i.size) new->v<=v'->
          ∃ w' c',(execOp a.eval o).run P c.w=.ok (.value (.slice (some ⟨c.ρ bi,off,none⟩) (len+n) cap)) w'/\Xz c bi (.cells cs' v' false) w' c'/\c'.ρ=c.ρ/\Yz w' (c.ρ bi)=Yz c.w (c.ρ bi):=by
         intro hle hofl cs' v' hro hcs' hvv
         subst hro
         have hle2:off+len*i.size+new.length<=Yz c.w (c.ρ bi):=by
          have:=Nat.mul_le_mul_right i.size hle
          rw[Nat.add_mul] at this
          omega
         obtain⟨w',c',hrun,htu,h1,h2⟩:=UC (P:=P) hr hpr hcA hv hone (cs':=cs') hle2 hcs' hofl hvv
         refine⟨w',c',hexec _ _ ?_,htu,h1,h2⟩
         rw[hq,Z0t (P:=P) (ty:=o.type) hu hi hud hudk hlen (hfc _ rfl) hle]
         simp only[Addr.add_mk]
         rw[hrun]
         rfl
        split at hap
        ·rename_i cc
         have hcc:=hk _ rfl
         subst hcc
         split at hap
         ·rename_i hlt
          simp at hap;subst hap
          simp[Dk] at hd
          exact .inr (.inl ⟨_,_,hd.symm,hfr hlt⟩)
         ·rename_i hlt
          split at hap
          ·rename_i hc3
           obtain⟨rfl,hc3⟩:=hc3
           simp at hap;subst hap
           simp[Dk] at hd
           obtain⟨w',c',hrun,htu,h1,h2⟩:=hroomy (by omega) hcl _ v rfl rfl (Nat.le_refl _)
           obtain⟨g1,g2,g3,g4,g5,g6⟩:=htu
           refine .inr (.inr ⟨_,_,bi,_,w',c',hd.symm,hrun,g1,g2,g3,g4,g5,g6,?_,hpr,(List.getElem?_eq_some_iff.1 hAi).1⟩)
           have hlA:bi<c.A.length:=by
            rcases Nat.lt_or_ge bi c.A.length with h' | h'
            ·exact h'
            ·simp[List.getElem?_eq_none h'] at hcA
           rw[<-h1]
           refine .sref (by rw[g5];exact hpr) (by rw[g4];simp[Zk,hlA,Blk.ver]) (by omega) (fun m hm=>by simpa using hm) ?_ (by simp)
           rw[g3,h1,h2];exact hbz
          ·simp at hap
        ·split at hap
         ·simp at hap
         ·rename_i hro
          have hro:ro=false:=by simpa using hro
          subst hro
          have hbn':=hbn rfl
          have hlA:bi<c.A.length:=by
           rcases Nat.lt_or_ge bi c.A.length with h' | h'
           ·exact h'
           ·simp[List.getElem?_eq_none h'] at hcA
          split at hap
          ·rename_i hc3
           simp at hap;subst hap
           simp[Dk] at hd
           have hle:len+n<=cap:=by
            have h5:(len+n)*i.size<=cap*i.size:=by omega
            exact Nat.le_of_mul_le_mul_right h5 (by omega)
           obtain⟨w',c',hrun,htu,h1,h2⟩:=hroomy hle hcl _ v rfl rfl (Nat.le_refl _)
           obtain⟨g1,g2,g3,g4,g5,g6⟩:=htu
           refine .inr (.inr ⟨_,_,bi,_,w',c',hd.symm,hrun,g1,g2,g3,g4,g5,g6,?_,hpr,(List.getElem?_eq_some_iff.1 hAi).1⟩)
           rw[<-h1]
           refine .sref (by rw[g5];exact hpr) (by rw[g4];simp[Zk,hlA,Blk.ver]) hle (by simp) ?_ (fun _=> ?_)
           ·rw[g3,h1,h2];exact hbz
           ·rw[g3,h1,h2];exact hbn'
          ·rename_i hnfit
           split at hap
           ·rename_i hc4
            obtain⟨rfl,hc4⟩:=hc4
            simp at hap;subst hap
            simp[Dk] at hd
            by_cases hle:len+n<=cap
            ·have hcs':cs++new=splice cs (0+len*i.size) new:=by
              unfold splice
              rw[Nat.zero_add,hc4]
              simp
             obtain⟨w',c',hrun,htu,h1,h2⟩:=hroomy hle hcl (cs++new) (v+1) rfl hcs' (by omega)
             obtain⟨g1,g2,g3,g4,g5,g6⟩:=htu
             refine .inr (.inr ⟨_,_,bi,_,w',c',hd.symm,hrun,g1,g2,g3,g4,g5,g6,?_,hpr,(List.getElem?_eq_some_iff.1 hAi).1⟩)
             rw[<-h1]
             refine .sref (by rw[g5];exact hpr) (by rw[g4];simp[Zk,hlA,Blk.ver]) hle (by simp) ?_ (fun _=> ?_)
             ·rw[g3,h1,h2];exact hbz
             ·rw[g3,h1,h2];exact hbn'
            ·have hlt : cap < len + n := by omega
             obtain⟨cap',hcap',hrun⟩:=Z0u (P:=P) (ty:=o.type) hu hi hzz hud hudk hlen hfc hol hlt hby hlm
             rw[<-hq] at hrun
             have hOs:((C.toList.take cs.length).drop 0).take (len*i.size)=C.toList.take cs.length:=by
              rw[List.drop_zero,List.take_of_length_le (by simp;omega)]
             rw[hOs] at hrun
             have hvv:=hvC.append hv
             have hl:=hvv.length
             let N:Array Value:=(C.toList.take cs.length++Xs).toArray++Builtin.zeroCells z.cells (cap'-(len+n))
             have hNs:N.size=cap'*i.size:=by
              have e1:(C.toList.take cs.length).length=len*i.size:=by simp;omega
              simp only[N]
              rw[Array.size_append,Z0g,hzs]
              simp only[List.size_toArray,List.length_append,e1,hXl]
              rw[<-Nat.add_mul,<-Nat.add_mul]
              congr 1
              omega
             have hnew':(c.w.drew.alloc (.cells N e)).heap[c.w.heap.size]? =some (.cells N e (0,0)):=by
              show(c.w.heap.push _)[c.w.heap.size]? =_
              simp
             have hold:∀ k,k<c.w.heap.size->k≠c.ρ bi->(c.w.drew.alloc (.cells N e)).heap[k]? =c.w.heap[k]? :=by
              intro k hk _
              show(c.w.heap.push _)[k]? =_
              rw[Array.getElem?_push,if_neg (by omega)]
             obtain⟨fr,rel⟩:=hr.turn (b':=.cells (cs++new) (v+1) false) (o':=.cells N e (0,0)) (w':=c.w.drew.alloc (.cells N e)) (r:=c.w.heap.size) (v:=v) (v':=v+1) hpr hcA rfl rfl rfl rfl (by omega)
              (fun he=>by omega) (.inr (Nat.le_refl _)) hnew'
              (fun c' ext => ⟨N, e, rfl, by rw [hl]; simp [N], by
               rw[hl]
               simp only[N]
               rw[Array.toList_append,List.take_left' (by simp)]
               exact⟨hvv.mono ext,hok⟩⟩) hold (by simp) rfl rfl rfl
             refine .inr (.inr ⟨_,_,bi,_,_,_,hd.symm,hexec _ _ hrun,fr,rel,rfl,rfl,rfl,rfl,?_,hpr,(List.getElem?_eq_some_iff.1 hAi).1⟩)
             have hbs:Yz (c.w.drew.alloc (.cells N e)) c.w.heap.size=cap'*i.size:=by unfold Yz;rw[hnew',<-hNs]
             have hρ:(fun j=>if j=bi then c.w.heap.size else c.ρ j) bi=c.w.heap.size:=if_pos rfl
             have:=VR.sref (c:=⟨c.I,fun j=>if j=bi then c.w.heap.size else c.ρ j,c.w.drew.alloc (.cells N e),c.A.set bi (.cells (cs++new) (v+1) false),c.Pr⟩) (i:=bi) (ver:=v+1) (off:=0) (len:=len+n) (cap:=cap') (sz:=i.size) (k:=none)
              hpr (by simp[Zk,hlA,Blk.ver]) hcap' (by simp) (by simp only[if_true];rw[hbs];omega) (fun _=>by simp only[if_true];rw[hbs];omega)
             simpa using this
           ·simp at hap
      ·simp at hap
    ·simp at hap
theorem Zic {P:Program}{t:TypeId}{y:Operand}{f:Zw}(h:ZN P (.range t y)=some f):∃ x,P.underlying t=some .string/\Zx y=some x/\f=SS x:=by
 simp only[ZN] at h
 split at h
 ·rename_i x h1 h2
  simp at h;subst h
  exact⟨x,h1,h2,rfl⟩
 ·simp at h
theorem Zie {P:Program}{cl:Call}{f:Zw}(h:BZ P cl=some f)(hb:cl.callee=.builtin .clear):
  ∃ yx x t e zs,cl.args.toList=[yx]/\cl.argTypes.toList=[t]/\Zx yx=some x/\P.underlying t=some (.slice e)/\Gv P e=some zs/\zs.length≠0/\f=SW zs x:=by
 have h:TW P cl=some f:=by
  rw[<-h];unfold BZ;rw[hb]
 unfold TW at h
 split at h
 ·rename_i x t hargs htys
  split at h
  ·rename_i e hu
   split at h
   ·rename_i zs hz
    split at h
    ·simp at h
    ·rename_i hn
     simp at h
     cases hq:cl.args.toList with
     | nil=>rw[hq] at hargs;simp[Qx] at hargs
     | cons y1 r1=>
      rw[hq] at hargs
      simp only[Qx] at hargs
      cases e1:Zx y1 with
      | none=>simp[e1] at hargs
      | some x1=>
       cases r1 with
       | nil=>simp[e1,Qx] at hargs;subst hargs;exact⟨y1,_,t,e,zs,rfl,htys,e1,hu,hz,hn,h.symm⟩
       | cons y2 r2=>
        simp only[Qx] at hargs
        cases e2:Zx y2 with
        | none=>simp[e1,e2] at hargs
        | some x2=>
         cases e4:Qx r2 with
         | none=>simp[e1,e2,e4] at hargs
         | some r4=>simp[e1,e2,e4] at hargs
   ·simp at h
  ·simp at h
 ·simp at h
theorem UQ {α:Type}(l:List α):∀ n,(rep l n).length=n*l.length
 | 0=>by simp[rep]
 | n+1=>by simp[rep,UQ l n,Nat.succ_mul,Nat.add_comm]
theorem Zhk {P:Program}{c:Cx}(hr:Rel c){tm:List AV}{a:Act}(ht:TR c tm a){A:List Blk}(hA:Agr c A){o:Oper}{cl:Call}{f:Zw}{E:Env}{call:cT}{nb:Nat}{d:Done}(ho:o.op=.call cl)
  (hb : cl.callee = .builtin .clear) (h : BZ P cl = some f) (hd : f E call tm A nb = some d) :
   ∃ x X i b w' c',d=.turned x (A.set i b)/\(execOp a.eval o).run P c.w=.ok (.value X) w'/\Fr c c'/\Rel c'/\c'.w=w'/\c'.A=c.A.set i b/\c'.Pr=c.Pr/\c'.I=c.I/\VR c' x X/\c.Pr i/\i<A.length:=by
 obtain⟨yx,x,t,e,zs,hargs,htys,hyx,hu,hz,hzn,rfl⟩:=Zie h hb
 have hX:=VR.look ht hyx
 obtain⟨it,z,hi,hzz,hzo,hzs⟩:=TU hz
 have hvz:VRs c zs z.cells.toList:=RA hzo
 simp only[SW] at hd
 cases hcl:W8 A zs (look tm x) with
 | none=>simp[hcl,EQ] at hd
 | some A1=>
  simp[hcl,EQ] at hd
  subst hd
  unfold W8 at hcl
  split at hcl
  ·rename_i i ver off len sz k hbe
   rw[hbe] at hX
   split at hcl
   ·rename_i hc
    obtain⟨rfl,hl0⟩:=hc
    obtain⟨i',ver',off',cs,e1,e2,e3,e4,e5,rfl⟩:=W6 hcl
    simp only[AV.ref.injEq] at e1
    obtain⟨rfl,rfl,rfl⟩:=e1
    simp only[AV.cells] at e3 e5 ⊢
    obtain⟨cap,hq,hpr,hlc,hk,hbz,hbn⟩:=hX.sref_inv (hA.ver _ _ (Fv e2))
    have hcA:=hA.pr i _ hpr e2
    have hvr:=hvz.rep len
    have hle2:off+(rep zs len).length<=Yz c.w (c.ρ i):=by
     rw[UQ]
     have:=Nat.mul_le_mul_right zs.length hlc
     omega
    obtain⟨w',c',hrun,htu,h1,h2⟩:=UC (P:=P) hr hpr hcA hvr e5 (cs':=splice cs off (rep zs len)) hle2 rfl (by omega) (Nat.le_refl _)
    obtain⟨g1,g2,g3,g4,g5,g6⟩:=htu
    refine⟨AR,.tuple #[],i,_,w',c',rfl,?_,g1,g2,g3,g4,g5,g6,VR.undef,hpr,(List.getElem?_eq_some_iff.1 e2).1⟩
    have hzc:(Builtin.zeroCells z.cells len).toList=rep z.cells.toList len:=by
     unfold Builtin.zeroCells
     exact Sz z.cells (by omega) len
    have hcast:cl.args.map a.eval= #[a.eval yx]:=by apply Array.ext';simp[hargs]
    have htc:cl.argTypes= #[t]:=by apply Array.ext';simp[htys]
    simp only[execOp,ho,resolve,hb,pure_bind,invoke,Go.builtin,hcast,htc]
    refine Sq ?_
    obtain⟨n,rfl⟩:∃ n,len=n+1:=⟨len-1,by omega⟩
    rw[hq]
    simp only[Builtin.clear_]
    simp[run_underlying hu,zeroValue,typeInfo,hi,hzz,hzc,hrun]
   ·simp at hcl
  ·simp at hcl
theorem Xx {P:Program}{c:Cx}(hr:Rel c){tm:List AV}{a:Act}(ht:TR c tm a){A:List Blk}(hA:Agr c A){o:Oper}{cl:Call}{f:Zw}{E:Env}{call:cT}{nb:Nat}{d:Done}(ho:o.op=.call cl){b:Builtin}
  (hc:cl.callee=.builtin b) (hb:b=.append∨b=.clear) (h:BZ P cl=some f) (hd:f E call tm A nb=some d):
  (∃ x X, d = .made x [] /\ (execOp a.eval o).run P c.w = .ok (.value X) c.w /\ VR c x X) ∨ (∃ x b, d = .made x [b] /\ BJ P c a o nb x b) ∨
   ∃ x X i b w' c',d=.turned x (A.set i b)/\(execOp a.eval o).run P c.w=.ok (.value X) w'/\Fr c c'/\Rel c'/\c'.w=w'/\c'.A=c.A.set i b/\c'.Pr=c.Pr/\c'.I=c.I/\VR c' x X/\c.Pr i/\i<A.length:=by
 rcases hb with rfl | rfl
 ·exact Zj2 hr ht hA ho hc h hd
 ·exact .inr (.inr (Zhk hr ht hA ho hc h hd))
theorem Zid {P:Program}{y:Operand}{s:Bool}{f:Zw}(h:ZN P (.next y s)=some f):∃ x,s=true/\Zx y=some x/\f=ST x:=by
 simp only[ZN] at h
 split at h
 ·rename_i hs
  simp only[Option.map_eq_some_iff] at h
  obtain⟨x,hx,rfl⟩:=h
  exact⟨x,hs,hx,rfl⟩
 ·simp at h
theorem Z2s {P:Program}{c:Cx}{a:Act}{o:Oper}{t:TypeId}{y:Operand}{f:Zw}{tm:List AV}{E:Env}{call:cT}{A:List Blk}{nb:Nat}{d:Done}(ho:o.op=.range t y)(h:ZN P (.range t y)=some f)(ht:TR c tm a)
  (hd:f E call tm A nb=some d):∃ x b,d=.made x [b]/\BJ P c a o nb x b:=by
 obtain⟨x,hu,hx,rfl⟩:=Zic h
 have hv:=VR.look ht hx
 simp only[SS] at hd
 unfold Z1f at hd
 split at hd
 ·rename_i s e
  rw[e] at hv
  have hv:=hv.v_inv
  simp at hd;subst hd
  refine⟨_,_,rfl,.pointer (some ⟨c.w.heap.size,0,none⟩),.stringIter s 0,c.w.alloc (.stringIter s 0),?_,rfl,rfl,rfl,rfl,rfl,rfl,rfl,.inl ⟨rfl,rfl⟩⟩
  simp only[execOp,ho,hv]
  simp[Instr.range,underlying,hu,newObj,Sem.run]
 ·simp at hd
theorem Vv {P:Program}{c:Cx}(hr:Rel c){tm:List AV}{a:Act}(ht:TR c tm a){A:List Blk}(hA:Agr c A){o:Oper}{y:Operand}{s:Bool}{f:Zw}{E:Env}{call:cT}{nb:Nat}{d:Done}(ho:o.op=.next y s)
  (h:ZN P (.next y s)=some f) (hd:f E call tm A nb=some d):
  (∃ x X, d = .made x [] /\ (execOp a.eval o).run P c.w = .ok (.value X) c.w /\ VR c x X) ∨
   ∃ x X i b w' c',d=.turned x (A.set i b)/\(execOp a.eval o).run P c.w=.ok (.value X) w'/\Fr c c'/\Rel c'/\c'.w=w'/\c'.A=c.A.set i b/\c'.Pr=c.Pr/\c'.I=c.I/\VR c' x X/\c.Pr i/\i<A.length:=by
 obtain⟨x,rfl,hx,rfl⟩:=Zid h
 have hv:=VR.look ht hx
 simp only[ST] at hd
 unfold Z2e at hd
 split at hd
 ·rename_i i ver off e
  rw[e] at hv
  unfold Z2c at hd
  split at hd
  ·rename_i s p hb
   cases hvo:(Nat.beq ver 0&&Nat.beq off 0) with
   | false=>simp[hvo] at hd
   | true=>
    simp only[hvo,cond_true] at hd
    simp only[Bool.and_eq_true,Nat.beq_eq] at hvo
    obtain⟨rfl,rfl⟩:=hvo
    have hver:Zk A i=some 0:=by simp[Zk,hb,Blk.ver]
    obtain⟨hX,hp⟩:=hv.ref_inv (fun v' hv'=>hA.ver i 0 hver v' hv')
    have hcb:=hA.pr i _ hp hb
    obtain⟨ob,hob,hrel,_⟩:=hr.blk i _ hp hcb
    have hrel:ob=.stringIter s p:=hrel
    subst hrel
    unfold Z2d at hd
    cases hlt:Nat.blt p s.size with
    | false=>
     simp only[hlt,cond_false,Option.some.injEq] at hd
     refine .inl ⟨_,.tuple #[.bool false],hd.symm,?_,.d (.tup (.cons (.v _ rfl) .nil))⟩
     have hlt':¬p<s.size:=fun h=>by rw[show Nat.blt p s.size=true from Nat.ble_eq_true_of_le h] at hlt;cases hlt
     simp only[execOp,ho,hX]
     simp[Instr.next,getObj,hob,hlt',Sem.run]
    | true=>
     simp only[hlt,cond_true,Option.some.injEq] at hd
     have hlt':p<s.size:=Nat.le_of_ble_eq_true hlt
     have hil:i<A.length:=(List.getElem?_eq_some_iff.1 hb).1
     have hsz:c.ρ i<c.w.heap.size:=(Array.getElem?_eq_some_iff.1 hob).1
     have hnew:(c.w.heap.setIfInBounds (c.ρ i) (Obj.stringIter s (p+(Utf8.decode s p).2)))[c.ρ i]? =some (.stringIter s (p+(Utf8.decode s p).2)):=by
      rw[Array.getElem?_setIfInBounds_self_of_lt hsz]
     obtain⟨fr,rel⟩:=hr.turn (w':={ c.w with heap:=c.w.heap.setIfInBounds (c.ρ i) (Obj.stringIter s (p+(Utf8.decode s p).2)) }) (r:=c.ρ i) (b':=.iter s (p+(Utf8.decode s p).2)) (v:=0) (v':=0) hp hcb rfl rfl rfl rfl (Nat.le_refl 0)
      (fun _=>⟨rfl,by simp only[Yz,hnew,hob]⟩) (.inl rfl) hnew (fun _ _=>rfl) (fun k hk hne=>by show(c.w.heap.setIfInBounds _ _)[k]? =_;rw[Array.getElem?_setIfInBounds_ne (Ne.symm hne)]) (by show _<=(c.w.heap.setIfInBounds _ _).size;simp) rfl rfl rfl
     refine .inr ⟨_,.tuple #[.bool true,.int .i64 (p:Int),.int .i32 ((Utf8.decode s p).1:Int)],i,_,_,_,hd.symm,?_,fr,rel,rfl,rfl,rfl,rfl,.d (.tup (.cons (.v _ rfl) (.cons (.v _ rfl) (.cons (.v _ rfl) .nil)))),hp,hil⟩
     simp only[execOp,ho,hX]
     simp[Instr.next,getObj,setObj,hob,hlt',Sem.run,goInt]
  ·simp at hd
 ·simp at hd
theorem UV {P:Program}{c:Cx}{tm:List AV}{a:Act}(ht:TR c tm a){A:List Blk}(hA:Agr c A){o:Oper}{b:BinOp}{t u e:TypeId}{y z:Operand}{x1 x2:Opd}{E:Env}{call:cT}{nb:Nat}{d:Done}(ho:o.op=.binOp b t y z u)
  (h1:Zx y=some x1) (h2:Zx z=some x2) (hu:P.underlying t=some (.pointer e)) (hi:(P.info? e).isSome=true) (hop:b=.eql∨b=.neq) (hd:GQ (b==.neq) x1 x2 E call tm A nb=some d):
  ∃ x X,d=.made x []/\(execOp a.eval o).run P c.w=.ok (.value X) c.w/\VR c x X:=by
 simp only[GQ] at hd
 have hV:=VR.look ht h1
 have hW:=VR.look ht h2
 cases he:UW A (look tm x1) (look tm x2) with
 | none=>simp[he,K9] at hd
 | some r=>
  simp only[he,K9,Option.some.injEq] at hd
  refine⟨_,.bool (if b==.neq then !r else r),hd.symm,?_,by cases hq:(b==BinOp.neq)<;>exact VR.vv rfl⟩
  have fin:∀(p q:Option Addr),a.eval y=.pointer p->a.eval z=.pointer q->(Op.equal t (.pointer p) (.pointer q)).run P c.w=.ok r c.w->(execOp a.eval o).run P c.w=.ok (.value (.bool (if b==.neq then !r else r))) c.w:=by
   intro p q e1 e2 hr
   simp only[execOp,ho]
   apply QD
   rw[Sem.run_bind,e1,e2,NK (.inl (by simp)) (.inl (by simp))]
   exact NU hop (by simp) (by simp) (by simp) (by simp) hr
  have hpt:P.underlying t=some (.pointer (P.pointee t)):=by simp[Program.pointee,hu]
  unfold UW at he
  split at he
  ·rename_i i v o' j u' p e1 e2
   rw[e1] at hV;rw[e2] at hW
   unfold Z1o at he
   cases hb:(Nat.beq i j&&Nat.beq v u'&&Nat.beq o' p&&S1 v (Q4 A i)) with
   | false=>simp[hb] at he
   | true=>
    simp[hb] at he
    subst he
    simp only[Bool.and_eq_true] at hb
    obtain⟨⟨⟨hb1,hb2⟩,hb3⟩,hv⟩:=hb
    obtain rfl:=Nat.eq_of_beq_eq_true hb1
    obtain rfl:=Nat.eq_of_beq_eq_true hb2
    obtain rfl:=Nat.eq_of_beq_eq_true hb3
    have hver:Zk A i=some v:=by
     unfold Q4 at hv
     unfold Zk
     cases hb:A[i]? with
     | none=>simp[hb,S1] at hv
     | some b=>cases b<;>simp_all [Blk.ver,S1]
    have ver:=fun v' hv'=>hA.ver i v hver v' hv'
    obtain⟨hX,_⟩:=hV.ref_inv ver
    obtain⟨hY,_⟩:=hW.ref_inv ver
    refine fin _ _ hX hY ?_
    obtain⟨j,hj⟩:=Option.isSome_iff_exists.1 hi
    have h:∀ d:Nat,(Op.equalIn (d+1) t (.pointer (some ⟨c.ρ i,o',none⟩)) (.pointer (some ⟨c.ρ i,o',none⟩))).run P c.w=.ok true c.w:=fun d=>by
     simp[Op.equalIn,run_underlying hu,sizeOf,typeInfo,hj,run_sameAddr_same]
    exact h 9999
  ·rename_i e1 e2
   rw[e1] at hV;rw[e2] at hW
   simp at he;subst he
   exact fin none none hV.v_inv hW.v_inv (run_equal_pointer_nil c.w t none hpt)
  ·rename_i i v o' e1 e2
   rw[e1] at hV;rw[e2] at hW
   simp at he;subst he
   obtain⟨ad,hX⟩:∃ ad,a.eval y=.pointer (some ad):=by
    generalize a.eval y=X at hV
    cases hV<;>exact⟨_,rfl⟩
   exact fin (some ad) none hX hW.v_inv (run_equal_pointer_nil c.w t (some ad) hpt)
  ·rename_i cs e1 e2
   rw[e1] at hV;rw[e2] at hW
   simp at he;subst he
   obtain⟨ad,hX⟩:∃ ad,a.eval y=.pointer (some ad):=by
    generalize a.eval y=X at hV
    cases hV with
    | d h=>cases h;exact⟨_,rfl⟩
   exact fin (some ad) none hX hW.v_inv (run_equal_pointer_nil c.w t (some ad) hpt)
  ·simp at he
end Go.Aug
