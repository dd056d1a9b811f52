import Derived.Test.YtmfdoekbjkgckaaGreatEvR
import Derived.Test.YtmfdoekbjkgckaaGreatEvC
import Derived.Laws.Tables
import Derived.Laws.Slices
import Derived.Laws.StructEq
import Derived.ChangeKeysEq
import Derived.Laws.Externs
namespace Go.Aug
open Go
def Gl (I:Nat->Prop)(w:World):Prop:=(∀ g cs,VY g=some cs->I g/\DRm I w cs g 0)/\∀ g,Z3q g=true->I g/\∃ m,w.cell? ⟨g,0,none⟩=some (.int .i64 m)
theorem Gl.mono {I I':Nat->Prop}{w w':World}(hI:∀ b,I b->I' b)(hb:∀ b,I b->w'.heap[b]? =w.heap[b]?)(h:Gl I w):Gl I' w':=
  ⟨fun g cs e=>⟨hI _ (h.1 g cs e).1,(h.1 g cs e).2.mono hI hb (h.1 g cs e).1⟩,fun g e=>⟨hI _ (h.2 g e).1,by rw[Rv (hb _ (h.2 g e).1)];exact(h.2 g e).2⟩⟩
abbrev TR (c:Cx)(tm:List AV)(a:Act):Prop:=Gl c.I c.w/\VRs c tm a.tmps.toList
theorem TR.mono {c c':Cx}(e:Ext c c'){tm:List AV}{a:Act}(h:TR c tm a):TR c' tm a:=⟨h.1.mono e.I e.im,h.2.mono e⟩
theorem Tw (a:Array Value)(n:Nat):a.toList.getD n undef=a.getD n undef:=by
  simp[List.getD,Array.getD_eq_getD_getElem?]
theorem DR.ofV1 {I:Nat->Prop}{w:World}{v:Value}(h:v.oneCell'=true):DR I w (ofV1 v) v:=by
  unfold Aug.ofV1
  split
  · exact .emp (by simp)
  · exact .v _ h
theorem DRs.ofV1 {I:Nat->Prop}{w:World}:∀(l:List Value),(∀ x ∈ l,x.oneCell'=true)->DRs I w (l.map Aug.ofV1) l
  | [],_=>.nil
  | x::l,h=>.cons (DR.ofV1 (h x (by simp))) (DRs.ofV1 l fun y hy=>h y (by simp[hy]))
theorem DR.ofV {I:Nat->Prop}{w:World}{v:Value}(h:PP v=true):DR I w (ofV v) v:=by
  cases v with
  | agg cs =>
    simp only[PP,List.all_eq_true] at h
    exact .agg (DRs.ofV1 _ h)
  | tuple cs=>simp[PP] at h
  | slice a l n=>exact DR.ofV1 (v:=.slice a l n) rfl
  | _=>exact .v _ rfl
theorem VR.look {c:Cx}{tm:List AV}{a:Act}(ht:TR c tm a){o:Operand}{x:Opd}(h:Zx o=some x):VR c (look tm x) (a.eval o):=by
  cases o with
  | tmp t =>
    simp only[Zx,Option.some.injEq] at h
    subst h
    have:=VRs.nth ht.2 t
    rw[Tw] at this
    exact this
  | const v =>
    simp only[Zx] at h
    split at h
    · simp only[Option.some.injEq] at h;subst h;exact .d (DR.ofV ‹_›)
    · simp at h
  | global g =>
    simp only[Zx,Option.map_eq_some_iff] at h
    obtain⟨cs,hg,rfl⟩:=h
    exact .d (.vptr (ht.1.1 g cs hg).1 (ht.1.1 g cs hg).2)
  | func f =>
    simp only[Zx,Option.some.injEq] at h
    subst h
    exact .fn .nil
theorem VR.lookN {c:Cx}{tm:List AV}{a:Act}(ht:TR c tm a){o:Operand}{x:Opd}(h:Zx o=some x)(sh:Sh):VR c (Aug.look tm (FP sh x)) (a.eval o):=by
  unfold FP
  split
  · cases o with
    | tmp t=>simp[Zx] at h
    | const v =>
      simp only[Zx] at h
      split at h
      · simp only [Option.some.injEq, Opd.c.injEq] at h
        have hv:v=.slice none 0 0:=by
          cases v<;>simp[ofV,ofV1] at h
          split at h
          · assumption
          · simp at h
        subst hv
        exact .d (.v _ rfl)
      · simp at h
    | global g=>simp[Zx] at h
    | func f=>simp[Zx] at h
  · exact VR.look ht h
theorem VR.looks {c:Cx}{tm:List AV}{a:Act}(ht:TR c tm a):∀ {os:List Operand} {xs:List Opd},Qx os=some xs->VRs c (xs.map (Aug.look tm)) (os.map a.eval)
  | [],xs,h=>by simp[Qx] at h;subst h;exact .nil
  | o :: os, xs, h => by
    simp only[Qx] at h
    cases h1:Zx o with
    | none=>simp[h1] at h
    | some x =>
      cases h2:Qx os with
      | none=>simp[h1,h2] at h
      | some ys =>
        simp[h1,h2] at h
        subst h
        exact .cons (VR.look ht h1) (VR.looks ht h2)
theorem VR.v_inv {c:Cx}{x X:Value}(h:VR c (.d (.v x)) X):X=x:=by
  cases h with | d h=>cases h;rfl
theorem VR.bool_inv {c:Cx}{b:Bool}{X:Value}(h:VR c (.d (.v (.bool b))) X):X=.bool b:=h.v_inv
theorem VR.int_inv {c:Cx}{k:IntKind}{n:Int}{X:Value}(h:VR c (.d (.v (.int k n))) X):X=.int k n:=h.v_inv
theorem VR.str_inv {c:Cx}{s:ByteArray}{X:Value}(h:VR c (.d (.v (.string s))) X):X=.string s:=h.v_inv
theorem VR.vv {c:Cx}{x:Value}(h:x.oneCell'=true):VR c (.d (.v x)) x:=.d (.v x h)
theorem VR.vptr_inv {c:Cx}{cs:List DV}{X:Value}(h:VR c (.d (.vptr cs)) X):∃ b o,X=.pointer (some ⟨b,o,none⟩)/\c.I b/\DRm c.I c.w cs b o:=by
  cases h with | d h=>cases h with | vptr hI h=>exact⟨_,_,rfl,hI,h⟩
theorem VR.lst_inv {c:Cx}{cs:List DV}{len:Nat}{k:Option Nat}{X:Value}(h:VR c (.d (.lst cs len k)) X):
    ∃ a cap,X=.slice a len cap/\len<=cap/\(∀ n,k=some n->cap=n)/\((cs=[]/\len=0)∨∃ b o,a=some ⟨b,o,none⟩/\c.I b/\DRm c.I c.w cs b o):=by
  cases h with
  | d h =>
    cases h with
    | emp hk=>exact⟨_,_,rfl,Nat.zero_le _,hk,.inl ⟨rfl,rfl⟩⟩
    | nil hk=>exact⟨_,_,rfl,Nat.zero_le _,hk,.inl ⟨rfl,rfl⟩⟩
    | lst hI hl hk h=>exact⟨_,_,rfl,hl,hk,.inr ⟨_,_,rfl,hI,h⟩⟩
theorem Z3e {α:Type}(p:Prop) [Decidable p] (a:α)(f:α->α):(if p then some a else(some a).map f)=some (if p then a else f a):=by
  split<;>rfl
theorem VR.nel_inv {c:Cx}{X:Value}(h:VR c (.d .nel) X):∃ a cap,X=.slice (some a) 0 cap:=by
  cases h with | d h=>cases h with | nel=>exact⟨_,_,rfl⟩
theorem VR.lst_or {c:Cx}{cs:List DV}{len:Nat}{k:Option Nat}{X:Value}(h:VR c (.d (.lst cs len k)) X):
    (cs=[]/\len=0/\X=.slice none 0 0/\∀ n,k=some n->0=n)∨∃ a l cap,X=.slice (some a) l cap:=by
  cases h with
  | d h => cases h with
    | emp hk=>exact .inl ⟨rfl,rfl,rfl,hk⟩
    | nil hk=>exact .inr ⟨_,_,_,rfl⟩
    | lst hI hl hk h=>exact .inr ⟨_,_,_,rfl⟩
theorem VR.lst_some {c:Cx}{cs:List DV}{len:Nat}{k:Option Nat}{X:Value}(h:VR c (.d (.lst cs len k)) X)(hl:len≠0):∃ a l cap,X=.slice (some a) l cap:=by
  rcases h.lst_or with⟨_,h0,_⟩ | h
  · exact absurd h0 hl
  · exact h
theorem VR.tup_inv {c:Cx}{cs:List AV}{X:Value}(h:VR c (.tup cs) X):∃ Xs,X=.tuple Xs/\VRs c cs Xs.toList:=by
  cases h with | tup h=>exact⟨_,rfl,h⟩
theorem VR.dtup_inv {c:Cx}{cs:List DV}{X:Value}(h:VR c (.d (.tup cs)) X):∃ Xs,X=.tuple Xs/\DRs c.I c.w cs Xs.toList:=by
  cases h with | d h=>cases h with | tup h=>exact⟨_,rfl,h⟩
theorem VR.agg_inv {c:Cx}{cs:List AV}{X:Value}(h:VR c (.agg cs) X):∃ Xs,X=.agg Xs/\VRs c cs Xs.toList:=by
  cases h with | agg h=>exact⟨_,rfl,h⟩
theorem VR.dagg_inv {c:Cx}{cs:List DV}{X:Value}(h:VR c (.d (.agg cs)) X):∃ Xs,X=.agg Xs/\DRs c.I c.w cs Xs.toList:=by
  cases h with | d h=>cases h with | agg h=>exact⟨_,rfl,h⟩
theorem DRm.drop {I:Nat->Prop}{w:World}:∀ {cs:List DV} {b o:Nat},DRm I w cs b o->∀ n,DRm I w (cs.drop n) b (o+n)
  | _,_,_,h,0=>h
  | _,_,_,.nil,_+1=>.nil
  | _, b, o, .cons _ _ hs, n + 1 => by
    have:=DRm.drop hs n
    rwa [show o+1+n=o+(n+1) by omega] at this
theorem DRm.take {I:Nat->Prop}{w:World}:∀ {cs:List DV} {b o:Nat},DRm I w cs b o->∀ n,DRm I w (cs.take n) b o
  | _,_,_,_,0=>.nil
  | _,_,_,.nil,_+1=>.nil
  | _,_,_,.cons hc h hs,n+1=>.cons hc h (DRm.take hs n)
theorem Addr.add_mk (b o n:Nat):Addr.add ⟨b,o,none⟩ n=⟨b,o+n,none⟩:=by
  unfold Addr.add
  split
  · subst_vars;rfl
  · rfl
theorem QD {P:Program}{w:World}{s:Sem Value}{X:Value}(h:s.run P w=.ok X w):(do pure (Next.value (<-s)):Sem Next).run P w=.ok (.value X) w:=by
  simp[h]
theorem Z1p {c:Cx}{x y:AV}{n:Nat}{X:Value}(h:VR c x X)(e:ET x n=some y):(∃ b o s,X=.pointer (some ⟨b,o,s⟩))/\∀ a,X=.pointer (some a)->VR c y (.pointer (some (a.add n))):=by
  cases x with
  | d x =>
    cases x<;>simp only[ET] at e<;>try (simp at e;done)
    rename_i cs
    split at e
    · simp at e
      subst e
      obtain⟨b,o,rfl,hI,hm⟩:=h.vptr_inv
      refine⟨⟨_,_,_,rfl⟩,fun a ha=> ?_⟩
      simp at ha
      subst ha
      rw[Addr.add_mk]
      exact .d (.vptr hI (hm.drop n))
    · simp at e
  | ref i ver off =>
    simp only[ET,Option.some.injEq] at e
    subst e
    cases h with
    | ref hp hv =>
      refine⟨⟨_,_,_,rfl⟩,fun a ha=> ?_⟩
      simp at ha
      subst ha
      rw[Addr.add_mk]
      exact .ref hp hv
    | refS hv hl =>
      refine⟨⟨_,_,_,rfl⟩,fun a ha=> ?_⟩
      simp at ha
      subst ha
      rw[Addr.add_mk]
      exact .refS hv hl
  | _=>simp[ET] at e
theorem Z9v {α:Type}(Z:List α)(k:Nat)(x:α)(l:List α)(h:k<Z.length):splice (Z.set k x) (k+1) l=splice Z k (x::l):=by
  unfold splice
  have h1:(Z.set k x).take (k+1)=Z.take k++[x]:=by
    rw[List.take_set,List.take_succ_eq_append_getElem h]
    rw[List.set_append_right _ _ (by simp;omega)]
    simp[Nat.min_eq_left (Nat.le_of_lt h)]
  have h2:(Z.set k x).drop (k+1+l.length)=Z.drop (k+1+l.length):=by
    rw[List.drop_set_of_lt (by omega)]
  rw[h1,h2]
  simp[Nat.add_assoc,Nat.add_comm 1 l.length]
theorem Z9u {α:Type}(Z:List α)(k:Nat):splice Z k []=Z:=by simp[splice]
theorem Z3t:∀(l:List Value) (n off:Nat) (Z:Array Value),off+n+l.length<=Z.size->
    (l.zipIdx n).foldl (fun cs p=>cs.setIfInBounds (off+p.2) p.1) Z=(splice Z.toList (off+n) l).toArray
  | [],n,off,Z,_=>by simp[Z9u]
  | x :: l, n, off, Z, h => by
    simp only[List.length_cons] at h
    rw[List.zipIdx_cons,List.foldl_cons,Z3t l (n+1) off _ (by simp;omega)]
    rw[Array.toList_setIfInBounds,<-Nat.add_assoc,Z9v _ _ _ _ (by simp;omega)]
theorem Zgc (xs Z:Array Value)(off:Nat)(h:off+xs.size<=Z.size):
    xs.zipIdx.foldl (fun cs (c,j)=>cs.setIfInBounds (off+j) c) Z=(splice Z.toList off xs.toList).toArray:=by
  rw[<-Array.foldl_toList,Array.toList_zipIdx]
  exact Z3t xs.toList 0 off Z (by simpa using h)
theorem WR {c:Cx}{tm:List AV}{a:Act}(ht:TR c tm a)(place:Nat->Option (Nat×Nat)):∀(parts:List (Nat×Operand)) (ps:List (Nat×Nat×Opd)),D9 place parts=some ps->
    ∀(zs:List AV) (Z:Array Value) (cs:List AV),VRs c zs Z.toList->JJ tm zs ps=some cs->∃ C,Instr.fill place Z (parts.map fun p=>(p.1,a.eval p.2))=some C/\VRs c cs C.toList
  | [], ps, h, zs, Z, cs, hz, hf => by
    simp[D9] at h;subst h
    simp[JJ] at hf;subst hf
    exact⟨Z,rfl,hz⟩
  | (i, o) :: parts, ps, h, zs, Z, cs, hz, hf => by
    simp only[D9] at h
    cases hp:place i with
    | none=>simp[hp] at h
    | some q =>
      obtain⟨off,size⟩:=q
      cases ho:Zx o with
      | none=>simp[hp,ho] at h
      | some x =>
        cases hr:D9 place parts with
        | none=>simp[hp,ho,hr] at h
        | some rest =>
          simp[hp,ho,hr] at h
          subst h
          simp only[JJ] at hf
          split at hf
          · rename_i hc
            obtain⟨h0,h1,h2⟩:=hc
            have hx:=(VR.look ht ho).cells h0
            have hl:=hx.length
            have hlz:=hz.length
            have hsp:=hz.splice hx off
            simp only[Array.length_toList] at hl hlz
            have key:=WR ht place parts rest hr (splice zs off (look tm x).cells) (splice Z.toList off (a.eval o).cells.toList).toArray cs (by simpa using hsp) hf
            obtain⟨C,hC,hcs⟩:=key
            refine⟨C,?_,hcs⟩
            simp only[List.map_cons,Instr.fill,hp]
            have hb:((a.eval o).cells.size≠size || off+(a.eval o).cells.size>Z.size)=false:=by
              simp;omega
            rw[Zgc _ _ _ (by omega)]
            split
            · rename_i hh
              rw[hb] at hh;simp at hh
            · exact hC
          · simp at hf
def Jw (P:Program)(op:Op)(f:Zw):Prop:=
  ∀ (c : Cx) (tm : List AV) (a : Act) (E : Env) (call : cT) (A : List Blk) (nb : Nat) (d : Done) (o : Oper), o.op = op -> TR c tm a -> f E call tm A nb = some d ->
    ∃ x X,d=.made x []/\(execOp a.eval o).run P c.w=.ok (.value X) c.w/\VR c x X
theorem one?_inv {x:Option AV}{d:Done}(h:one? x=some d):∃ y,x=some y/\d=.made y []:=by
  cases x with
  | none=>simp[one?] at h
  | some y=>simp[one?] at h;exact⟨y,rfl,h.symm⟩
theorem Zcb {P:Program}{y:Operand}{x:Opd}(h:Zx y=some x):Jw P (.move y) (oV x):=by
  intro c tm a E call A nb d o ho ht hd
  simp only[oV,Option.some.injEq] at hd
  exact⟨_,_,hd.symm,by simp[execOp,ho],VR.look ht h⟩
theorem Zcm {P:Program}{y:Operand}{x:Opd}(h:Zx y=some x):Jw P (.assign y) (oV x):=by
  intro c tm a E call A nb d o ho ht hd
  simp only[oV,Option.some.injEq] at hd
  exact⟨_,_,hd.symm,by simp[execOp,ho],VR.look ht h⟩
theorem Zc9 {P:Program}{y1 y2 y3:Operand}{x1 x2 x3:Opd}(h1:Zx y1=some x1)(h2:Zx y2=some x2)(h3:Zx y3=some x3):Jw P (.pick y1 y2 y3) (QE x1 x2 x3):=by
  intro c tm a E call A nb d o ho ht hd
  have hc:=VR.look ht h1
  simp only[QE] at hd
  unfold PJ at hd
  split at hd
  · rename_i e; rw [e] at hc
    simp at hd
    exact⟨_,_,hd.symm,by simp[execOp,ho,hc.bool_inv,asBool],VR.look ht h2⟩
  · rename_i e; rw [e] at hc
    simp at hd
    exact⟨_,_,hd.symm,by simp[execOp,ho,hc.bool_inv,asBool],VR.look ht h3⟩
  · simp at hd
theorem RA {c:Cx}{z:Value}{zs:List AV}(h:KC z=some zs):VRs c zs z.cells.toList:=by
  unfold KC at h
  split at h
  · simp at h
    subst h
    rename_i h1
    simp only[List.all_eq_true] at h1
    have:=VRs.ofD (c:=c) (DRs.ofV1 _ h1)
    rw[List.map_map] at this
    exact this
  · simp at h
theorem Zck {P:Program}{t:TypeId}{parts:Array (Nat×Operand)}{f:Zw}(h:ZN P (.build t parts)=some f):Jw P (.build t parts) f:=by
  intro c tm a E call A nb d o ho ht hd
  simp only[ZN] at h
  have key:∀(place:Nat->Option (Nat×Nat)) (z:Value) (zs:List AV) (ps:List (Nat×Nat×Opd)),KC z=some zs->D9 place parts.toList=some ps->f=Qq zs ps->
      (∀ C,Instr.fill place z.cells (parts.toList.map fun p=>(p.1,a.eval p.2))=some C->P.built t (parts.toList.map fun p=>(p.1,a.eval p.2))=some C)->
      ∃ x X,d=.made x []/\(execOp a.eval o).run P c.w=.ok (.value X) c.w/\VR c x X:=by
    intro place z zs ps hz hp hf hb
    subst hf
    simp only[Qq] at hd
    cases hfl:JJ tm zs ps with
    | none=>simp[hfl,RP] at hd
    | some cs =>
      simp[hfl,RP] at hd
      obtain⟨C,hC,hv⟩:=WR ht place _ _ hp _ _ _ (RA hz) hfl
      refine⟨_,.agg C,hd.symm,?_,.agg hv⟩
      have hl:(parts.map fun(x:Nat×Operand)=>(x.1,a.eval x.2)).toList=parts.toList.map fun p=>(p.1,a.eval p.2):=by simp
      have:=run_build c.w t (parts.map fun(x:Nat×Operand)=>(x.1,a.eval x.2)) C (by rw[hl];exact hb _ hC)
      simp only[execOp,ho]
      exact QD this
  split at h
  · rename_i it n e hit hu
    split at h
    · rename_i z ie hz hie
      split at h
      · rename_i zs ps hzs hps
        simp at h
        exact key _ z zs ps hzs hps h.symm (fun C hC=>by simp only[Program.built,hit,hu,hz,hie];exact hC)
      · simp at h
    · simp at h
  · rename_i it fields hit hu
    split at h
    · rename_i z places hz hpl
      split at h
      · rename_i zs ps hzs hps
        simp at h
        exact key _ z zs ps hzs hps h.symm (fun C hC=>by simp only[Program.built,hit,hu,hz,hpl];exact hC)
      · simp at h
    · simp at h
  · simp at h
theorem E3 {P:Program}{t:TypeId}{n:Nat}(h:Q0 P t=some n)(w:World):(sizeOf t).run P w=.ok n w:=by
  unfold Q0 at h
  cases hi:P.info? t with
  | none=>simp[hi] at h
  | some i=>simp[hi] at h;simp[sizeOf,typeInfo,hi,h]
theorem Zig {P:Program}{fields:Array Field}{i o s:Nat}(h:WV P fields i=some (o,s)):∃ f,fields[i]? =some f/\f.offset=o/\Q0 P f.type=some s:=by
  unfold WV at h
  split at h
  · rename_i f hf
    cases hs:Q0 P f.type with
    | none=>simp[hs] at h
    | some n=>simp[hs] at h;exact⟨f,hf,h.1,by rw[hs,h.2]⟩
  · simp at h
theorem Zcg {P:Program}{t:TypeId}{y:Operand}{i:Nat}{f:Zw}(h:ZN P (.fieldAddr t y i)=some f):Jw P (.fieldAddr t y i) f:=by
  intro c tm a E call A nb d o ho ht hd
  simp only[ZN] at h
  split at h
  · rename_i fields x hu hx
    split at h
    · rename_i off s hf
      obtain⟨fd,hfd,rfl,hs⟩:=Zig hf
      split at h
      · simp at h
      · rename_i hs0
        simp at h;subst h
        obtain⟨y',hy,rfl⟩:=one?_inv hd
        obtain⟨⟨b,of,sp,hX⟩,hv⟩:=Z1p (VR.look ht hx) hy
        refine⟨_,_,rfl,?_,hv _ hX⟩
        simp only[execOp,ho]
        apply QD
        simp[Instr.fieldAt,run_underlying hu,hfd,hX,Instr.sureAddr,fieldPlace,E3 hs,hs0]
    · simp at h
  · simp at h
theorem N1 {P:Program}{t:TypeId}{ag:Bool}(h:Aj P t=some ag)(w:World):(isAgg t).run P w=.ok ag w:=by
  unfold Aj at h
  split at h
  · rename_i fs hu;simp at h;subst h;simp[isAgg,run_underlying hu]
  · rename_i n e hu;simp at h;subst h;simp[isAgg,run_underlying hu]
  · rename_i d hn hm hu
    simp at h;subst h
    simp only[isAgg,Sem.run_bind,run_underlying hu,Result.andThen_ok]
    simp
  · simp at h
theorem Z02 {c:Cx}{ag:Bool}{n:Nat}{cs:List AV}{Xs:List Value}{y:AV}(h:VRs c cs Xs)(e:AY ag n cs=some y):
    (ag=true->n<=cs.length/\VR c y (.agg (Xs.take n).toArray))/\(ag=false->∃ X,Xs[0]? =some X/\VR c y X):=by
  unfold AY at e
  cases ag with
  | true =>
    simp only[if_true] at e
    split at e
    · simp at e; subst e
      exact⟨fun _=>⟨‹_›,.agg (by simpa using h.take n)⟩,by simp⟩
    · simp at e
  | false =>
    refine⟨by simp,fun _=> ?_⟩
    simp at e
    cases h with
    | nil=>simp at e
    | cons h hs=>simp at e;subst e;exact⟨_,rfl,h⟩
theorem Z04 {I:Nat->Prop}{w:World}{ag:Bool}{n:Nat}{cs:List DV}{Xs:List Value}{y:DV}(h:DRs I w cs Xs)(e:BQ ag n cs=some y):
    (ag=true->n<=cs.length/\DR I w y (.agg (Xs.take n).toArray))/\(ag=false->∃ X,Xs[0]? =some X/\DR I w y X):=by
  unfold BQ at e
  cases ag with
  | true =>
    simp only[if_true] at e
    split at e
    · simp at e; subst e
      exact⟨fun _=>⟨‹_›,.agg (by simpa using h.take n)⟩,by simp⟩
    · simp at e
  | false =>
    refine⟨by simp,fun _=> ?_⟩
    simp at e
    cases h with
    | nil=>simp at e
    | cons h hs=>simp at e;subst e;exact⟨_,rfl,h⟩
theorem Z1t {P:Program}{c:Cx}{t:TypeId}{ag:Bool}{n off:Nat}{x y:AV}{X:Value}(ha:Aj P t=some ag)(hs:Q0 P t=some n)(h:VR c x X)(e:G7 x off ag n=some y):
    ∃ Xs Y,X=.agg Xs/\(part t Xs off).run P c.w=.ok Y c.w/\VR c y Y:=by
  have key:∀(Xs:Array Value) (y':AV) ,(ag=true->n<=Xs.size-off/\VR c y' (.agg ((Xs.toList.drop off).take n).toArray))->(ag=false->∃ Z,(Xs.toList.drop off)[0]? =some Z/\VR c y' Z)->
      ∃ Y,(part t Xs off).run P c.w=.ok Y c.w/\VR c y' Y:=by
    intro Xs y' h1 h2
    cases ag with
    | true =>
      obtain⟨_,hv⟩:=h1 rfl
      refine⟨_,?_,hv⟩
      simp only[part,Sem.run_bind,N1 ha,Result.andThen_ok,if_true,E3 hs,Sem.run_pure]
      congr 2
      apply Array.ext'
      simp[Array.toList_extract,List.extract_eq_take_drop]
    | false =>
      obtain⟨Z,hz,hv⟩:=h2 rfl
      refine⟨Z,?_,hv⟩
      have hz':Xs[off]? =some Z:=by simpa using hz
      simp[part,N1 ha,hz']
  cases x with
  | agg cs =>
    simp only[G7] at e
    split at e
    · obtain ⟨Xs, rfl, hX⟩ := h.agg_inv
      obtain⟨h1,h2⟩:=Z02 (hX.drop off) e
      have hl:=hX.length
      obtain⟨Y,hr,hv⟩:=key Xs y (fun g=>⟨by have:=(h1 g).1;simp at this hl;omega,(h1 g).2⟩) h2
      exact⟨Xs,Y,rfl,hr,hv⟩
    · simp at e
  | d x =>
    cases x<;>simp only[G7] at e<;>try (simp at e;done)
    split at e
    · obtain ⟨Xs, rfl, hX⟩ := h.dagg_inv
      cases he:BQ ag n (List.drop off ‹List DV›) with
      | none=>simp[he] at e
      | some z =>
        simp[he] at e
        subst e
        obtain⟨h1,h2⟩:=Z04 (hX.drop off) he
        have hl:=hX.length
        obtain⟨Y,hr,hv⟩:=key Xs (.d z) (fun g=>⟨by have:=(h1 g).1;simp at this hl;omega,.d (h1 g).2⟩) (fun g=>let⟨Z,hz,hd⟩:=h2 g;⟨Z,hz,.d hd⟩)
        exact⟨Xs,Y,rfl,hr,hv⟩
    · simp at e
  | _=>simp[G7] at e
theorem Zch {P:Program}{t:TypeId}{y:Operand}{i:Nat}{f:Zw}(h:ZN P (.field t y i)=some f):Jw P (.field t y i) f:=by
  intro c tm a E call A nb d o ho ht hd
  simp only[ZN] at h
  split at h
  · rename_i fields x hu hx
    split at h
    · rename_i fd hfd
      split at h
      · rename_i ag s ha hs
        split at h
        · simp at h
        · simp at h; subst h
          obtain⟨y',hy,rfl⟩:=one?_inv hd
          obtain⟨Xs,Y,hX,hr,hv⟩:=Z1t ha hs (VR.look ht hx) hy
          refine⟨_,_,rfl,?_,hv⟩
          simp only[execOp,ho]
          apply QD
          simp[Instr.field,run_underlying hu,hfd,hX,asAgg,hr]
      · simp at h
    · simp at h
  · simp at h
theorem Zgg {x ix y:AV}{len s:Nat}(h:R7 x ix len s=some y):∃ k i,ix=.d (.v (.int k i))/\0<=i/\i<len/\ET x (i.toNat*s)=some y:=by
  unfold R7 at h
  split at h
  · split at h
    · rename_i hc;exact⟨_,_,rfl,hc.1,hc.2,h⟩
    · simp at h
  · simp at h
theorem Zce {P:Program}{t:TypeId}{y1 y2:Operand}{f:Zw}(h:ZN P (.indexAddr t y1 y2)=some f):Jw P (.indexAddr t y1 y2) f:=by
  intro c tm a E call A nb d o ho ht hd
  simp only[ZN] at h
  split at h
  · rename_i n e x ix hu hx hix
    cases hs:Q0 P e with
    | none=>simp[hs] at h
    | some s =>
      simp[hs] at h;subst h
      obtain⟨y',hy,rfl⟩:=one?_inv hd
      obtain⟨k,i,hi,h0,h1,hp⟩:=Zgg hy
      have hI:=VR.look ht hix
      rw[hi] at hI
      obtain⟨⟨b,of,sp,hX⟩,hv⟩:=Z1p (VR.look ht hx) hp
      refine⟨_,_,rfl,?_,hv _ hX⟩
      simp only[execOp,ho]
      apply QD
      simp[Instr.indexAt,hI.int_inv,asIntOf,run_underlying hu,hX,Instr.sureAddr,h0,h1,E3 hs]
  · rename_i e x ix hu hx hix
    cases hs:Q0 P e with
    | none=>simp[hs] at h
    | some s =>
      simp[hs] at h;subst h
      obtain⟨y',hy,rfl⟩:=one?_inv hd
      unfold BE at hy
      split at hy
      · rename_i k i hi
        have hI:=VR.look ht hix
        rw[hi] at hI
        split at hy
        · rename_i cs len kk hl
          split at hy
          · rename_i hc
            obtain⟨h0,h1,h2⟩:=hc
            simp at hy;subst hy
            have hL:=VR.look ht hx
            rw[hl] at hL
            obtain⟨ad,cap,hX,_,_,hm⟩:=hL.lst_inv
            rcases hm with⟨_,h3⟩ | ⟨b,of,rfl,hIb,hm⟩
            · omega
            · refine ⟨_, .pointer (some (Addr.add ⟨b, of, none⟩ (i.toNat * s))), rfl, ?_, ?_⟩
              · simp only [execOp, ho]
                apply QD
                simp[Instr.indexAt,hI.int_inv,asIntOf,run_underlying hu,hX,h0,h1,E3 hs]
              · rw [Addr.add_mk]
                exact .d (.vptr hIb (hm.drop _))
          · simp at hy
        · rename_i b ver off len sz kk hl
          split at hy
          · rename_i hc
            obtain⟨h0,h1,rfl⟩:=hc
            simp at hy;subst hy
            have hL:=VR.look ht hx
            rw[hl] at hL
            have hrun:∀(ad:Addr) (cap:Nat),a.eval y1=.slice (some ad) len cap->(execOp a.eval o).run P c.w=.ok (.value (.pointer (some (ad.add (i.toNat*sz))))) c.w:=by
              intro ad cap hX
              simp only[execOp,ho]
              apply QD
              simp[Instr.indexAt,hI.int_inv,asIntOf,run_underlying hu,hX,h0,h1,E3 hs]
            cases hX:a.eval y1 with
            | slice ad ln cap =>
              rw[hX] at hL
              cases hL with
              | sref hp hv hl' hk hs' hn =>
                refine⟨_,_,rfl,hrun _ _ hX,?_⟩
                rw[Addr.add_mk]
                exact .ref hp hv
              | srefS hv hl' hc' hk =>
                refine⟨_,_,rfl,hrun _ _ hX,?_⟩
                rw[Addr.add_mk]
                exact .refS hv hl'
            | _=>rw[hX] at hL;cases hL
          · simp at hy
        · simp at hy
      · simp at hy
  · simp at h
theorem Zcf {P:Program}{t:TypeId}{y1 y2:Operand}{f:Zw}(h:ZN P (.index t y1 y2)=some f):Jw P (.index t y1 y2) f:=by
  intro c tm a E call A nb d o ho ht hd
  simp only[ZN] at h
  split at h
  · rename_i n e x ix hu hx hix
    split at h
    · rename_i ag s ha hs
      split at h
      · simp at h
      · simp at h; subst h
        obtain⟨y',hy,rfl⟩:=one?_inv hd
        unfold TF at hy
        split at hy
        · rename_i k i hi
          have hI:=VR.look ht hix
          rw[hi] at hI
          split at hy
          · rename_i hc
            obtain⟨Xs,Y,hX,hr,hv⟩:=Z1t ha hs (VR.look ht hx) hy
            refine⟨_,_,rfl,?_,hv⟩
            simp only[execOp,ho]
            apply QD
            simp[Instr.index,hI.int_inv,asIntOf,run_underlying hu,hX,hc.1,hc.2,E3 hs,hr]
          · simp at hy
        · simp at hy
    · simp at h
  · rename_i x ix hu hx hix
    simp at h;subst h
    obtain⟨y',hy,rfl⟩:=one?_inv hd
    unfold W7 at hy
    split at hy
    · rename_i s k i hs hi
      have hI:=VR.look ht hix
      rw[hi] at hI
      have hS:=VR.look ht hx
      rw[hs] at hS
      split at hy
      · rename_i h0
        cases hb:s[i.toNat]? with
        | none=>simp[hb] at hy
        | some b =>
          simp[hb] at hy;subst hy
          refine⟨_,_,rfl,?_,VR.vv rfl⟩
          simp only[execOp,ho]
          apply QD
          simp[Instr.index,hI.int_inv,hS.str_inv,asIntOf,run_underlying hu,h0,hb]
      · simp at hy
    · simp at hy
  · simp at h
theorem Zci {P:Program}{y:Operand}{i:Nat}{f:Zw}(h:ZN P (.extract y i)=some f):Jw P (.extract y i) f:=by
  intro c tm a E call A nb d o ho ht hd
  simp only[ZN] at h
  cases hx:Zx y with
  | none=>simp[hx] at h
  | some x =>
    simp[hx] at h;subst h
    obtain⟨y',hy,rfl⟩:=one?_inv hd
    have hX:=VR.look ht hx
    unfold R8 at hy
    split at hy
    · rename_i vs e
      rw[e] at hX
      obtain⟨Xs,hX,hv⟩:=hX.tup_inv
      obtain⟨Y,hY,hv⟩:=hv.get hy
      have hY':Xs[i]? =some Y:=by simpa using hY
      refine⟨_,_,rfl,?_,hv⟩
      simp only[execOp,ho]
      apply QD
      simp[Instr.extract,hX,hY']
    · rename_i vs e
      rw[e] at hX
      obtain⟨Xs,hX,hv⟩:=hX.dtup_inv
      cases hg:vs[i]? with
      | none=>simp[hg] at hy
      | some z =>
        simp[hg] at hy;subst hy
        obtain⟨Y,hY,hv⟩:=hv.get hg
        have hY':Xs[i]? =some Y:=by simpa using hY
        refine⟨_,_,rfl,?_,.d hv⟩
        simp only[execOp,ho]
        apply QD
        simp[Instr.extract,hX,hY']
    · simp at hy
theorem Zc7 {P:Program}{op:UnOp}{t:TypeId}{y:Operand}{f:Zw}(h:ZN P (.unOp op t y)=some f):Jw P (.unOp op t y) f:=by
  intro c tm a E call A nb d o ho ht hd
  simp only[ZN] at h
  cases hx:Zx y with
  | none=>simp[hx] at h
  | some x =>
    simp[hx] at h;subst h
    obtain⟨y',hy,rfl⟩:=one?_inv hd
    have hX:=VR.look ht hx
    unfold TC at hy
    split at hy
    · rename_i b e
      rw[e] at hX
      simp at hy;subst hy
      refine⟨_,_,rfl,?_,VR.vv rfl⟩
      simp only[execOp,ho]
      apply QD
      simp[Op.unary,hX.bool_inv]
    · rename_i k n e
      rw[e] at hX
      simp at hy;subst hy
      refine⟨_,_,rfl,?_,VR.vv rfl⟩
      simp only[execOp,ho]
      apply QD
      simp[Op.unary,hX.int_inv,Op.intArith]
    · simp at hy
theorem Zgi {op:BinOp}{k:IntKind}{x y:Int}{r:Value}(h:E8 op k x y=some r):r.oneCell'=true:=by
  unfold E8 at h
  split at h<;>(try split at h)<;>simp at h<;>subst h<;>rfl
theorem Zgh {P:Program}{op:BinOp}{k:IntKind}{t:TypeId}{x y:Int}{r:Value}(h:E8 op k x y=some r)(w:World):(binOp op t (.int k x) (.int k y)).run P w=.ok r w:=by
  unfold E8 at h
  split at h
  all_goals first
    | (simp at h;done)
    | (split at h
       · simp at h
       · simp at h;subst h;simp[binOp,Op.intDiv, *])
    | (simp at h;subst h;simp[binOp,Op.intArith,Op.intBits,Op.intCmp])
theorem TE {P:Program}{shl:Bool}{k yk:IntKind}{t:TypeId}{x y:Int}{r:Value}(h:G6 shl k x y=some r)(w:World):
    (binOp (if shl then .shl else .shr) t (.int k x) (.int yk y)).run P w=.ok r w/\r.oneCell'=true:=by
  unfold G6 at h
  split at h
  · simp at h
  · rename_i hy
    cases shl<;>simp at h<;>subst h<;>exact⟨by simp only[binOp,Op.shift,if_true,Bool.false_eq_true,if_false,if_neg hy,Sem.run_pure],rfl⟩
theorem Z5g {P:Program}{op:BinOp}{t:TypeId}{x y:ByteArray}{r:Value}(h:K8 op x y=some r)(w:World):(binOp op t (.string x) (.string y)).run P w=.ok r w/\r.oneCell'=true:=by
  unfold K8 at h
  split at h
  case h_1=>
    split at h
    · rename_i hle
      simp at h;subst h
      have:¬(((x.size+y.size:Nat):Int)>IntKind.i64.max):=by
        simp[IntKind.max,IntKind.signed,IntKind.bits];omega
      simp only[binOp,Op.stringOp,if_neg this]
      exact⟨by simp,rfl⟩
    · simp at h
  all_goals first
    | (simp at h;done)
    | (simp at h;subst h;exact⟨by simp[binOp,Op.stringOp],rfl⟩)
theorem VR.ifc_inv {c:Cx}{t:TypeId}{x:AV}{X:Value}(h:VR c (.ifc t x) X):∃ Y,X=.iface t Y/\VR c x Y:=by
  cases h with | ifc h=>exact⟨_,rfl,h⟩
theorem VR.difc_inv {c:Cx}{t:TypeId}{x:DV}{X:Value}(h:VR c (.d (.ifc t x)) X):∃ Y,X=.iface t Y/\DR c.I c.w x Y:=by
  cases h with | d h=>cases h with | ifc h=>exact⟨_,rfl,h⟩
theorem Zgp {P:Program}{t t':TypeId}{v:Value}{ms:Array (String×TypeId)}(hu:P.underlying t=some (.interface ms))(D:Nat)(w:World):(Op.equalIn (D+1) t .nilIface (.iface t' v)).run P w=.ok false w:=by
  simp[Op.equalIn,run_underlying hu]
theorem Zgq {P:Program}{t t':TypeId}{v:Value}{ms:Array (String×TypeId)}(hu:P.underlying t=some (.interface ms))(D:Nat)(w:World):(Op.equalIn (D+1) t (.iface t' v) .nilIface).run P w=.ok false w:=by
  simp[Op.equalIn,run_underlying hu]
theorem Zgo {P:Program}{t e:TypeId}{a1:Option Addr}{l1 c1 l2 c2:Nat}(hu:P.underlying t=some (.slice e))(D:Nat)(w:World):(Op.equalIn (D+1) t (.slice a1 l1 c1) (.slice none l2 c2)).run P w=.ok a1.isNone w:=by
  cases a1<;>simp[Op.equalIn,run_underlying hu]
set_option linter.unusedVariables false in
theorem NK {P:Program}{op:BinOp}{t:TypeId}{x y:Operand}{X Y:Value}(h1:X≠ .nilIface∨Y≠ .nilIface)(h2:(∀ cs,X≠ .agg cs)∨∀ cs,Y≠ .agg cs)(w:World):(eqGuard op t x y X Y).run P w=.ok () w:=by
  unfold eqGuard
  cases op<;>simp only[Bool.not_true,Bool.not_false,Bool.false_eq_true,if_true,if_false]<;>first
    | rfl
    | (split
       · simp_all
       · rcases h2 with h2 | h2
         · exact absurd rfl (h2 _)
         · exact absurd rfl (h2 _)
       · rfl)
def KJ (P:Program)(t:TypeId)(off:Nat)(X:List Value)(V:Value):Prop:=
  ∃ ag n,Aj P t=some ag/\Q0 P t=some n/\(ag=true->off+n<=X.length/\V=.agg ((X.drop off).take n).toArray)/\(ag=false->X[off]? =some V)
theorem KJ.part {P:Program}{u:TypeId}{off o n:Nat}{X:List Value}{Xs:Array Value}{ag:Bool}{s:Nat}(hX:off+n<=X.length)(hXs:Xs=((X.drop off).take n).toArray)(ha:Aj P u=some ag)(hs:Q0 P u=some s)
    (hn:o+s<=n) (hz:ag=false->o<n) (w:World):∃ V,(part u Xs o).run P w=.ok V w/\KJ P u (off+o) X V:=by
  subst hXs
  cases ag with
  | true =>
    refine⟨.agg ((X.drop (off+o)).take s).toArray,?_,true,s,ha,hs,fun _=>⟨by omega,rfl⟩,by simp⟩
    simp only[Go.part,Sem.run_bind,N1 ha,Result.andThen_ok,if_true,E3 hs,Sem.run_pure]
    congr 2
    apply Array.ext'
    simp only[Array.toList_extract,List.extract_eq_take_drop]
    rw[List.drop_take,List.drop_drop,List.take_take,Nat.min_eq_left (by omega)]
    congr 1
    omega
  | false =>
    have h1:=hz rfl
    have hlt:off+o<X.length:=by omega
    refine⟨X[off+o],?_,false,s,ha,hs,by simp,fun _=>by simp[hlt]⟩
    have:((List.take n (List.drop off X)).toArray)[o]? =some X[off+o]:=by
      simp[h1,List.getElem?_drop,hlt]
    simp[Go.part,N1 ha,this]
theorem Wq {xs ys:List AV}:∀ {l r:List (Nat×Lf)} {b:Bool},BF xs ys (l++r)=some b->∃ b1 b2,BF xs ys l=some b1/\BF xs ys r=some b2/\b=(b1&&b2)
  | [],r,b,h=>⟨true,b,rfl,h,by simp⟩
  | (o, f) :: l, r, b, h => by
    simp only[List.cons_append,BF] at h ⊢
    cases h1:C9 f (ZM xs o) (ZM ys o) with
    | none=>simp[h1] at h
    | some a =>
      cases h2:BF xs ys (l++r) with
      | none=>simp[h1,h2] at h
      | some b2 =>
        simp[h1,h2] at h
        obtain⟨b3,b4,e3,e4,e5⟩:=Wq h2
        exact⟨a&&b3,b4,by simp[e3],e4,by rw[<-h,e5,Bool.and_assoc]⟩
theorem Wk {xs ys:List AV}{o:Nat}{f:Lf}{b:Bool}(h:BF xs ys [(o,f)]=some b):C9 f (ZM xs o) (ZM ys o)=some b:=by
  simp only[BF] at h
  cases h1:C9 f (ZM xs o) (ZM ys o) with
  | none=>simp[h1] at h
  | some a=>simp[h1] at h;rw[h]
theorem NE {X:List Value}{o:Nat}{V:Value}(h:X[o]? =some V):X.getD o undef=V:=by simp[List.getD,h]
def Zjh (P:Program)(t:TypeId):Lf->Prop
  | .bool=>P.underlying t=some .bool
  | .int=>∃ k,P.underlying t=some (.int k)
  | .str=>P.underlying t=some .string
theorem UK {P:Program}{c:Cx}{t:TypeId}{f:Lf}{a b:AV}{V W:Value}{r:Bool}(hV:VR c a V)(hW:VR c b W)(h:C9 f a b=some r)
    (hu:Zjh P t f) (D:Nat) (w:World):(Op.equalIn (D+1) t V W).run P w=.ok r w:=by
  cases f with
  | bool =>
    unfold C9 at h
    split at h<;>first | (rename_i e _ _;simp at e;done) | simp at h
    all_goals (try (rename_i e;cases e))
    all_goals subst h
    rw[hV.bool_inv,hW.bool_inv]
    exact run_equalIn_bool' w D t _ _ hu
  | int =>
    unfold C9 at h
    split at h<;>first | (rename_i e _ _;simp at e;done) | skip
    all_goals (try (rename_i e;cases e))
    · split at h
      · rename_i hk
        subst hk
        simp at h;subst h
        obtain⟨k',hu⟩:=hu
        rw[hV.int_inv,hW.int_inv]
        exact run_equalIn_int w D t _ _ _ _ hu
      · simp at h
    · simp at h
  | str =>
    unfold C9 at h
    split at h<;>first | (rename_i e _ _;simp at e;done) | simp at h
    all_goals (try (rename_i e;cases e))
    all_goals subst h
    rw[hV.str_inv,hW.str_inv]
    exact run_equalIn_string w D t _ _ hu
theorem WZ {P:Program}{t:TypeId}{d:TypeDesc}(h:P.underlying t=some d):∃ ag,Aj P t=some ag:=by
  unfold Aj
  rw[h]
  cases d<;>exact⟨_,rfl⟩
theorem Z33 {P:Program}{d:Nat}{t:TypeId}{off:Nat}{l:List (Nat×Lf)}(h:AM P d t off=some l):∃ u,P.underlying t=some u:=by
  cases d with
  | zero=>simp[AM] at h
  | succ d =>
    unfold AM at h
    split at h<;>first | exact⟨_,by assumption⟩ | simp at h
theorem Zf3 {P:Program}{c:Cx}{xs ys:List AV}{X Y:List Value}(hx:VRs c xs X)(hy:VRs c ys Y)(w:World):∀(d:Nat) (t:TypeId) (off:Nat) (l:List (Nat×Lf)),AM P d t off=some l->
    ∀(b:Bool),BF xs ys l=some b->∀(V W:Value),KJ P t off X V->KJ P t off Y W->∀ D,(Op.equalIn (d+D) t V W).run P w=.ok b w:=by
  intro d
  induction d with
  | zero=>intro t off l h;simp[AM] at h
  | succ d ih =>
    intro t off l h b hb V W hV hW D
    obtain⟨ag,n,ha,hs,hV1,hV2⟩:=hV
    obtain⟨ag',n',ha',hs',hW1,hW2⟩:=hW
    rw[ha] at ha'
    simp at ha'
    subst ha'
    rw[hs] at hs'
    simp at hs'
    subst hs'
    have e:d+1+D=(d+D)+1:=by omega
    rw[e]
    unfold AM at h
    split at h
    · rename_i hu
      have:ag=false:=by simp[Aj,hu] at ha;exact ha
      subst this
      simp at h;subst h
      have h1:=hx.nth off
      have h2:=hy.nth off
      rw[NE (hV2 rfl)] at h1
      rw[NE (hW2 rfl)] at h2
      exact UK h1 h2 (Wk hb) hu _ w
    · rename_i k hu
      have:ag=false:=by simp[Aj,hu] at ha;exact ha
      subst this
      simp at h;subst h
      have h1:=hx.nth off
      have h2:=hy.nth off
      rw[NE (hV2 rfl)] at h1
      rw[NE (hW2 rfl)] at h2
      exact UK h1 h2 (Wk hb) ⟨k,hu⟩ _ w
    · rename_i hu
      have:ag=false:=by simp[Aj,hu] at ha;exact ha
      subst this
      simp at h;subst h
      have h1:=hx.nth off
      have h2:=hy.nth off
      rw[NE (hV2 rfl)] at h1
      rw[NE (hW2 rfl)] at h2
      exact UK h1 h2 (Wk hb) hu _ w
    · rename_i fields hu
      have:ag=true:=by simp[Aj,hu] at ha;exact ha
      subst this
      obtain⟨hlX,rfl⟩:=hV1 rfl
      obtain⟨hlY,rfl⟩:=hW1 rfl
      split at h
      · simp at h
      · rename_i hst
        have hfo:P.fieldsOf t=fields:=by simp[Program.fieldsOf,hu]
        rw[run_equalIn_struct w (d+D) t _ _ (by rw[hfo];exact hu) (by simpa using hst),hfo]
        rw[hs] at h
        clear hst hfo hu
        generalize fields.toList=fs at h
        induction fs generalizing l b with
        | nil =>
          simp[AM.leafFields] at h;subst h
          simp[BF] at hb;subst hb
          simp[Op.eqFields]
        | cons f fs ihf =>
          simp only[AM.leafFields] at h
          cases h1:AM P d f.type (off+f.offset) with
          | none=>simp[h1] at h
          | some l1 =>
            cases h2:AM.leafFields (AM P d) (Q0 P) (some n) off fs with
            | none=>simp[h1,h2] at h
            | some l2 =>
              cases h3:Q0 P f.type with
              | none=>simp[h1,h2,h3] at h
              | some s =>
                simp only[h1,h2,h3] at h
                split at h
                · simp at h
                · rename_i hc
                  simp only[not_or,Nat.not_lt] at hc
                  obtain⟨hname,hle,hs0⟩:=hc
                  simp at h;subst h
                  obtain⟨b1,b2,e1,e2,rfl⟩:=Wq hb
                  obtain⟨u,hu⟩:=Z33 h1
                  obtain⟨ag,hag⟩:=WZ hu
                  obtain⟨V1,r1,s1⟩:=KJ.part (P:=P) hlX rfl hag h3 hle (fun _=>by omega) w
                  obtain⟨W1,r2,s2⟩:=KJ.part (P:=P) hlY rfl hag h3 hle (fun _=>by omega) w
                  have r3:=ih f.type (off+f.offset) l1 h1 b1 e1 V1 W1 s1 s2 D
                  simp only[Op.eqFields,if_pos hname,Sem.run_bind,r1,r2,r3,Result.andThen_ok,Sem.run_ite]
                  cases b1 with
                  | false=>simp
                  | true=>simpa using ihf _ _ e2 h2
    · rename_i len elem hu
      have:ag=true:=by simp[Aj,hu] at ha;exact ha
      subst this
      obtain⟨hlX,rfl⟩:=hV1 rfl
      obtain⟨hlY,rfl⟩:=hW1 rfl
      cases hes:Q0 P elem with
      | none=>simp[hes] at h
      | some s =>
        have hinfo:∃ i,P.info? elem=some i/\i.size=s:=by
          unfold Q0 at hes
          cases hi:P.info? elem with
          | none=>simp[hi] at hes
          | some i=>simp[hi] at hes;exact⟨i,rfl,hes⟩
        obtain⟨i,hi,his⟩:=hinfo
        have hco:P.cellsOf elem=s:=by simp[Program.cellsOf,hi,his]
        rw[run_equalIn_array w (d+D) _ _ hu hi,hco]
        rw[hs,hes] at h
        simp only[Option.isNone,Bool.false_eq_true,if_false] at h
        generalize List.range len=is at h
        induction is generalizing l b with
        | nil =>
          simp[AM.leafItems] at h;subst h
          simp[BF] at hb;subst hb
          simp[Op.eqItems]
        | cons j is ihf =>
          simp only[AM.leafItems] at h
          cases h1:AM P d elem (off+j*s) with
          | none=>simp[h1] at h
          | some l1 =>
            cases h2:AM.leafItems (AM P d) (some s) (some n) elem off is with
            | none=>simp[h1,h2] at h
            | some l2 =>
              simp only[h1,h2] at h
              split at h
              · simp at h
              · rename_i hc
                simp only[not_or,Nat.not_lt] at hc
                obtain⟨hle,hs0⟩:=hc
                simp at h;subst h
                obtain⟨b1,b2,e1,e2,rfl⟩:=Wq hb
                obtain⟨u,hu'⟩:=Z33 h1
                obtain⟨ag,hag⟩:=WZ hu'
                obtain⟨V1,r1,s1⟩:=KJ.part (P:=P) hlX rfl hag hes hle (fun _=>by omega) w
                obtain⟨W1,r2,s2⟩:=KJ.part (P:=P) hlY rfl hag hes hle (fun _=>by omega) w
                have r3:=ih elem (off+j*s) l1 h1 b1 e1 V1 W1 s1 s2 D
                simp only[Op.eqItems,Sem.run_bind,r1,r2,r3,Result.andThen_ok,Sem.run_ite]
                cases b1 with
                | false=>simp
                | true=>simpa using ihf _ _ e2 h2
    · simp at h
theorem Zgr {P:Program}{op:BinOp}{t:TypeId}{x y:Operand}{X Y:Array Value}(h:P.eqGuardType P.depth t=false)(w:World):(eqGuard op t x y (.agg X) (.agg Y)).run P w=.ok () w:=by
  unfold eqGuard
  cases op<;>simp[h]
theorem Z7k {c:Cx}{x:AV}{X:Value}{cs:List AV}(h:VR c x X)(e:KG x=some cs):∃ Xs:Array Value,X=.agg Xs/\VRs c cs Xs.toList:=by
  unfold KG at e
  split at e
  · simp at e;subst e;exact h.agg_inv
  · simp at e; subst e
    obtain⟨Xs,hX,hd⟩:=h.dagg_inv
    exact⟨Xs,hX,VRs.ofD hd⟩
  · simp at e
theorem NU {P:Program}{op:BinOp}{t:TypeId}{X Y:Value}{b:Bool}(ho:op=.eql∨op=.neq)(hX:∀ k n,X≠ .int k n)(hX2:∀ s,X≠ .string s)(hX3:∀ k n,X≠ .float k n)(hX4:∀ k a b,X≠ .complex k a b)
    {w:World} (h:(Op.equal t X Y).run P w=.ok b w):(binOp op t X Y).run P w=.ok (.bool (if op==.neq then !b else b)) w:=by
  rcases ho with rfl | rfl
  · cases X<;>first | exact absurd rfl (hX _ _) | exact absurd rfl (hX2 _) | exact absurd rfl (hX3 _ _) | exact absurd rfl (hX4 _ _ _) | simp[binOp,h]
  · cases X<;>first | exact absurd rfl (hX _ _) | exact absurd rfl (hX2 _) | exact absurd rfl (hX3 _ _) | exact absurd rfl (hX4 _ _ _) | simp[binOp,h]
theorem Zcj {P:Program}{op:BinOp}{t u:TypeId}{y1 y2:Operand}{x1 x2:Opd}{sh:Sh}(h1:Zx y1=some x1)(h2:Zx y2=some x2)(hs:RB P t=some sh)(hop:op=.eql∨op=.neq):
    Jw P (.binOp op t y1 y2 u) (GR (op==.neq) sh x1 (FP sh x2)):=by
  intro c tm a E call A nb d o ho ht hd
  simp only[GR] at hd
  have hV:=VR.look ht h1
  have hW:=VR.lookN ht h2 sh
  cases he:F3 sh (look tm x1) (look tm (FP sh x2)) with
  | none=>simp[he,K9] at hd
  | some b =>
    simp only[he,K9,Option.some.injEq] at hd
    refine⟨_,.bool (if op==.neq then !b else b),hd.symm,?_,by cases hq:(op==BinOp.neq)<;>exact VR.vv rfl⟩
    simp only[execOp,ho]
    apply QD
    rw[Sem.run_bind]
    suffices hh:(eqGuard op t y1 y2 (a.eval y1) (a.eval y2)).run P c.w=.ok () c.w/\(binOp op t (a.eval y1) (a.eval y2)).run P c.w=.ok (.bool (if op==.neq then !b else b)) c.w by
      rw[hh.1];exact hh.2
    have e9:Op.maxDepth=9994+6:=rfl
    unfold RB at hs
    split at hs
    · rename_i hu
      simp at hs;subst hs
      simp only[F3] at he
      unfold C9 at he
      split at he<;>first | (rename_i e _ _;simp at e;done) | skip
      · rename_i e1 e2
        simp at he;subst he
        rw[e1] at hV;rw[e2] at hW
        rw[hV.bool_inv,hW.bool_inv]
        refine⟨NK (.inl (by simp)) (.inl (by simp)) _,NU hop (by simp) (by simp) (by simp) (by simp) ?_⟩
        exact run_equalIn_bool' c.w 9999 t _ _ hu
      · simp at he
    · rename_i ms hu
      simp at hs;subst hs
      simp only[F3] at he
      have fin:∀(X Y:Value),((X=.nilIface/\∃ t v,Y=.iface t v)∨(Y=.nilIface/\∃ t v,X=.iface t v))->a.eval y1=X->a.eval y2=Y->b=false->
          (eqGuard op t y1 y2 (a.eval y1) (a.eval y2)).run P c.w=.ok () c.w/\(binOp op t (a.eval y1) (a.eval y2)).run P c.w=.ok (.bool (if op==.neq then !b else b)) c.w:=by
        intro X Y hc hX hY hb
        subst hb
        rw[hX,hY]
        rcases hc with⟨rfl,t',v',rfl⟩ | ⟨rfl,t',v',rfl⟩
        · refine ⟨NK (.inr (by simp)) (.inl (by simp)) _, NU hop (by simp) (by simp) (by simp) (by simp) ?_⟩
          exact Zgp hu 9999 _
        · refine ⟨NK (.inl (by simp)) (.inl (by simp)) _, NU hop (by simp) (by simp) (by simp) (by simp) ?_⟩
          exact Zgq hu 9999 _
      split at he
      · rename_i e1 e2
        rw[e1] at hV;rw[e2] at hW
        simp at he;subst he
        obtain⟨Z,hZ,_⟩:=hW.ifc_inv;exact fin _ _ (.inl ⟨rfl,_,_,rfl⟩) hV.v_inv hZ rfl
      · rename_i e1 e2
        rw[e1] at hV;rw[e2] at hW
        simp at he;subst he
        obtain⟨Z,hZ,_⟩:=hV.ifc_inv;exact fin _ _ (.inr ⟨rfl,_,_,rfl⟩) hZ hW.v_inv rfl
      · rename_i e1 e2
        rw[e1] at hV;rw[e2] at hW
        simp at he;subst he
        obtain⟨Z,hZ,_⟩:=hW.difc_inv;exact fin _ _ (.inl ⟨rfl,_,_,rfl⟩) hV.v_inv hZ rfl
      · rename_i e1 e2
        rw[e1] at hV;rw[e2] at hW
        simp at he;subst he
        obtain⟨Z,hZ,_⟩:=hV.difc_inv;exact fin _ _ (.inr ⟨rfl,_,_,rfl⟩) hZ hW.v_inv rfl
      · simp at he
    · rename_i e hu
      simp at hs;subst hs
      simp only[F3] at he
      have fin:∀(a1 a2:Option Addr) (l1 c1 l2 c2:Nat),a.eval y1=.slice a1 l1 c1->a.eval y2=.slice a2 l2 c2->a2=none->b=a1.isNone->
          (eqGuard op t y1 y2 (a.eval y1) (a.eval y2)).run P c.w=.ok () c.w/\(binOp op t (a.eval y1) (a.eval y2)).run P c.w=.ok (.bool (if op==.neq then !b else b)) c.w:=by
        intro a1 a2 l1 c1 l2 c2 hX hY h2 hb
        subst h2 hb
        rw[hX,hY]
        refine⟨NK (.inl (by simp)) (.inl (by simp)) _,NU hop (by simp) (by simp) (by simp) (by simp) ?_⟩
        exact Zgo hu 9999 _
      split at he
      · rename_i e1 e2
        rw[e1] at hV;rw[e2] at hW
        simp at he;subst he
        exact fin _ _ _ _ _ _ hV.v_inv hW.v_inv rfl rfl
      · rename_i e1 e2
        rw[e1] at hV;rw[e2] at hW
        simp at he;subst he
        cases hX:a.eval y1 with
        | slice a1 l1 c1 =>
          rw[hX] at hV
          have:a1.isNone=false:=by cases hV<;>rfl
          rw[<-hX]
          exact fin _ _ _ _ _ _ hX hW.v_inv rfl this.symm
        | _=>rw[hX] at hV;cases hV
      · rename_i n0 _ e1 e2
        rw[e1] at hV;rw[e2] at hW
        split at he
        · simp at he
        rename_i hn0
        simp at he;subst he
        obtain⟨a1,l1,cap,hX⟩:=hV.lst_some hn0
        exact fin _ _ _ _ _ _ hX hW.v_inv rfl rfl
      · rename_i e1 e2
        rw[e1] at hV;rw[e2] at hW
        simp at he;subst he
        obtain⟨a1,cap,hX⟩:=hV.nel_inv
        exact fin _ _ _ _ _ _ hX hW.v_inv rfl rfl
      · simp at he
    all_goals first
      | (simp at hs;done)
      | (rename_i hu
         split at hs
         · simp at hs
         · rename_i hg
           split at hs
           · rename_i n hn
             cases hl:AM P 6 t 0 with
             | none=>simp[hl] at hs
             | some l =>
               simp[hl] at hs;subst hs
               simp only[F3] at he
               obtain⟨ag,hag⟩:=WZ hu
               have hag':ag=true:=by simp[Aj,hu] at hag;exact hag
               subst hag'
               unfold TG at he
               split at he
               · rename_i xs ys ex ey
                 split at he
                 · rename_i hlen
                   obtain⟨X,hX,hV'⟩:=Z7k hV ex
                   obtain⟨Y,hY,hW'⟩:=Z7k hW ey
                   have l1:=hV'.length
                   have l2:=hW'.length
                   rw[hX,hY]
                   refine⟨Zgr (by simpa using hg) _,NU hop (by simp) (by simp) (by simp) (by simp) ?_⟩
                   unfold Op.equal
                   rw[e9,Nat.add_comm]
                   refine Zf3 hV' hW' c.w 6 t 0 l hl b he _ _ ⟨true,n,hag,hn,fun _=>⟨by omega,?_⟩,by simp⟩ ⟨true,n,hag,hn,fun _=>⟨by omega,?_⟩,by simp⟩ 9994
                   · rw[List.drop_zero,List.take_of_length_le (by omega)]
                   · rw[List.drop_zero,List.take_of_length_le (by omega)]
                 · simp at he
               · simp at he
           · simp at hs)
theorem Zcl {P:Program}{op:BinOp}{t u:TypeId}{y1 y2:Operand}{f:Zw}(h:ZN P (.binOp op t y1 y2 u)=some f):Jw P (.binOp op t y1 y2 u) f∨∃ x1 x2 e,Zx y1=some x1/\Zx y2=some x2/\f=GQ (op==.neq) x1 x2/\P.underlying t=some (.pointer e)/\(P.info? e).isSome=true/\(op=.eql∨op=.neq):=by
  simp only[ZN] at h
  split at h
  · rename_i x1 x2 h1 h2
    have viaBin:f=oB op x1 x2->Jw P (.binOp op t y1 y2 u) f:=by
      rintro rfl
      intro c tm a E call A nb d o ho ht hd
      obtain⟨y',hy,rfl⟩:=one?_inv hd
      have hX:=VR.look ht h1
      have hY:=VR.look ht h2
      unfold YF at hy
      have fin:∀(X Y r:Value),a.eval y1=X->a.eval y2=Y->(X≠ .nilIface)->(∀ cs,X≠ .agg cs)->(binOp op t X Y).run P c.w=.ok r c.w->r.oneCell'=true->y'=.d (.v r)->
          ∃ x X,Done.made y' []=.made x []/\(execOp a.eval o).run P c.w=.ok (.value X) c.w/\VR c x X:=by
        intro X Y r e1 e2 n1 n2 hr ho1 hy'
        subst hy'
        refine⟨_,r,rfl,?_,VR.vv ho1⟩
        simp only[execOp,ho]
        apply QD
        rw[Sem.run_bind,e1,e2,NK (.inl n1) (.inl n2)]
        exact hr
      split at hy
      · rename_i k m k' n e1 e2
        rw[e1] at hX;rw[e2] at hY
        split at hy
        · cases hr : G6 true k m n with
          | none=>simp[hr] at hy
          | some r=>simp[hr] at hy;exact fin _ _ r hX.v_inv hY.v_inv (by simp) (by simp) (TE hr _).1 (TE (P:=P) (t:=t) (yk:=k') hr c.w).2 hy.symm
        · cases hr : G6 false k m n with
          | none=>simp[hr] at hy
          | some r=>simp[hr] at hy;exact fin _ _ r hX.v_inv hY.v_inv (by simp) (by simp) (TE hr _).1 (TE (P:=P) (t:=t) (yk:=k') hr c.w).2 hy.symm
        · split at hy
          · rename_i hk
            subst hk
            cases hr:E8 op k m n with
            | none=>simp[hr] at hy
            | some r=>simp[hr] at hy;exact fin _ _ r hX.v_inv hY.v_inv (by simp) (by simp) (Zgh hr _) (Zgi hr) hy.symm
          · simp at hy
      · rename_i s1 s2 e1 e2
        rw[e1] at hX;rw[e2] at hY
        cases hr:K8 op s1 s2 with
        | none=>simp[hr] at hy
        | some r=>simp[hr] at hy;exact fin _ _ r hX.v_inv hY.v_inv (by simp) (by simp) (Z5g hr _).1 (Z5g (P:=P) (t:=t) hr c.w).2 hy.symm
      · simp at hy
    unfold WY at h
    have viaEq:op=.eql∨op=.neq->(match P.underlying t with | some (.int _) | some .string=>some (oB op x1 x2) | some (.pointer e)=>if(P.info? e).isSome then some (GQ (op==.neq) x1 x2) else none | _=>(RB P t).map fun sh=>GR (op==.neq) sh x1 (FP sh x2))=some f->
        Jw P (.binOp op t y1 y2 u) f∨∃ x1 x2 e,Zx y1=some x1/\Zx y2=some x2/\f=GQ (op==.neq) x1 x2/\P.underlying t=some (.pointer e)/\(P.info? e).isSome=true/\(op=.eql∨op=.neq):=by
      intro hop h
      split at h
      · simp at h;exact .inl (viaBin h.symm)
      · simp at h;exact .inl (viaBin h.symm)
      · rename_i e hu
        split at h
        · rename_i hi
          simp at h
          exact .inr ⟨x1,x2,e,h1,h2,h.symm,hu,hi,hop⟩
        · simp at h
      · cases hs : RB P t with
        | none=>simp[hs] at h
        | some sh=>simp[hs] at h;subst h;exact .inl (Zcj h1 h2 hs hop)
    split at h
    · exact viaEq (.inl rfl) h
    · exact viaEq (.inr rfl) h
    · simp at h;exact .inl (viaBin h.symm)
  · simp at h
theorem SM {P:Program}{s t:TypeId}{y:Operand}{f:Zw}(h:ZN P (.convert s t y)=some f):Jw P (.convert s t y) f∨∃ x r e,Zx y=some x/\f=EV r x/\P.underlying s=some (.slice e)/\P.underlying t=some .string/\
    P.underlying e=some (.int (if r then .i32 else .u8)):=by
  simp only[ZN] at h
  have one:∀(x:Opd),Zx y=some x->(∃ k,f=D2 k x/\(∃ k',P.underlying s=some (.int k'))/\P.underlying t=some (.int k))∨(f=PT x/\((∃ k',P.underlying s=some (.int k'))∨P.underlying s=some .string)/\P.underlying t=some .string)->
      Jw P (.convert s t y) f:=by
    intro x hx hc c tm a E call A nb d o ho ht hd
    have hX:=VR.look ht hx
    rcases hc with⟨k,rfl,⟨k',hs⟩,hu⟩ | ⟨rfl,hs,hu⟩
    · simp only [D2] at hd
      unfold TN at hd
      split at hd
      · rename_i kk n e
        rw[e] at hX
        simp at hd
        refine⟨_,_,hd.symm,?_,VR.vv rfl⟩
        simp only[execOp,ho]
        apply QD
        simp[Go.convert,run_underlying hs,run_underlying hu,hX.int_inv,Conv.intToInt]
      · simp at hd
    · simp only [PT] at hd
      unfold Z6a at hd
      split at hd
      · rename_i kk n e
        rw[e] at hX
        simp at hd
        refine⟨_,_,hd.symm,?_,VR.vv rfl⟩
        simp only[execOp,ho]
        apply QD
        rcases hs with⟨k',hs⟩ | hs<;>simp[Go.convert,run_underlying hs,run_underlying hu,hX.int_inv,Conv.intToString]
      · rename_i ss e
        rw[e] at hX
        simp at hd
        refine⟨_,_,hd.symm,?_,VR.vv rfl⟩
        simp only[execOp,ho]
        apply QD
        rcases hs with⟨k',hs⟩ | hs<;>simp[Go.convert,run_underlying hs,run_underlying hu,hX.str_inv]
      · simp at hd
  split at h
  · rename_i k' k x hs hu hx
    simp at h
    exact .inl (one x hx (.inl ⟨k,h.symm,⟨k',hs⟩,hu⟩))
  · rename_i k' x hs hu hx
    simp at h
    exact .inl (one x hx (.inr ⟨h.symm,.inl ⟨k',hs⟩,hu⟩))
  · rename_i x hs hu hx
    simp at h
    exact .inl (one x hx (.inr ⟨h.symm,.inr hs,hu⟩))
  · rename_i e x hs hu hx
    split at h
    · rename_i he
      simp at h
      exact .inr ⟨x,false,e,hx,h.symm,hs,hu,by simpa using he⟩
    · rename_i he
      simp at h
      exact .inr ⟨x,true,e,hx,h.symm,hs,hu,by simpa using he⟩
    · simp at h
  · simp at h
theorem Zca {P:Program}{y:Operand}{f:Zw}(h:ZN P (.nilCheck y)=some f):Jw P (.nilCheck y) f:=by
  intro c tm a E call A nb d o ho ht hd
  simp only[ZN] at h
  cases hx:Zx y with
  | none=>simp[hx] at h
  | some x =>
    simp[hx] at h;subst h
    obtain⟨y',hy,rfl⟩:=one?_inv hd
    have hX:=VR.look ht hx
    have fin:∀ X,a.eval y=X->(∃ p,X=.pointer (some p))∨(∃ g a b,X=.func (.func g) a b)->VR c y' X->∃ x X,Done.made y' []=.made x []/\(execOp a.eval o).run P c.w=.ok (.value X) c.w/\VR c x X:=by
      intro X e hc hv
      refine⟨_,X,rfl,?_,hv⟩
      simp only[execOp,ho,e]
      rcases hc with⟨p,rfl⟩ | ⟨g,a,b,rfl⟩<;>rfl
    unfold R6 at hy
    split at hy
    · rename_i e
      simp at hy;subst hy
      rw[e] at hX
      refine fin _ rfl (.inl ?_) hX
      cases hq:a.eval y with
      | pointer p => cases p with
        | some p=>exact⟨p,rfl⟩
        | none=>rw[hq] at hX;cases hX
      | _=>rw[hq] at hX;cases hX
    · rename_i e
      simp at hy;subst hy
      rw[e] at hX
      obtain⟨b,of,e2,_⟩:=hX.vptr_inv
      exact fin _ rfl (.inl ⟨_,e2⟩) hX
    · rename_i e
      simp at hy;subst hy
      rw[e] at hX
      refine fin _ rfl (.inr ?_) hX
      cases hq:a.eval y with
      | func g b c=>rw[hq] at hX;cases hX;exact⟨_,_,_,rfl⟩
      | _=>rw[hq] at hX;cases hX
    · rename_i e
      simp at hy;subst hy
      rw[e] at hX
      refine fin _ rfl (.inr ?_) hX
      cases hq:a.eval y with
      | func g b c=>rw[hq] at hX;cases hX with | d hX=>cases hX;exact⟨_,_,_,rfl⟩
      | _=>rw[hq] at hX;cases hX with | d hX=>cases hX
    · simp at hy
theorem Zcc {P:Program}{t:TypeId}{y:Operand}{f:Zw}(h:ZN P (.makeInterface t y)=some f):Jw P (.makeInterface t y) f:=by
  intro c tm a E call A nb d o ho ht hd
  simp only[ZN] at h
  split at h
  · simp at h
  · rename_i u x hn hu hx
    simp at h;subst h
    simp only[Nq,Option.some.injEq] at hd
    refine⟨_,_,hd.symm,?_,.ifc (VR.look ht hx)⟩
    simp only[execOp,ho]
    apply QD
    simp only[Instr.makeInterface,Sem.run_bind,run_underlying hu,Result.andThen_ok]
    simp
  · simp at h
theorem Zcd {P:Program}{g:Fn}{first cap:Array Operand}{f:Zw}(h:ZN P (.makeFunc g first cap)=some f):Jw P (.makeFunc g first cap) f:=by
  intro c tm a E call A nb d o ho ht hd
  simp only[ZN] at h
  split at h
  · rename_i h0
    cases hc:Qx cap.toList with
    | none=>simp[hc] at h
    | some xs =>
      simp[hc] at h;subst h
      simp only[PS,Option.some.injEq] at hd
      have hv:=VR.looks ht hc
      have hf:first= #[]:=Array.eq_empty_of_size_eq_zero h0
      refine⟨_,.func g #[] (cap.map a.eval),hd.symm,?_,.fn (by simpa using hv)⟩
      simp only[execOp,ho]
      apply QD
      simp[Instr.makeFunc,hf]
  · simp at h
theorem Zc8 {P:Program}{y:Operand}{u t:TypeId}{ok:Bool}{f:Zw}(h:ZN P (.typeAssert y u t ok)=some f):Jw P (.typeAssert y u t ok) f:=by
  intro c tm a E call A nb d o ho ht hd
  simp only[ZN] at h
  split at h
  · simp at h
  · rename_i ud x z hn hu hx hz
    split at h
    · rename_i hok
      simp at h;subst h
      obtain⟨y',hy,rfl⟩:=one?_inv hd
      have hX:=VR.look ht hx
      have hzr:(zeroValue t).run P c.w=.ok z c.w:=by
        cases hi:P.info? t with
        | none=>simp[hi] at hz
        | some i=>simp[hi] at hz;simp[zeroValue,typeInfo,hi,hz]
      have good:∀(v':TypeId) (Y:Value) (yy:AV),a.eval y=.iface v' Y->VR c yy Y->(if v'=t then(if ok then some (AV.tup [yy,ZZ true]) else some yy) else if ok then some (.d (.tup [ofV z,.v (.bool false)])) else none)=some y'->
          ∃ x X,Done.made y' []=.made x []/\(execOp a.eval o).run P c.w=.ok (.value X) c.w/\VR c x X:=by
        intro v' Y yy e hv hq
        by_cases ht':v'=t
        · rw [if_pos ht'] at hq
          subst ht'
          cases ok with
          | true =>
            simp at hq;subst hq
            refine⟨_,.tuple #[Y,.bool true],rfl,?_,.tup (.cons hv (.cons (VR.vv rfl) .nil))⟩
            simp only[execOp,ho]
            apply QD
            rw[e]
            simp only[Instr.typeAssert,Sem.run_bind,run_underlying hu,Result.andThen_ok]
            simp
          | false =>
            simp at hq;subst hq
            refine⟨_,Y,rfl,?_,hv⟩
            simp only[execOp,ho]
            apply QD
            rw[e]
            simp only[Instr.typeAssert,Sem.run_bind,run_underlying hu,Result.andThen_ok]
            simp
        · rw [if_neg ht'] at hq
          cases ok with
          | true =>
            simp at hq;subst hq
            refine⟨_,.tuple #[z,.bool false],rfl,?_,.d (.tup (.cons (DR.ofV hok) (.cons (.v _ rfl) .nil)))⟩
            simp only[execOp,ho]
            apply QD
            rw[e]
            simp only[Instr.typeAssert,Sem.run_bind,run_underlying hu,Result.andThen_ok]
            simp[ht',hzr]
          | false=>simp at hq
      unfold Z5n at hy
      split at hy
      · rename_i v' yy e
        rw[e] at hX
        obtain⟨Y,hY,hv⟩:=hX.ifc_inv
        exact good _ _ _ hY hv hy
      · rename_i v' yy e
        rw[e] at hX
        obtain⟨Y,hY,hv⟩:=hX.difc_inv
        exact good _ _ _ hY (.d hv) hy
      · rename_i e
        rw[e] at hX
        cases ok with
        | true =>
          simp at hy;subst hy
          refine⟨_,.tuple #[z,.bool false],rfl,?_,.d (.tup (.cons (DR.ofV hok) (.cons (.v _ rfl) .nil)))⟩
          simp only[execOp,ho]
          apply QD
          rw[hX.v_inv]
          simp only[Instr.typeAssert,Sem.run_bind,run_underlying hu,Result.andThen_ok]
          simp[hzr]
        | false=>simp at hy
      · simp at hy
    · simp at h
  · simp at h
theorem X3 {c:Cx}{tm:List AV}{a:Act}(ht:TR c tm a){o:Option Operand}{x:Option Opd}(hx:AQ o=some x){len dflt n:Nat}(h:CP len tm x dflt=some n):
    (o=none/\x=none/\n=dflt)∨∃ o' k i,o=some o'/\x.isSome=true/\a.eval o'=.int k i/\0<=i/\i<=len/\n=i.toNat:=by
  cases o with
  | none =>
    simp[AQ] at hx;subst hx
    simp[CP] at h
    exact .inl ⟨rfl,rfl,h.symm⟩
  | some o =>
    simp only[AQ] at hx
    cases hy:Zx o with
    | none=>simp[hy] at hx
    | some y =>
      simp[hy] at hx;subst hx
      have hv:=VR.look ht hy
      simp only[CP] at h
      split at h
      · rename_i k i e
        rw[e] at hv
        split at h
        · rename_i hc
          simp at h
          exact .inr ⟨o,k,i,rfl,rfl,hv.v_inv,hc.1,hc.2,h.symm⟩
        · simp at h
      · simp at h
theorem H6 {P:Program}{c:Cx}{tm:List AV}{a:Act}(ht:TR c tm a){lo hi mx:Option Operand}{lo' hi' mx':Option Opd}(h1:AQ lo=some lo')(h2:AQ hi=some hi')(h3:AQ mx=some mx'){isS:Bool}{len cap l h m:Nat}
    (hb:JX len tm lo' hi' mx'=some (l,h,m)) (hc:len<=cap) (w:World):
    (Instr.sliceBounds isS len cap (lo.map a.eval) (hi.map a.eval) (mx.map a.eval)).run P w=.ok (l,h,if mx'.isSome then m else cap) w/\l<=h/\h<=m/\m<=len:=by
  unfold JX at hb
  split at hb
  · rename_i m' h' l' em eh el
    split at hb
    · rename_i hcond
      obtain⟨hlh,hhm,himp⟩:=hcond
      simp at hb
      obtain⟨rfl,rfl,rfl⟩:=hb
      have hm:=X3 ht h3 em
      have hh:=X3 ht h2 eh
      have hl:=X3 ht h1 el
      have hmlen:m'<=len:=by
        rcases hm with⟨_,_,rfl⟩ | ⟨_,_,i,_,_,_,_,_,rfl⟩<;>omega
      refine⟨?_,hlh,hhm,hmlen⟩
      have key:∀(k:IntKind) (i:Int) (y:Nat) (code:BoundsCode),0<=i->i<=y->(Instr.sliceBound (.int k i) y code).run P w=.ok i.toNat w:=fun k i y code h0 h1=>run_sliceBound w k i y code h0 h1
      rcases hm with⟨rfl,rfl,rfl⟩ | ⟨om,km,im,rfl,hms,emx,hm0,hm1,rfl⟩
      · rcases hh with ⟨rfl, _, rfl⟩ | ⟨oh, kh, ih, rfl, _, ehx, hh0, hh1, rfl⟩
        · rcases hl with ⟨rfl, _, rfl⟩ | ⟨ol, kl, il, rfl, _, elx, hl0, hl1, rfl⟩
          · simp[Instr.sliceBounds]
          · simp[Instr.sliceBounds,elx,key kl il _ _ hl0 (show il<=((h':Nat):Int) by omega)]
        · rcases hl with ⟨rfl, _, rfl⟩ | ⟨ol, kl, il, rfl, _, elx, hl0, hl1, rfl⟩
          · simp[Instr.sliceBounds,ehx,key kh ih cap _ hh0 (by omega)]
          · simp[Instr.sliceBounds,ehx,elx,key kh ih cap _ hh0 (by omega),key kl il ih.toNat _ hl0 (by omega)]
      · rcases hh with ⟨rfl, rfl, rfl⟩ | ⟨oh, kh, ih, rfl, _, ehx, hh0, hh1, rfl⟩
        · exact absurd (himp hms) (by simp)
        · rcases hl with ⟨rfl, _, rfl⟩ | ⟨ol, kl, il, rfl, _, elx, hl0, hl1, rfl⟩
          · simp[Instr.sliceBounds,ehx,emx,hms,key km im cap _ hm0 (by omega),key kh ih im.toNat _ hh0 (by omega)]
          · simp[Instr.sliceBounds,ehx,emx,elx,hms,key km im cap _ hm0 (by omega),key kh ih im.toNat _ hh0 (by omega),key kl il ih.toNat _ hl0 (by omega)]
    · simp at hb
  · simp at hb
theorem Zfh {o:Option Operand}{x:Option Opd}(h:AQ o=some x):o.isSome=x.isSome:=by
  cases o with
  | none=>simp[AQ] at h;subst h;rfl
  | some o =>
    simp only[AQ] at h
    cases hy:Zx o with
    | none=>simp[hy] at h
    | some y=>simp[hy] at h;subst h;rfl
theorem SJ {P:Program}{t:TypeId}{y:Operand}{lo hi mx:Option Operand}{f:Zw}(hna:∀ n e,P.underlying t≠some (.array n e))(h:ZN P (.slice t y lo hi mx)=some f):Jw P (.slice t y lo hi mx) f:=by
  intro c tm a E call A nb d o ho ht hd
  simp only[ZN] at h
  split at h
  · rename_i e x lo' hi' mx' hu hx h1 h2 h3
    cases hs:Q0 P e with
    | none=>simp[hs] at h
    | some s =>
      simp[hs] at h;subst h
      obtain⟨y',hy,rfl⟩:=one?_inv hd
      have hX:=VR.look ht hx
      have runS:∀(ad:Option Addr) (len cap l h m:Nat),a.eval y=.slice ad len cap->len<=cap->JX len tm lo' hi' mx'=some (l,h,m)->
          (execOp a.eval o).run P c.w=.ok (.value (.slice (if(if mx'.isSome then m else cap)=l then ad else ad.map (·.add (l*s))) (h-l) ((if mx'.isSome then m else cap)-l))) c.w:=by
        intro ad len cap l h m e1 hc hb
        simp only[execOp,ho]
        apply QD
        rw[e1]
        simp only[Instr.sliceAt,Instr.slice,Sem.run_bind,run_underlying hu,Result.andThen_ok,(H6 (P:=P) ht h1 h2 h3 hb hc c.w).1,E3 hs,Sem.run_pure]
      unfold NG at hy
      split at hy
      · rename_i cs len k e1
        rw[e1] at hX
        rcases hX.lst_or with⟨rfl,rfl,hX0,hk0⟩ | ⟨a0,l0,cap0,hX0⟩
        · split at hy
          · rename_i l h m hb
            obtain⟨_,hlh,hhm,hml⟩:=H6 (P:=P) (isS:=true) ht h1 h2 h3 hb (Nat.le_refl 0) c.w
            have hr:=runS _ _ _ _ _ _ hX0 (Nat.le_refl 0) hb
            have:l=0:=by omega
            have h':h=0:=by omega
            have m':m=0:=by omega
            subst this h' m'
            simp at hy;subst hy
            refine⟨_,.slice none 0 0,rfl,?_,.d (.emp ?_)⟩
            · rw[hr];simp
            · intro n hn;split at hn<;>simp at hn;exact hn
          · simp at hy
        obtain⟨ad,cap,hX,hlc,hk,hm⟩:=hX.lst_inv
        have had:ad=some a0:=by rw[hX] at hX0;simp at hX0;exact hX0.1
        split at hy
        · rename_i l h m hb
          obtain⟨_,hlh,hhm,hml⟩:=H6 (P:=P) (isS:=true) ht h1 h2 h3 hb hlc c.w
          have hr:=runS _ _ _ _ _ _ hX hlc hb
          split at hy
          · rename_i hlh'
            simp at hy;subst hy;subst hlh'
            rw[Nat.sub_self] at hr
            obtain⟨a',ha'⟩:∃ a',(if(if mx'.isSome then m else cap)=l then ad else ad.map (·.add (l*s)))=some a':=by
              rw[had];exact⟨_,Z3e _ _ _⟩
            rw[ha'] at hr
            refine⟨_,_,rfl,hr,.d (.nil ?_)⟩
            intro n hn
            split at hn
            · rename_i hc
              simp at hn;subst hn
              rw[if_pos hc.1,hc.2];omega
            · simp at hn
          · rename_i hne
            split at hy
            · rename_i hhs
              simp at hy;subst hy
              rcases hm with⟨_,h0⟩ | ⟨b,of,rfl,hI,hm⟩
              · omega
              · refine ⟨_, _, rfl, hr, .d ?_⟩
                have hne2:¬(if mx'.isSome then m else cap)=l:=by split<;>omega
                rw[if_neg hne2]
                simp only[Option.map_some,Addr.add_mk]
                refine .lst hI (by split<;>omega) ?_ ((hm.drop _).take _)
                intro n hn
                unfold Kz at hn
                split at hn
                · rename_i hs1;simp at hn;rw[if_pos hs1];exact hn
                · rename_i hs1
                  rw[if_neg hs1]
                  cases hk':k with
                  | none=>simp[hk'] at hn
                  | some kk=>simp[hk'] at hn;have:=hk _ hk';omega
            · simp at hy
        · simp at hy
      · rename_i e1
        rw[e1] at hX
        cases hb:JX 0 tm lo' hi' mx' with
        | none=>simp[hb] at hy
        | some r =>
          obtain⟨l,h,m⟩:=r
          simp[hb] at hy;subst hy
          obtain⟨_,hlh,hhm,hml⟩:=H6 (P:=P) (isS:=true) ht h1 h2 h3 hb (Nat.le_refl 0) c.w
          have hr:=runS _ _ _ _ _ _ hX.v_inv (Nat.le_refl 0) hb
          have:l=0:=by omega
          have h':h=0:=by omega
          have m':m=0:=by omega
          subst this h' m'
          refine⟨_,.slice none 0 0,rfl,?_,VR.vv rfl⟩
          rw[hr]
          simp
      · rename_i i ver off len sz k e1
        rw[e1] at hX
        have hX0:=hX
        obtain⟨b,of,cap,hXe,hlc,hk⟩:∃ b of cap,a.eval y=.slice (some ⟨b,of,none⟩) len cap/\len<=cap/\(∀ n,k=some n->cap=n):=by
          cases hq:a.eval y with
          | slice ad ln cp =>
            rw[hq] at hX
            cases hX with
            | sref hp hv hl hk hs hn=>exact⟨_,_,_,rfl,hl,hk⟩
            | srefS hv hl hc hk=>exact⟨_,_,_,rfl,hc,hk⟩
          | _=>rw[hq] at hX;cases hX
        split at hy
        · rename_i l h m hb
          obtain⟨_,hlh,hhm,hml⟩:=H6 (P:=P) (isS:=true) ht h1 h2 h3 hb hlc c.w
          have hr:=runS _ _ _ _ _ _ hXe hlc hb
          split at hy
          · simp at hy
          · rename_i hssz
            have hssz:s=sz:=by simpa using hssz
            subst hssz
            split at hy
            · rename_i hlh'
              obtain⟨hlh',_⟩:=hlh'
              simp at hy;subst hy;subst hlh'
              rw[Nat.sub_self] at hr
              obtain⟨a',ha'⟩:∃ a',(if(if mx'.isSome then m else cap)=l then some ⟨b,of,none⟩ else(some (⟨b,of,none⟩:Addr)).map (·.add (l*s)))=some a':=by
                exact⟨_,Z3e _ _ _⟩
              rw[ha'] at hr
              refine⟨_,_,rfl,hr,.d (.nil ?_)⟩
              intro n hn
              split at hn
              · rename_i hc
                simp at hn;subst hn
                rw[if_pos hc.1,hc.2];omega
              · simp at hn
            · rename_i hne
              simp at hy;subst hy
              refine⟨_,_,rfl,hr,?_⟩
              have haddr:(if(if mx'.isSome then m else cap)=l then some (⟨b,of,none⟩:Addr) else(some (⟨b,of,none⟩:Addr)).map (·.add (l*s)))=some ⟨b,of+l*s,none⟩:=by
                by_cases hq:(if mx'.isSome then m else cap)=l
                · rw [if_pos hq]
                  have hlh2:l=h:=by
                    cases hs1:mx'.isSome<;>simp[hs1] at hq<;>omega
                  have:l=0:=by
                    rcases Nat.eq_zero_or_pos l with h0 | h0
                    · exact h0
                    · exact absurd ⟨hlh2,by omega⟩ hne
                  subst this;simp
                · rw[if_neg hq];simp[Addr.add_mk]
              rw[haddr]
              have hcap:∀ n,Kz mx' m l k=some n->(if mx'.isSome then m else cap)-l=n:=by
                intro n hn
                unfold Kz at hn
                split at hn
                · rename_i hs1;simp at hn;rw[if_pos hs1];exact hn
                · rename_i hs1
                  rw[if_neg hs1]
                  cases hk':k with
                  | none=>simp[hk'] at hn
                  | some kk=>simp[hk'] at hn;have:=hk _ hk';omega
              have hle:(if mx'.isSome then m else cap)<=cap:=by split<;>omega
              have hlm:l<=(if mx'.isSome then m else cap):=by split<;>omega
              rw[hXe] at hX0
              cases hX0 with
              | sref hp hv hl hk' hs' hn' =>
                refine .sref hp hv (by split<;>omega) hcap ?_ ?_
                · have e2:off+l*s+((if mx'.isSome then m else cap)-l)*s=off+(if mx'.isSome then m else cap)*s:=by
                    rw[Nat.add_assoc,<-Nat.add_mul];congr 2;omega
                  rw[e2]
                  have:=Nat.mul_le_mul_right s hle
                  omega
                · intro hn
                  unfold Kz at hn
                  split at hn
                  · simp at hn
                  · rename_i hs1
                    simp at hn
                    have e2:off+l*s+((if mx'.isSome then m else cap)-l)*s=off+(if mx'.isSome then m else cap)*s:=by
                      rw[Nat.add_assoc,<-Nat.add_mul];congr 2;omega
                    rw[e2,if_neg hs1]
                    exact hn' hn
              | srefS hv hl hc' hk'=>exact .srefS hv hl (by split<;>omega) hcap
        · simp at hy
      · simp at hy
  · rename_i x lo' hi' hu hx h1 h2 h3
    simp at h;subst h
    obtain⟨y',hy,rfl⟩:=one?_inv hd
    have hX:=VR.look ht hx
    unfold TD at hy
    split at hy
    · rename_i s e1
      rw[e1] at hX
      cases hb:JX s.size tm lo' hi' none with
      | none=>simp[hb] at hy
      | some r =>
        obtain⟨l,h,m⟩:=r
        simp[hb] at hy;subst hy
        have hmx:mx=none:=by
          have:=Zfh h3
          cases mx with
          | none=>rfl
          | some _=>simp at this
        subst hmx
        have hbo:=(H6 (P:=P) (isS:=false) (mx:=none) (mx':=none) ht h1 h2 (by simp[AQ]) hb (Nat.le_refl _) c.w).1
        simp only[Option.map_none] at hbo
        refine⟨_,_,rfl,?_,VR.vv rfl⟩
        simp only[execOp,ho]
        apply QD
        rw[hX.v_inv]
        simp only[Instr.sliceAt,Instr.slice,Sem.run_bind,run_underlying hu,Result.andThen_ok,Option.map_none,Option.isSome_none,Bool.false_eq_true,if_false,Sem.run_pure,hbo]
    · simp at hy
  · rename_i n e x lo' hi' mx' hu hx h1 h2 h3
    exact absurd hu (hna n e)
  · simp at h
theorem Z2h {P:Program}{c:Cx}{mx:Bool}{k:IntKind}(w:World):∀ {rest:List AV} {Xs:List Value} {x:Int} {y:AV},VRs c rest Xs->PW mx k x rest=some y->
    ∃ n,y=.d (.v (.int k n))/\(Xs.foldlM (if mx then Builtin.max2 else Builtin.min2) (.int k x)).run P w=.ok (.int k n) w
  | [], Xs, x, y, hv, h => by
    cases hv
    simp[PW] at h
    exact⟨x,h.symm,by simp⟩
  | z :: rest, Xs, x, y, hv, h => by
    cases hv with
    | cons hz hv =>
      unfold PW at h
      split at h
      · rename_i e;simp at e
      · rename_i k' n rest' e
        simp at e
        obtain⟨rfl,rfl⟩:=e
        obtain⟨m,hm,hr⟩:=Z2h w hv h
        refine⟨m,hm,?_⟩
        rw[hz.int_inv]
        simp only[List.foldlM_cons,Sem.run_bind]
        cases mx with
        | true=>simpa [Builtin.max2] using hr
        | false=>simpa [Builtin.min2] using hr
      · simp at h
theorem Ze5 {P:Program}{c:Cx}{mx:Bool}{xs:List AV}{Xs:List Value}{y:AV}(hv:VRs c xs Xs)(h:NH mx xs=some y):
    ∃ X X0 rest,VR c y X/\Xs=X0::rest/\(rest.foldlM (if mx then Builtin.max2 else Builtin.min2) X0).run P c.w=.ok X c.w:=by
  unfold NH at h
  split at h
  · cases hv with
    | cons hz hv =>
      obtain⟨m,hm,hr⟩:=Z2h (P:=P) c.w hv h
      subst hm
      exact⟨_,_,_,VR.vv rfl,rfl,by rw[hz.int_inv];exact hr⟩
  · simp at h
theorem SN {P:Program}{cl:Call}{f:Zw}(h:BZ P cl=some f)(hb:∃ b,cl.callee=.builtin b/\¬(b=.append∨b=.clear)):Jw P (.call cl) f:=by
  obtain⟨b,hcl,hna⟩:=hb
  intro c tm a E call A nb d o ho ht hd
  unfold BZ at h
  rw[hcl] at h
  simp only at h
  have run:∀(X:Value),((Go.builtin b cl.argTypes o.type (cl.args.map fun | .const _=>true | _=>false) (cl.args.map a.eval)).run P c.w=.ok (.value X) c.w)->(execOp a.eval o).run P c.w=.ok (.value X) c.w:=by
    intro X hr
    simp only[execOp,ho,resolve,hcl,pure_bind,invoke]
    exact hr
  have mm:∀(mx:Bool) (l:List Opd),Qx cl.args.toList=some l->D1 mx l E call tm A nb=some d->
      (∀ args,Go.builtin b cl.argTypes o.type (cl.args.map fun | .const _=>true | _=>false) args=(do pure (Next.value (<-(if mx then Builtin.max_ cl.argTypes o.type args else Builtin.min_ cl.argTypes o.type args))):Sem Next))->
      ∃ x X,d=.made x []/\(execOp a.eval o).run P c.w=.ok (.value X) c.w/\VR c x X:=by
    intro mx l hl hd hbu
    obtain⟨y',hy,rfl⟩:=one?_inv hd
    have hv:=VR.looks ht hl
    have hargs:cl.args.toList.map a.eval=(cl.args.map a.eval).toList:=by simp
    rw[hargs] at hv
    obtain⟨X,X0,rest,hX,hXs,hr⟩:=Ze5 (P:=P) hv hy
    refine⟨_,X,rfl,run _ ?_,hX⟩
    rw[hbu]
    apply QD
    cases mx with
    | true =>
      simp only[if_true,Builtin.max_,hXs]
      exact hr
    | false =>
      simp only[Bool.false_eq_true,if_false,Builtin.min_,hXs]
      exact hr
  split at h
  · rename_i x t l hargs htys
    obtain⟨y1,rest,ha⟩:∃ y1 rest,cl.args.toList=y1::rest:=by
      cases hq:cl.args.toList with
      | nil=>rw[hq] at hargs;simp[Qx] at hargs
      | cons y r=>exact⟨_,_,rfl⟩
    rw[ha] at hargs
    simp only[Qx] at hargs
    cases e1:Zx y1 with
    | none=>simp[e1] at hargs
    | some x1 =>
      cases e2:Qx rest with
      | none=>simp[e1,e2] at hargs
      | some xs =>
        simp[e1,e2] at hargs
        obtain⟨rfl,rfl⟩:=hargs
        have hX:=VR.look ht e1
        have hA0:(cl.args.map a.eval)[0]? =some (a.eval y1):=by
          have:cl.args[0]? =some y1:=by rw[<-Array.getElem?_toList,ha];rfl
          simp[this]
        have hT0:cl.argTypes[0]? =some t:=by rw[<-Array.getElem?_toList,htys];rfl
        have hlen:∀(X:Value) (n:Int),a.eval y1=X->((Builtin.len_ cl.argTypes o.type (cl.args.map a.eval)).run P c.w=.ok (.int .i64 n) c.w)->d=.made (aI n) []->
            ∃ x X,d=.made x []/\(execOp a.eval o).run P c.w=.ok (.value X) c.w/\VR c x X:=by
          intro X n _ hr hd
          refine⟨_,.int .i64 n,hd,run _ ?_,VR.vv rfl⟩
          simp only[Go.builtin]
          simp[hr]
        split at h
        · rename_i hu
          simp at h;subst h
          simp only[SU] at hd
          unfold T8 at hd
          split at hd
          · rename_i s e
            rw[e] at hX
            simp at hd
            refine hlen _ _ hX.v_inv ?_ hd.symm
            simp only[Builtin.len_,hA0,hT0,Sem.run_bind,run_underlying hu,Result.andThen_ok,hX.v_inv]
            rfl
          · simp at hd
        · rename_i e hu
          simp at h;subst h
          obtain⟨y',hy,rfl⟩:=one?_inv hd
          have fin:∀ ad len cap,a.eval y1=.slice ad len cap->y'=aI len->∃ x X,Done.made y' []=.made x []/\(execOp a.eval o).run P c.w=.ok (.value X) c.w/\VR c x X:=by
            intro ad len cap hX hy'
            subst hy'
            refine hlen _ _ hX ?_ rfl
            simp only[Builtin.len_,hA0,hT0,Sem.run_bind,run_underlying hu,Result.andThen_ok,hX]
            rfl
          unfold NJ at hy
          split at hy
          · rename_i cs len k e
            rw[e] at hX
            simp at hy
            obtain⟨ad,cap,hX,_⟩:=hX.lst_inv
            exact fin _ _ _ hX hy.symm
          · rename_i i ver off len sz k e
            rw[e] at hX
            simp at hy
            cases hq:a.eval y1 with
            | slice ad ln cp =>
              rw[hq] at hX
              cases hX with
              | sref hp hv hl hk hs hn=>exact fin _ _ _ hq hy.symm
              | srefS hv hl hc hk=>exact fin _ _ _ hq hy.symm
            | _=>rw[hq] at hX;cases hX
          · rename_i e
            rw[e] at hX
            simp at hy
            exact fin _ _ _ hX.v_inv hy.symm
          · rename_i e
            rw[e] at hX
            simp at hy
            obtain⟨a1,cap,hX⟩:=hX.nel_inv
            exact fin _ _ _ hX (by simpa using hy.symm)
          · simp at hy
        · rename_i n e hu
          simp at h;subst h
          simp only[V7,Option.some.injEq] at hd
          refine hlen _ _ rfl ?_ hd.symm
          simp only[Builtin.len_,hA0,hT0,Sem.run_bind,run_underlying hu,Result.andThen_ok]
          rfl
        · simp at h
  · rename_i l hargs
    simp at h;subst h
    exact mm false l hargs hd (fun _=>by simp[Go.builtin])
  · rename_i l hargs
    simp at h;subst h
    exact mm true l hargs hd (fun _=>by simp[Go.builtin])
  · exact absurd (.inl rfl) hna
  · exact absurd (.inr rfl) hna
  · simp at h
theorem U6 {fn:Func}(n:String)(e:Array Value->Sem Value)(hn:fn.name=n)(h1:Extern.allGenericRows.lookup n=none)(h2:Extern.allTypedRows.lookup n=none)(h3:Extern.allRows.lookup n=some e):Extern.find fn=some e:=by
  simp[Extern.find,hn,h1,h2,h3]
theorem Zc6 {P:Program}{c:Call}{f:Zw}(h:KP P c=some f):Jw P (.call c) f:=by
  intro cx tm a E call A nb d o ho ht hd
  unfold KP at h
  split at h
  · rename_i g hc
    split at h
    · rename_i k l hk hl
      simp at h;subst h
      obtain⟨x,hx,rfl⟩:=one?_inv hd
      have hv:=VR.looks ht hl
      unfold XC at hk
      split at hk
      · rename_i fn hfn
        split at hk
        · rename_i hb
          obtain⟨hb,hnx⟩:=hb
          have hnx':Extern.findNext fn=none:=by simpa using hnx
          have run : ∀ (e : Array Value -> Sem Value) (X : Value), (fn.name == "runtime.NumGoroutine") = false -> Extern.find fn = some e -> (e (c.args.map a.eval)).run P cx.w = .ok X cx.w -> (execOp a.eval o).run P cx.w = .ok (.value X) cx.w := by
            intro e X hne hf he
            simp only[execOp,ho,resolve,hc,Act.eval,Deferred.ofValue,pure_bind,invoke,Array.empty_append,Array.append_empty]
            rw[run_callFunc_extern hfn hne (by simpa using hb) hnx' hf,he]
            rfl
          have hv:VRs cx (l.map (look tm)) (c.args.map a.eval).toList:=by simpa using hv
          generalize c.args.map a.eval=As at hv run
          generalize l.map (look tm)=L at hx hv
          have one:∀ {y:AV},VRs cx [y] As.toList->∃ Y,As= #[Y]/\VR cx y Y:=by
            intro y h
            cases As with
            | mk As => cases h with
              | cons h hs=>cases hs;exact⟨_,rfl,h⟩
          have two:∀ {y z:AV},VRs cx [y,z] As.toList->∃ Y Z,As= #[Y,Z]/\VR cx y Y/\VR cx z Z:=by
            intro y z h
            cases As with
            | mk As => cases h with
              | cons h hs => cases hs with
                | cons h2 hs=>cases hs;exact⟨_,_,rfl,h,h2⟩
          split at hk
          · rename_i hn
            simp at hk;subst hk
            simp only[TB] at hx
            unfold Z5j at hx
            split at hx<;>simp at hx
            subst hx
            obtain⟨Y,rfl,hY⟩:=one hv
            exact⟨_,Y,rfl,run _ _ (by rw[hn];rfl) (U6 _ Extern.AbiNoEscape.same hn (by kernel_rfl) (by kernel_rfl) (by kernel_rfl)) rfl,hY⟩
          · split at hk
            · rename_i hn
              simp at hk;subst hk
              simp only[TB] at hx
              unfold Z5i at hx
              split at hx<;>simp at hx
              subst hx
              obtain⟨Y,Z,rfl,hY,hZ⟩:=two hv
              obtain rfl:=hY.v_inv
              obtain rfl:=hZ.v_inv
              rename_i s cc
              have rr:∀(X:Value),(match(List.range s.size).find? fun i=>s[i]! ==cc.toNat.toUInt8 with | some i=>Value.int .i64 (i:Int) | none=>.int .i64 (-1))=X->(Extern.BytealgIndexByte.indexByte #[.string s,.int .u8 cc]).run P cx.w=.ok X cx.w:=by
                rintro X rfl
                show Sem.run P (match(List.range s.size).find? fun i=>s[i]! ==cc.toNat.toUInt8 with | some i=>pure (goInt i) | none=>pure (goInt (-1))) cx.w=_
                cases (List.range s.size).find? fun i=>s[i]! ==cc.toNat.toUInt8<;>rfl
              have hfx:=U6 _ Extern.BytealgIndexByte.indexByte hn (by kernel_rfl) (by kernel_rfl) (by kernel_rfl)
              have hne : (fn.name == "runtime.NumGoroutine") = false := by rw [hn]; rfl
              cases hf:(List.range s.size).find? fun i=>s[i]! ==cc.toNat.toUInt8 with
              | some i=>exact⟨_,_,rfl,run _ _ hne hfx (rr _ (by rw[hf])),.d (.v _ rfl)⟩
              | none=>exact⟨_,_,rfl,run _ _ hne hfx (rr _ (by rw[hf])),.d (.v _ rfl)⟩
            · split at hk
              · rename_i hn
                simp at hk;subst hk
                simp only[TB] at hx
                unfold Z5k at hx
                split at hx<;>simp only[Option.some.injEq,reduceCtorEq] at hx
                subst hx
                obtain⟨Y,Z,rfl,hY,hZ⟩:=two hv
                obtain rfl:=hY.v_inv
                obtain rfl:=hZ.v_inv
                exact⟨_,.int .i64 _,rfl,run _ _ (by rw[hn];rfl) (U6 _ Extern.BytealgCount.count hn (by kernel_rfl) (by kernel_rfl) (by kernel_rfl)) (by rfl),.d (.v _ rfl)⟩
              · simp at hk
        · simp at hk
      · simp at hk
    · simp at h
  · simp at h
theorem SK {P:Program}{op:Op}{f:Zw}(h:ZN P op=some f):
    Jw P op f∨(∃ s t y,op=.convert s t y)∨(∃ t y lo hi mx,op=.slice t y lo hi mx)∨(∃ t y,op=.load t y)∨(∃ t y z,op=.store t y z)∨(∃ t,op=.alloc t)∨(∃ t y,op=.box t y)∨
      (∃ t n ps,op=.buildSlice t n ps)∨(∃ t l c,op=.makeSlice t l c)∨(∃ c,op=.call c/\KP P c=none)∨(∃ t y,op=.range t y)∨(∃ y s,op=.next y s)∨∃ b t y z u,op=.binOp b t y z u/\∃ x1 x2 e,Zx y=some x1/\Zx z=some x2/\f=GQ (b==.neq) x1 x2/\P.underlying t=some (.pointer e)/\(P.info? e).isSome=true/\(b=.eql∨b=.neq):=by
  cases op with
  | move x => cases hx : Zx x with
    | none=>simp[ZN,hx] at h
    | some y=>simp[ZN,hx] at h;subst h;exact .inl (Zcb hx)
  | assign x => cases hx : Zx x with
    | none=>simp[ZN,hx] at h
    | some y=>simp[ZN,hx] at h;subst h;exact .inl (Zcm hx)
  | pick x y z =>
    simp only[ZN] at h
    split at h
    · rename_i a b c h1 h2 h3
      simp at h;subst h
      exact .inl (Zc9 h1 h2 h3)
    · simp at h
  | build t ps=>exact .inl (Zck h)
  | fieldAddr t x i=>exact .inl (Zcg h)
  | field t x i=>exact .inl (Zch h)
  | indexAddr t x i=>exact .inl (Zce h)
  | index t x i=>exact .inl (Zcf h)
  | extract x i=>exact .inl (Zci h)
  | unOp op t x=>exact .inl (Zc7 h)
  | binOp op t x y u =>
    rcases Zcl h with hp | hp
    · exact .inl hp
    · exact .inr (.inr (.inr (.inr (.inr (.inr (.inr (.inr (.inr (.inr (.inr (.inr ⟨_,_,_,_,_,rfl,hp⟩)))))))))))
  | nilCheck x=>exact .inl (Zca h)
  | makeInterface t x=>exact .inl (Zcc h)
  | makeFunc f a b=>exact .inl (Zcd h)
  | typeAssert x t u ok=>exact .inl (Zc8 h)
  | convert s t x=>exact .inr (.inl ⟨_,_,_,rfl⟩)
  | slice t x lo hi mx=>exact .inr (.inr (.inl ⟨_,_,_,_,_,rfl⟩))
  | load t x=>exact .inr (.inr (.inr (.inl ⟨_,_,rfl⟩)))
  | store t x y=>exact .inr (.inr (.inr (.inr (.inl ⟨_,_,_,rfl⟩))))
  | alloc t=>exact .inr (.inr (.inr (.inr (.inr (.inl ⟨_,rfl⟩)))))
  | box t x=>exact .inr (.inr (.inr (.inr (.inr (.inr (.inl ⟨_,_,rfl⟩))))))
  | buildSlice t n ps=>exact .inr (.inr (.inr (.inr (.inr (.inr (.inr (.inl ⟨_,_,_,rfl⟩)))))))
  | makeSlice t l c=>exact .inr (.inr (.inr (.inr (.inr (.inr (.inr (.inr (.inl ⟨_,_,_,rfl⟩))))))))
  | call c =>
    cases hx:KP P c with
    | none=>exact .inr (.inr (.inr (.inr (.inr (.inr (.inr (.inr (.inr (.inl ⟨_,rfl,hx⟩)))))))))
    | some f' =>
      simp only[ZN,hx,Option.some.injEq] at h
      subst h
      exact .inl (Zc6 hx)
  | range t x=>exact .inr (.inr (.inr (.inr (.inr (.inr (.inr (.inr (.inr (.inr (.inl ⟨_,_,rfl⟩))))))))))
  | next x s=>exact .inr (.inr (.inr (.inr (.inr (.inr (.inr (.inr (.inr (.inr (.inr (.inl ⟨_,_,rfl⟩)))))))))))
  | _=>simp[ZN] at h
end Go.Aug
