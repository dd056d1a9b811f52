import Derived.Test.YthnhboimcidhgaaGreatDoorPrW
namespace Go.Proofs.YthnhboimcidhgaaGreatDoor
open Go Go.Aug Go.RowKit
def containsG:List DV->Option (AV×List Blk):=fun ds=>match ds with
 | [.v (.string s),.v (.string sub)]=>if s.size<4294967281 then some (.d (.v (.bool (Lib.contains s.data.toList sub.data.toList))),[]) else none
 | _=>none
theorem contains_prim:Go.Aug.Enters Tryz.prog 220/\∀ ds x Ac,containsG ds=some (x,Ac)->∀(I:Nat->Prop) (w:World) (args:Array Value),(∀ b,I b->b<w.heap.size)->Gl I w->DRs I w ds args.toList->Calls Tryz.prog 220 args w (RawPost I w x Ac):=by
 refine⟨⟨Tryz.f220,Tryz.func220,by kernel_rfl,by kernel_rfl⟩,fun ds x Ac hg I w args hI hgl hd=> ?_⟩
 unfold containsG at hg
 split at hg
 ·rename_i s sub
  split at hg
  ·rename_i hs
   simp only[Option.some.injEq,Prod.mk.injEq] at hg
   obtain⟨rfl,rfl⟩:=hg
   obtain rfl:args= #[.string s,.string sub]:=by
    obtain⟨ags⟩:=args
    replace hd:DRs I w [.v (.string s),.v (.string sub)] ags:=hd
    cases hd
    rename_i h hs
    cases hs
    rename_i h2 hs
    cases hs
    cases h
    cases h2
    rfl
   obtain⟨_,m,hm⟩:=hgl.2 0 rfl
   refine(Any.strings_Contains Tryz.lays144 s sub m w hs hm).mono fun e w' h=> ?_
   obtain⟨rfl,rfl⟩:=h
   exact⟨_,⟨I,fun _=>0,_,[],fun _=>False⟩,rfl,rfl,⟨rfl,rfl,rfl,Nat.le_refl _,fun _ _=>rfl⟩,⟨fun _ _ hp=>hp.elim,fun _ _ hp=>hp.elim,fun b hb'=>hI b hb'⟩,rfl,.d (.v _ rfl),fun _ h=>h,fun _ h=>.inl h,fun _ hp=>hp.elim⟩
  ·simp at hg
 ·simp at hg
set_option maxHeartbeats 4000000 in
set_option maxRecDepth 1000000 in
theorem walk0 (v0 v1 v2 v3 v4 v5 v6 v7 v8:Value)(ad:Option Addr)(n cap:Nat)(w:World)(I:Nat->Prop)(x:AV)(Ac:List Blk)(hI:∀ b,I b->b<w.heap.size)(h32:32<n)(hans:ansT ByteArray.empty false=some (x,Ac)):
  Calls Tryz.prog 31 #[.agg #[v0,v1,v2,v3,v4,v5,v6,v7,v8,.slice ad n cap]] w (RawPost I w x Ac):=by
 have hlt:(32:Int)<n:=by omega
 have hpost:=ans_post hI (kept_alloc w (.cells #[v0,v1,v2,v3,v4,v5,v6,v7,v8,.slice ad n cap] 30)) ByteArray.empty false hans
 clear hans
 go_enter Tryz.func31,Tryz.ntmps31
 go_wp2
 go_ret2
 exact hpost
theorem lst_len {I:Nat->Prop}{w:World}{x:DV}{X:Value}{n:Nat}(h:(∃ cs k,x=.lst cs n k)∨(x=.nel/\n=0))(hx:DR I w x X):∃ ad cap,X=.slice ad n cap:=by
 rcases h with⟨cs,k,rfl⟩ | ⟨rfl,rfl⟩
 ·cases hx with
  | emp _=>exact⟨_,_,rfl⟩
  | nil _=>exact⟨_,_,rfl⟩
  | lst _ _ _ _=>exact⟨_,_,rfl⟩
 ·cases hx
  exact⟨_,_,rfl⟩
theorem prog_args {I:Nat->Prop}{w:World}{p:DV}{n:Nat}{args:Array Value}(h:insN p=some n)(hd:DRs I w [p] args.toList):∃ v0 v1 v2 v3 v4 v5 v6 v7 v8 ad cap,args= #[.agg #[v0,v1,v2,v3,v4,v5,v6,v7,v8,.slice ad n cap]]:=by
 obtain⟨ags⟩:=args
 replace hd:DRs I w [p] ags:=hd
 cases hd
 rename_i P Xs hp hs
 cases hs
 have key:∀ {d0 d1 d2 d3 d4 d5 d6 d7 d8 d9:DV},((∃ cs k,d9=.lst cs n k)∨(d9=.nel/\n=0))->DR I w (.agg [d0,d1,d2,d3,d4,d5,d6,d7,d8,d9]) P->∃ v0 v1 v2 v3 v4 v5 v6 v7 v8 ad cap,(⟨[P]⟩:Array Value)= #[.agg #[v0,v1,v2,v3,v4,v5,v6,v7,v8,.slice ad n cap]]:=by
  intro d0 d1 d2 d3 d4 d5 d6 d7 d8 d9 h9 hp
  cases hp with
  | agg hv=>
   rename_i X
   obtain⟨X⟩:=X
   replace hv:DRs I w [d0,d1,d2,d3,d4,d5,d6,d7,d8,d9] X:=hv
   obtain _ | ⟨_,hv⟩:=hv
   obtain _ | ⟨_,hv⟩:=hv
   obtain _ | ⟨_,hv⟩:=hv
   obtain _ | ⟨_,hv⟩:=hv
   obtain _ | ⟨_,hv⟩:=hv
   obtain _ | ⟨_,hv⟩:=hv
   obtain _ | ⟨_,hv⟩:=hv
   obtain _ | ⟨_,hv⟩:=hv
   obtain _ | ⟨_,hv⟩:=hv
   obtain _ | ⟨g9,hv⟩:=hv
   obtain _ | _:=hv
   obtain⟨ad,cap,rfl⟩:=lst_len h9 g9
   exact⟨_,_,_,_,_,_,_,_,_,ad,cap,rfl⟩
 unfold insN at h
 split at h
 ·simp only [Option.some.injEq] at h
  subst h
  exact key (.inl ⟨_,_,rfl⟩) hp
 ·simp only [Option.some.injEq] at h
  exact key (.inr ⟨rfl,h.symm⟩) hp
 ·simp at h
theorem print_walk {raw:RawT}(hraw:RawOk raw){ds:List DV}{x:AV}{Ac:List Blk}(hg:printGen raw 62 63 28 67 ds=some (x,Ac))(I:Nat->Prop)(w:World)(args:Array Value)(hI:∀ b,I b->b<w.heap.size)(hgl:Gl I w)(hd:DRs I w ds args.toList):
  Calls Tryz.prog 31 args w (RawPost I w x Ac):=by
 unfold printGen at hg
 split at hg
 ·rename_i p
  split at hg
  ·rename_i n hn
   obtain⟨v0,v1,v2,v3,v4,v5,v6,v7,v8,ad,cap,rfl⟩:=prog_args hn hd
   cases h32:Nat.blt 32 n with
   | true=>
    rw[h32] at hg
    exact walk0 _ _ _ _ _ _ _ _ _ _ _ _ w I x Ac hI (Nat.le_of_ble_eq_true h32) hg
   | false=>
    rw[h32] at hg
    simp only[cond_false] at hg
    have h32':¬32<n:=fun h=>by
     have:Nat.blt 32 n=true:=Nat.ble_eq_true_of_le h
     rw[this] at h32
     cases h32
    unfold printAt at hg
    split at hg
    ·rename_i len cs hit
     cases hc:(Nat.beq cs.length (len*13)&&Nat.ble len 1000000) with
     | false=>rw[hc] at hg;simp at hg
     | true=>
      rw[hc] at hg
      simp only[cond_true] at hg
      simp only[Bool.and_eq_true] at hc
      unfold printIt at hg
      split at hg
      ·rename_i vs hvs
       split at hg
       ·rename_i s hT
        refine walk1 raw hraw _ _ _ _ _ _ _ _ _ _ _ _ w I x Ac p len cs vs (some s) hI hgl hd h32' hit (Nat.eq_of_beq_eq_true hc.1) (Nat.le_of_ble_eq_true hc.2) hvs hT (fun h=>by cases h) ?_
        rintro s' rfl'
        cases rfl'
        split at hg
        ·rename_i hb
         exact⟨true,hb,hg⟩
        ·rename_i hb
         exact⟨false,hb,hg⟩
        ·simp at hg
       ·rename_i hT
        exact walk1 raw hraw _ _ _ _ _ _ _ _ _ _ _ _ w I x Ac p len cs vs none hI hgl hd h32' hit (Nat.eq_of_beq_eq_true hc.1) (Nat.le_of_ble_eq_true hc.2) hvs hT (fun _=>hg) (fun s h=>by cases h)
       ·simp at hg
      ·simp at hg
    ·simp at hg
  ·simp at hg
 ·simp at hg
def env0:Env:={ br:=[60,61,102,103,104,105,106,169,171,172,174,175,176,224,225,226,227,228,258,259,260,261,248],th:=[],prim:=fun f=>if f=220 then some containsG else none,back:=fun _=>none }
theorem prim0:PrimOk Tryz.prog env0:=by
 intro f g h
 simp only[env0] at h
 split at h
 ·rename_i e
  subst e
  simp only[Option.some.injEq] at h
  subst h
  exact contains_prim
 ·simp at h
theorem back0:BackOk Tryz.prog env0:=by
 intro g s ag h
 simp[env0] at h
theorem raw_ok {E:Env}(hp:PrimOk Tryz.prog E)(hb:BackOk Tryz.prog E):RawOk fun f ds=>evC E (cFunc Tryz.prog) 30 f (ds.map .d) []:=by
 intro f ds x Ac h I w args hI hgl hd
 exact(evC_sound (E:=E) (by kernel_rfl) (fun _ _ h=>h) hp hb h (c:=⟨I,fun _=>0,w,[],fun _=>False⟩) ⟨fun _ _ hp=>hp.elim,fun _ _ hp=>hp.elim,hI⟩ hgl rfl (fun i=>by simp) (VRs.ofD hd)).mono fun e w' ht=>rawPost_of_turn ht
def Row (e:ByteArray×AV):Prop:=evC env0 (cFunc Tryz.prog) 30 59 [.d (.v (.string e.1))] []=some (e.2,[])
def AllR:List (ByteArray×AV)->Prop
 | []=>True
 | e::r=>Row e/\AllR r
theorem AllR.mem:∀ {T:List (ByteArray×AV)},AllR T->∀ {e:ByteArray×AV},e ∈ T->Row e
 | _::_,h,_,he=>by
  rcases List.mem_cons.1 he with rfl | he
  ·exact h.1
  ·exact AllR.mem h.2 he
def eqL:List UInt8->List UInt8->Bool
 | [],[]=>true
 | a::l,b::m=>Nat.beq a.toNat b.toNat&&eqL l m
 | _,_=>false
theorem eqL_eq:∀ {l m:List UInt8},eqL l m=true->l=m
 | [],[],_=>rfl
 | a::l,b::m,h=>by
  simp only[eqL,Bool.and_eq_true] at h
  rw[UInt8.toNat_inj.1 (Nat.eq_of_beq_eq_true h.1),eqL_eq h.2]
 | [],_::_,h=>by simp[eqL] at h
 | _::_,[],h=>by simp[eqL] at h
def findT:List (ByteArray×AV)->List UInt8->Option AV
 | [],_=>none
 | e::r,l=>bif eqL e.1.data.toList l then some e.2 else findT r l
theorem findT_mem:∀ {T:List (ByteArray×AV)} {l:List UInt8} {a:AV},findT T l=some a->∃ e,e ∈ T/\e.1.data.toList=l/\e.2=a
 | e::r,l,a,h=>by
  unfold findT at h
  cases hb:eqL e.1.data.toList l with
  | true=>
   rw[hb] at h
   exact⟨e,List.mem_cons_self,eqL_eq hb,Option.some.inj h⟩
  | false=>
   rw[hb] at h
   obtain⟨e',h1,h2⟩:=findT_mem h
   exact⟨e',List.mem_cons_of_mem _ h1,h2⟩
 | [],_,_,h=>by simp[findT] at h
def linesG (T:List (ByteArray×AV)):List DV->Option (AV×List Blk):=fun ds=>match ds with
 | [.v (.string s)]=>match findT T s.data.toList with
  | some a=>some (a,[])
  | none=>none
 | _=>none
theorem lines_prim {T:List (ByteArray×AV)}(hT:AllR T):Go.Aug.Enters Tryz.prog 59/\∀ ds x Ac,linesG T ds=some (x,Ac)->∀(I:Nat->Prop) (w:World) (args:Array Value),(∀ b,I b->b<w.heap.size)->Gl I w->DRs I w ds args.toList->Calls Tryz.prog 59 args w (RawPost I w x Ac):=by
 refine⟨⟨Tryz.f59,Tryz.func59,by kernel_rfl,by kernel_rfl⟩,fun ds x Ac hg I w args hI hgl hd=> ?_⟩
 unfold linesG at hg
 split at hg
 ·rename_i s
  split at hg
  ·rename_i a ha
   simp only[Option.some.injEq,Prod.mk.injEq] at hg
   obtain⟨rfl,rfl⟩:=hg
   obtain⟨e,he,hk,rfl⟩:=findT_mem ha
   have hs:e.1=s:=by
    apply ByteArray.ext
    exact Array.ext' hk
   subst hs
   have h0:evC env0 (cFunc Tryz.prog) 30 59 ([DV.v (.string e.1)].map AV.d) []=some (e.2,[]):=hT.mem he
   exact raw_ok prim0 back0 59 [.v (.string e.1)] e.2 [] h0 I w args hI hgl hd
  ·simp at hg
 ·simp at hg
end Go.Proofs.YthnhboimcidhgaaGreatDoor
