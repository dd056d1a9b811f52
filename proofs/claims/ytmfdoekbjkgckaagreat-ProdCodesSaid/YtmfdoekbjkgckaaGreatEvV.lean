import Derived.Test.YtmfdoekbjkgckaaGreatEvN
import Derived.Test.YtmfdoekbjkgckaaGreatEvY
namespace Go.Aug
open Go
def E0:Env:={ br:=[],th:=[],prim:=fun _=>none,back:=fun _=>none }
theorem Zcq (P:Program):KN P E0:=fun f g h=>by simp[E0] at h
theorem Ziw (P:Program):ED P E0:=fun f s ag h=>by simp[E0] at h
def Rx (key s bytes:Nat)(z:List AV):Env->cT->cT:=
 Y7 8 [.tmp 2] (cQ (Z3 [⟨(some 2),none,oV (.c (.lst [] 0 (some 0)))⟩]) (cQ (cQ (Z3 [⟨(some 3),none,oV (.t 0)⟩,⟨(some 4),none,GR false .slice (.t 3) (.c (.v (.slice none 0 0)))⟩])
  (cJ key (.t 4) (cQ (Z3 [⟨(some 2),none,oV (.c (.lst [] 0 (some 0)))⟩]) (cZ)) (cK)))
  (cQ (Z3 [⟨(some 5),none,Y2 (rep z 0) 0 s []⟩,⟨(some 6),none,oV (.t 0)⟩,⟨(some 7),none,Y5 false s bytes (.t 5) (.t 6)⟩,⟨(some 2),none,oV (.t 7)⟩]) (cZ))))
def NP (s bytes:Nat):List DV->Option (AV×List Blk)
 | [.v (.slice none 0 0)]=>some (.d (.lst [] 0 (some 0)),[])
 | [.lst cs len _]=>
  if len=0 then(if cs.isEmpty then some (.d (.lst [] 0 (some 0)),[]) else none)
  else if cs.length=len*s/\len*bytes<=Z4/\len<=Z4/\(cs.all fun x=>(AV.d x).one)=true then some (.sref 0 0 0 len s none,[.cells (cs.map .d) 0 false]) else none
 | _=>none
section
variable {P:Program} {f key s bytes:Nat} {z:List AV} {fn:FuncId->Option (Env->cT->cT)} (hf:fn f=some (Rx key s bytes z))
include hf
theorem Z6i:Z5 E0 fn 1 f [U2] []=some (.d (.lst [] 0 (some 0)),[]):=by
 simp only[Z5,hf,H7]
 rfl
theorem Z6j:Z5 E0 fn 1 f [.d .nel] []=some (.sref 0 0 0 0 s (some 0),[.cells [] 0 false]):=by
 simp only[Z5,hf,H7]
 rfl
theorem Zhl {cs:List DV}{len:Nat}{k:Option Nat}(h0:len≠0)(h1:cs.length=len*s)(h2:len*bytes<=Z4)(h3:len<=Z4)(h4:(cs.all fun x=>(AV.d x).one)=true):
  Z5 E0 fn 1 f [.d (.lst cs len k)] []=some (.sref 0 0 0 len s none,[.cells (cs.map .d) 0 false]):=by
 have ho:(List.map AV.d cs).all AV.one=true:=by simpa [List.all_map,Function.comp_def] using h4
 have he:F3 .slice (.d (.lst cs len k)) (.d (.v (.slice none 0 0)))=some false:=if_neg h0
 have hn:CH [.cells [] 0 false] false s (.d (.lst cs len k))=some (cs.map .d,len):=if_pos h1
 have ha:=Z7b [.cells [] 0 false] s bytes 0 0 len [] (cs.map .d) 0 rfl h0 rfl h2 h3 ho
 simp only[Z5,hf,H7,Rx]
 rw[Yq _ _ _ _ _ _ _ _ rfl]
 simp only[M5,Z5s,Z5v,Z5u,Z23,Z5x,Z5r,Z0l,N3,Z5y,Zh0,Vz,ZG,Zdg,he,Zdf,Zh3,Zh4,Zgx,Z5t,if_true,if_false,Nat.reduceLT,Nat.reduceEqDiff,Bool.false_eq_true,cond_false]
 rw[Z5w _ _ _ _ _ rfl]
 simp only[Z5s,Z5v,Z5u,Z23,Zdd,HG,E0,ZW,G3,Bool.or_self,Zdb,Zde,Zdc,rep,Z5x,Zgy,Z5r,Z0l,N3,Z5y,Vz,ZG,Zdj,List.length_nil,List.nil_append,hn,Zdi,ha,Zdh,Z5t,Zbz,Zbw,Zby,Option.map_some,Zbx,if_true,if_false,Nat.reduceLT,Nat.reduceEqDiff]
 exact Zgu _ rfl
end
theorem Z6h {P:Program}(hm:P.follows .mixedOrders=true){f key s bytes:Nat}{z:List AV}(hF:GA P f=some (Rx key s bytes z)):
  Enters P f/\∀ ds x Ac,NP s bytes ds=some (x,Ac)->∀(I:Nat->Prop) (w:World) (args:Array Value),(∀ b,I b->b<w.heap.size)->Gl I w->DRs I w ds args.toList->Calls P f args w (MN I w x Ac):=by
 refine⟨Z6r hF,fun ds x Ac hg I w args hI hgl hd=> ?_⟩
 have sound:∀ {args1:List AV} {y:AV} {B:List Blk},Z5 E0 (GA P) 1 f args1 []=some (y,B)->VRs ⟨I,fun _=>0,w,[],fun _=>False⟩ args1 args.toList->Calls P f args w (B9 ⟨I,fun _=>0,w,[],fun _=>False⟩ y B):=by
  intro args1 y B he hv
  exact Wj hm (fun _ _ h=>.inl h) (Zcq P) (Ziw P) he (c:=⟨I,fun _=>0,w,[],fun _=>False⟩) ⟨fun _ _ hp=>hp.elim,fun _ _ hp=>hp.elim,hI⟩ hgl rfl (fun i=>by simp) hv
 have weak:∀ {y:AV} {B:List Blk},(∀(c1:Cx) (X:Value),VR c1 y X->VR { c1 with A:=[],Pr:=fun _=>False } (.d (.lst [] 0 (some 0))) X)->Calls P f args w (B9 ⟨I,fun _=>0,w,[],fun _=>False⟩ y B)->Calls P f args w (MN I w (.d (.lst [] 0 (some 0))) []):=by
  intro y B hw hc
  refine hc.mono fun e w' ht=> ?_
  obtain⟨X,c1,rfl,rfl,k,hr1,hA,hx,g1,g2,g3⟩:=SE ht
  exact⟨_,{ c1 with A:=[],Pr:=fun _=>False },rfl,rfl,k,⟨fun _ _ hp=>hp.elim,fun _ _ hp=>hp.elim,hr1.lt⟩,rfl,hw c1 X hx,g1,g2,fun _ hp=>hp.elim⟩
 have wnil:∀(c1:Cx) (X:Value),VR c1 (.d (.lst [] 0 (some 0))) X->VR { c1 with A:=[],Pr:=fun _=>False } (.d (.lst [] 0 (some 0))) X:=by
  intro c1 X h
  cases h with
  | d h=>exact .d h
 have wnel:∀(c1:Cx) (X:Value),VR c1 (.sref 0 0 0 0 s (some 0)) X->VR { c1 with A:=[],Pr:=fun _=>False } (.d (.lst [] 0 (some 0))) X:=by
  intro c1 X h
  cases h with
  | sref hp hv hl hk _ _=>exact .d (.nil (fun c hc=>by simp at hc;subst hc;exact hk 0 rfl))
  | srefS hv hl hc hk=>exact .d (.nil (fun c hc'=>by simp at hc';subst hc';exact hk 0 rfl))
 unfold NP at hg
 split at hg
 ·simp at hg
  obtain⟨rfl,rfl⟩:=hg
  exact weak wnil (sound (Z6i hF) (VRs.ofD (cs:=[.v (.slice none 0 0)]) hd))
 ·rename_i cs len k
  split at hg
  ·rename_i h0
   subst h0
   split at hg
   ·rename_i hc
    simp at hg hc
    obtain⟨rfl,rfl⟩:=hg
    subst hc
    revert hd sound weak
    generalize args.toList=L
    intro sound weak hd
    cases hd with
    | cons h hs=>
     cases hs
     cases h with
     | emp hk=>exact weak wnil (sound (Z6i hF) (.cons (VR.vv rfl) .nil))
     | nil hk=>exact weak wnel (sound (Z6j hF) (.cons (.d .nel) .nil))
     | lst hI' hl hk h=>exact weak wnel (sound (Z6j hF) (.cons (.d .nel) .nil))
   ·simp at hg
  ·rename_i h0
   split at hg
   ·rename_i hc
    obtain⟨h1,h2,h3,h4⟩:=hc
    simp at hg
    obtain⟨rfl,rfl⟩:=hg
    exact(sound (Zhl hF h0 h1 h2 h3 h4) (VRs.ofD (cs:=[.lst cs len k]) hd)).mono fun e w' h=>SE h
   ·simp at hg
 ·simp at hg
end Go.Aug
