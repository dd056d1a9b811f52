import Derived.Test.YtmfdoekbjkgckaaGreatEvN
import Derived.Test.YtmfdoekbjkgckaaGreatEvY
namespace Go.Aug
open Go
def E0:Env:={ br:=[],th:=[],prim:=fun _=>none,back:=fun _=>none }
theorem Zlr (P:Program):NH P E0:=fun f g h=>by simp[E0] at h
theorem Zsp (P:Program):Gk P E0:=fun f s ag h=>by simp[E0] at h
def TS (key s bytes:Nat)(z:List AV):Env->cT->cT:=
 ZJ 8 [.tmp 2] (cQ (Z1 [⟨(some 2),none,oV (.c (.lst [] 0 (some 0)))⟩]) (cQ (cQ (Z1 [⟨(some 3),none,oV (.t 0)⟩,⟨(some 4),none,Dw false .slice (.t 3) (.c (.v (.slice none 0 0)))⟩])
  (cJ key (.t 4) (cQ (Z1 [⟨(some 2),none,oV (.c (.lst [] 0 (some 0)))⟩]) (cZ)) (cK)))
  (cQ (Z1 [⟨(some 5),none,YE (rep z 0) 0 s []⟩,⟨(some 6),none,oV (.t 0)⟩,⟨(some 7),none,YV false s bytes (.t 5) (.t 6)⟩,⟨(some 2),none,oV (.t 7)⟩]) (cZ))))
def KJ (s bytes:Nat):List DV->Option (AV×List Blk)
 | [.v (.slice none 0 0)]=>some (.d (.lst [] 0 (some 0)),[])
 | [.lst cs len _]=>
  if len=0 then(if cs.isEmpty then some (.d (.lst [] 0 (some 0)),[]) else none)
  else if cs.length=len*s/\len*bytes<=Z5/\len<=Z5/\(cs.all fun x=>(AV.d x).one)=true then some (.sref 0 0 0 len s none,[.cells (cs.map .d) 0 false]) else none
 | _=>none
section
variable {P:Program} {f key s bytes:Nat} {z:List AV} {fn:FuncId->Option (Env->cT->cT)} (hf:fn f=some (TS key s bytes z))
include hf
theorem Zc5:Z4 E0 fn 1 f [X3] []=some (.d (.lst [] 0 (some 0)),[]):=by
 simp only[Z4,hf,KU]
 rfl
theorem Zc6:Z4 E0 fn 1 f [.d .nel] []=some (.sref 0 0 0 0 s (some 0),[.cells [] 0 false]):=by
 simp only[Z4,hf,KU]
 rfl
theorem Zr4 {cs:List DV}{len:Nat}{k:Option Nat}(h0:len≠0)(h1:cs.length=len*s)(h2:len*bytes<=Z5)(h3:len<=Z5)(h4:(cs.all fun x=>(AV.d x).one)=true):
  Z4 E0 fn 1 f [.d (.lst cs len k)] []=some (.sref 0 0 0 len s none,[.cells (cs.map .d) 0 false]):=by
 have ho:(List.map AV.d cs).all AV.one=true:=by simpa [List.all_map,Function.comp_def] using h4
 have he:GX .slice (.d (.lst cs len k)) (.d (.v (.slice none 0 0)))=some false:=if_neg h0
 have hn:Ek [.cells [] 0 false] false s (.d (.lst cs len k))=some (cs.map .d,len):=if_pos h1
 have ha:=WY [.cells [] 0 false] s bytes 0 0 len [] (cs.map .d) 0 rfl h0 rfl h2 h3 ho
 simp only[Z4,hf,KU,TS]
 rw[ZP _ _ _ _ _ _ _ _ rfl]
 simp only[MN,Zbh,Zbk,Zbj,Z5v,Zbm,Zbg,Z4f,Rz,Zbo,Zqg,VQ,ZT,Zmm,he,Zml,Zqj,Zqk,Zqe,Zbi,if_true,if_false,Nat.reduceLT,Nat.reduceEqDiff,Bool.false_eq_true,cond_false]
 rw[Zbl _ _ _ _ _ rfl]
 simp only[Zbh,Zbk,Zbj,Z5v,Zmj,Mk,E0,Yj,HK,Bool.or_self,Zmh,Zmk,Zmi,rep,Zbm,Zqf,Zbg,Z4f,Rz,Zbo,VQ,ZT,Zmq,List.length_nil,List.nil_append,hn,Zmp,ha,Zmo,Zbi,Zl1,Zky,Zl0,Option.map_some,Zkz,if_true,if_false,Nat.reduceLT,Nat.reduceEqDiff]
 exact Zqb _ rfl
end
theorem Zc3 {P:Program}(hm:P.follows .mixedOrders=true){f key s bytes:Nat}{z:List AV}(hF:K6 P f=some (TS key s bytes z)):
  Enters P f/\∀ ds x Ac,KJ s bytes ds=some (x,Ac)->∀(I:Nat->Prop) (w:World) (args:Array Value),(∀ b,I b->b<w.heap.size)->Gl I w->DRs I w ds args.toList->Calls P f args w (PJ I w x Ac):=by
 refine⟨Zco hF,fun ds x Ac hg I w args hI hgl hd=> ?_⟩
 have sound:∀ {args1:List AV} {y:AV} {B:List Blk},Z4 E0 (K6 P) 1 f args1 []=some (y,B)->VRs ⟨I,fun _=>0,w,[],fun _=>False⟩ args1 args.toList->Calls P f args w (CR ⟨I,fun _=>0,w,[],fun _=>False⟩ y B):=by
  intro args1 y B he hv
  exact Z1w hm (fun _ _ h=>.inl h) (Zlr P) (Zsp P) he (c:=⟨I,fun _=>0,w,[],fun _=>False⟩) ⟨fun _ _ hp=>hp.elim,fun _ _ hp=>hp.elim,hI⟩ hgl rfl (fun i=>by simp) hv
 have weak:∀ {y:AV} {B:List Blk},(∀(c1:Cx) (X:Value),VR c1 y X->VR { c1 with A:=[],Pr:=fun _=>False } (.d (.lst [] 0 (some 0))) X)->Calls P f args w (CR ⟨I,fun _=>0,w,[],fun _=>False⟩ y B)->Calls P f args w (PJ I w (.d (.lst [] 0 (some 0))) []):=by
  intro y B hw hc
  refine hc.mono fun e w' ht=> ?_
  obtain⟨X,c1,rfl,rfl,k,hr1,hA,hx,g1,g2,g3⟩:=V6 ht
  exact⟨_,{ c1 with A:=[],Pr:=fun _=>False },rfl,rfl,k,⟨fun _ _ hp=>hp.elim,fun _ _ hp=>hp.elim,hr1.lt⟩,rfl,hw c1 X hx,g1,g2,fun _ hp=>hp.elim⟩
 have wnil:∀(c1:Cx) (X:Value),VR c1 (.d (.lst [] 0 (some 0))) X->VR { c1 with A:=[],Pr:=fun _=>False } (.d (.lst [] 0 (some 0))) X:=by
  intro c1 X h
  cases h with
  | d h=>exact .d h
 have wnel:∀(c1:Cx) (X:Value),VR c1 (.sref 0 0 0 0 s (some 0)) X->VR { c1 with A:=[],Pr:=fun _=>False } (.d (.lst [] 0 (some 0))) X:=by
  intro c1 X h
  cases h with
  | sref hp hv hl hk _ _=>exact .d (.nil (fun c hc=>by simp at hc;subst hc;exact hk 0 rfl))
  | srefS hv hl hc hk=>exact .d (.nil (fun c hc'=>by simp at hc';subst hc';exact hk 0 rfl))
 unfold KJ at hg
 split at hg
 ·simp at hg
  obtain⟨rfl,rfl⟩:=hg
  exact weak wnil (sound (Zc5 hF) (VRs.ofD (cs:=[.v (.slice none 0 0)]) hd))
 ·rename_i cs len k
  split at hg
  ·rename_i h0
   subst h0
   split at hg
   ·rename_i hc
    simp at hg hc
    obtain⟨rfl,rfl⟩:=hg
    subst hc
    revert hd sound weak
    generalize args.toList=L
    intro sound weak hd
    cases hd with
    | cons h hs=>
     cases hs
     cases h with
     | emp hk=>exact weak wnil (sound (Zc5 hF) (.cons (VR.vv rfl) .nil))
     | nil hk=>exact weak wnel (sound (Zc6 hF) (.cons (.d .nel) .nil))
     | lst hI' hl hk h=>exact weak wnel (sound (Zc6 hF) (.cons (.d .nel) .nil))
   ·simp at hg
  ·rename_i h0
   split at hg
   ·rename_i hc
    obtain⟨h1,h2,h3,h4⟩:=hc
    simp at hg
    obtain⟨rfl,rfl⟩:=hg
    exact(sound (Zr4 hF h0 h1 h2 h3 h4) (VRs.ofD (cs:=[.lst cs len k]) hd)).mono fun e w' h=>V6 h
   ·simp at hg
 ·simp at hg
end Go.Aug
