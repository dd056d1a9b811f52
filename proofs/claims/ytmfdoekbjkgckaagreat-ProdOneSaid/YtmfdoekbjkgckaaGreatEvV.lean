import Derived.Test.YtmfdoekbjkgckaaGreatEvN
import Derived.Test.YtmfdoekbjkgckaaGreatEvY
namespace Go.Aug
open Go
def E0:Env:={ br:=[],th:=[],prim:=fun _=>none,back:=fun _=>none }
theorem Zkv (P:Program):Nw P E0:=fun f g h=>by simp[E0] at h
theorem Zrt (P:Program):G6 P E0:=fun f s ag h=>by simp[E0] at h
def TA (key s bytes:Nat)(z:List AV):Env->cT->cT:=
 ZJ 8 [.tmp 2] (cQ (Z1 [⟨(some 2),none,oV (.c (.lst [] 0 (some 0)))⟩]) (cQ (cQ (Z1 [⟨(some 3),none,oV (.t 0)⟩,⟨(some 4),none,F9 false .slice (.t 3) (.c (.v (.slice none 0 0)))⟩])
  (cJ key (.t 4) (cQ (Z1 [⟨(some 2),none,oV (.c (.lst [] 0 (some 0)))⟩]) (cZ)) (cK)))
  (cQ (Z1 [⟨(some 5),none,YJ (rep z 0) 0 s []⟩,⟨(some 6),none,oV (.t 0)⟩,⟨(some 7),none,YX false s bytes (.t 5) (.t 6)⟩,⟨(some 2),none,oV (.t 7)⟩]) (cZ))))
def KA (s bytes:Nat):List DV->Option (AV×List Blk)
 | [.v (.slice none 0 0)]=>some (.d (.lst [] 0 (some 0)),[])
 | [.lst cs len _]=>
  if len=0 then(if cs.isEmpty then some (.d (.lst [] 0 (some 0)),[]) else none)
  else if cs.length=len*s/\len*bytes<=Z5/\len<=Z5/\(cs.all fun x=>(AV.d x).one)=true then some (.sref 0 0 0 len s none,[.cells (cs.map .d) 0 false]) else none
 | _=>none
section
variable {P:Program} {f key s bytes:Nat} {z:List AV} {fn:FuncId->Option (Env->cT->cT)} (hf:fn f=some (TA key s bytes z))
include hf
theorem Zbf:Z4 E0 fn 1 f [WM] []=some (.d (.lst [] 0 (some 0)),[]):=by
 simp only[Z4,hf,KG]
 rfl
theorem Zbg:Z4 E0 fn 1 f [.d .nel] []=some (.sref 0 0 0 0 s (some 0),[.cells [] 0 false]):=by
 simp only[Z4,hf,KG]
 rfl
theorem Zq6 {cs:List DV}{len:Nat}{k:Option Nat}(h0:len≠0)(h1:cs.length=len*s)(h2:len*bytes<=Z5)(h3:len<=Z5)(h4:(cs.all fun x=>(AV.d x).one)=true):
  Z4 E0 fn 1 f [.d (.lst cs len k)] []=some (.sref 0 0 0 len s none,[.cells (cs.map .d) 0 false]):=by
 have ho:(List.map AV.d cs).all AV.one=true:=by simpa [List.all_map,Function.comp_def] using h4
 have he:GP .slice (.d (.lst cs len k)) (.d (.v (.slice none 0 0)))=some false:=if_neg h0
 have hn:E4 [.cells [] 0 false] false s (.d (.lst cs len k))=some (cs.map .d,len):=if_pos h1
 have ha:=WG [.cells [] 0 false] s bytes 0 0 len [] (cs.map .d) 0 rfl h0 rfl h2 h3 ho
 simp only[Z4,hf,KG,TA]
 rw[ZN _ _ _ _ _ _ _ _ rfl]
 simp only[MC,Zaq,Zat,Zas,Z58,Zav,Zap,Z3w,R5,Zax,Zpj,VA,ZS,Zlq,he,Zlp,Zpm,Zpn,Zph,Zar,if_true,if_false,Nat.reduceLT,Nat.reduceEqDiff,Bool.false_eq_true,cond_false]
 rw[Zau _ _ _ _ _ rfl]
 simp only[Zaq,Zat,Zas,Z58,Zln,M2,E0,Yj,HB,Bool.or_self,Zll,Zlo,Zlm,rep,Zav,Zpi,Zap,Z3w,R5,Zax,VA,ZS,Zlu,List.length_nil,List.nil_append,hn,Zlt,ha,Zls,Zar,Zk6,Zk3,Zk5,Option.map_some,Zk4,if_true,if_false,Nat.reduceLT,Nat.reduceEqDiff]
 exact Zpe _ rfl
end
theorem Zbd {P:Program}(hm:P.follows .mixedOrders=true){f key s bytes:Nat}{z:List AV}(hF:HX P f=some (TA key s bytes z)):
  Enters P f/\∀ ds x Ac,KA s bytes ds=some (x,Ac)->∀(I:Nat->Prop) (w:World) (args:Array Value),(∀ b,I b->b<w.heap.size)->Gl I w->DRs I w ds args.toList->Calls P f args w (PA I w x Ac):=by
 refine⟨Zbz hF,fun ds x Ac hg I w args hI hgl hd=> ?_⟩
 have sound:∀ {args1:List AV} {y:AV} {B:List Blk},Z4 E0 (HX P) 1 f args1 []=some (y,B)->VRs ⟨I,fun _=>0,w,[],fun _=>False⟩ args1 args.toList->Calls P f args w (CP ⟨I,fun _=>0,w,[],fun _=>False⟩ y B):=by
  intro args1 y B he hv
  exact Z1f hm (fun _ _ h=>.inl h) (Zkv P) (Zrt P) he (c:=⟨I,fun _=>0,w,[],fun _=>False⟩) ⟨fun _ _ hp=>hp.elim,fun _ _ hp=>hp.elim,hI⟩ hgl rfl (fun i=>by simp) hv
 have weak:∀ {y:AV} {B:List Blk},(∀(c1:Cx) (X:Value),VR c1 y X->VR { c1 with A:=[],Pr:=fun _=>False } (.d (.lst [] 0 (some 0))) X)->Calls P f args w (CP ⟨I,fun _=>0,w,[],fun _=>False⟩ y B)->Calls P f args w (PA I w (.d (.lst [] 0 (some 0))) []):=by
  intro y B hw hc
  refine hc.mono fun e w' ht=> ?_
  obtain⟨X,c1,rfl,rfl,k,hr1,hA,hx,g1,g2,g3⟩:=US ht
  exact⟨_,{ c1 with A:=[],Pr:=fun _=>False },rfl,rfl,k,⟨fun _ _ hp=>hp.elim,fun _ _ hp=>hp.elim,hr1.lt⟩,rfl,hw c1 X hx,g1,g2,fun _ hp=>hp.elim⟩
 have wnil:∀(c1:Cx) (X:Value),VR c1 (.d (.lst [] 0 (some 0))) X->VR { c1 with A:=[],Pr:=fun _=>False } (.d (.lst [] 0 (some 0))) X:=by
  intro c1 X h
  cases h with
  | d h=>exact .d h
 have wnel:∀(c1:Cx) (X:Value),VR c1 (.sref 0 0 0 0 s (some 0)) X->VR { c1 with A:=[],Pr:=fun _=>False } (.d (.lst [] 0 (some 0))) X:=by
  intro c1 X h
  cases h with
  | sref hp hv hl hk _ _=>exact .d (.nil (fun c hc=>by simp at hc;subst hc;exact hk 0 rfl))
  | srefS hv hl hc hk=>exact .d (.nil (fun c hc'=>by simp at hc';subst hc';exact hk 0 rfl))
 unfold KA at hg
 split at hg
 ·simp at hg
  obtain⟨rfl,rfl⟩:=hg
  exact weak wnil (sound (Zbf hF) (VRs.ofD (cs:=[.v (.slice none 0 0)]) hd))
 ·rename_i cs len k
  split at hg
  ·rename_i h0
   subst h0
   split at hg
   ·rename_i hc
    simp at hg hc
    obtain⟨rfl,rfl⟩:=hg
    subst hc
    revert hd sound weak
    generalize args.toList=L
    intro sound weak hd
    cases hd with
    | cons h hs=>
     cases hs
     cases h with
     | emp hk=>exact weak wnil (sound (Zbf hF) (.cons (VR.vv rfl) .nil))
     | nil hk=>exact weak wnel (sound (Zbg hF) (.cons (.d .nel) .nil))
     | lst hI' hl hk h=>exact weak wnel (sound (Zbg hF) (.cons (.d .nel) .nil))
   ·simp at hg
  ·rename_i h0
   split at hg
   ·rename_i hc
    obtain⟨h1,h2,h3,h4⟩:=hc
    simp at hg
    obtain⟨rfl,rfl⟩:=hg
    exact(sound (Zq6 hF h0 h1 h2 h3 h4) (VRs.ofD (cs:=[.lst cs len k]) hd)).mono fun e w' h=>US h
   ·simp at hg
 ·simp at hg
end Go.Aug
