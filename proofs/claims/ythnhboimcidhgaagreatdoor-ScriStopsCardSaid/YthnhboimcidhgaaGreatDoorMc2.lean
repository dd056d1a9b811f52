import Derived.Test.YthnhboimcidhgaaGreatDoorEvTy
import Derived.Test.YthnhboimcidhgaaGreatDoorMcP
import Derived.Test.YthnhboimcidhgaaGreatDoorEvP
import Derived.Test.YthnhboimcidhgaaGreatDoorEvPc
namespace Go.Aug.Md
open Go Go.Aug
def okW (w:Int):Bool:=decide (1<=w)&&decide (w<=16)
def size (w:Int):Int:=bif okW w then 2^w.toNat else 0
def mask (w n:Int):Int:=bif okW w then n%2^w.toNat else 0
def truth (b:Bool):Int:=bif b then 1 else 0
def iand (a b:Int):Int:=IntKind.i64.wrap (BitVec.ofInt 64 a&&&BitVec.ofInt 64 b).toNat
def ior (a b:Int):Int:=IntKind.i64.wrap (BitVec.ofInt 64 a ||| BitVec.ofInt 64 b).toNat
def ixor (a b:Int):Int:=IntKind.i64.wrap (BitVec.ofInt 64 a^^^BitVec.ofInt 64 b).toNat
def shl (w a b:Int):Int:=if b>=w then 0 else mask w (a*2^b.toNat)
def shr (w a b:Int):Int:=if b>=w then 0 else a.fdiv (2^b.toNat)
def opOf (w op a b:Int):Option Int:=
 if op=1 then some (mask w (a+b)) else if op=2 then some (mask w (a-b)) else if op=3 then some (iand a b) else if op=4 then some (ior a b) else if op=5 then some (ixor a b)
 else if op=6 then some (shl w a b) else if op=7 then some (shr w a b) else if op=8 then some (mask w (a*b)) else if op=9 then some (truth (decide (a<b))) else if op=10 then some (truth (a==b)) else none
def wdo (w op a b:Int):Int:=bif okW w then(opOf w op (mask w a) (mask w b)).getD 0 else 0
def wdoK (w op a b:Int):Bool:=okW w&&(opOf w op (mask w a) (mask w b)).isSome
def w64 (n:Int):Int:=IntKind.i64.wrap n
def faultI:Ins:=⟨12,0,0,⟨false,0⟩,⟨false,0⟩,⟨#[]⟩,0⟩
def at_ (p:Prog)(pc:Int):Ins:=if 0<=pc then(p.ins[pc.toNat]?).getD faultI else faultI
def cut (l:List Ent)(n:Int):List Ent:=l.take n.toNat
def getR (r:Regs)(i:Int):Int:=if i=0 then r.r0 else if i=1 then r.r1 else if i=2 then r.r2 else r.r3
def setR (r:Regs)(i n:Int):Regs:=if i=0 then { r with r0:=n } else if i=1 then { r with r1:=n } else if i=2 then { r with r2:=n } else if i=3 then { r with r3:=n } else r
def destK (i:Ins):Bool:=i.kind==1 || i.kind==2 || i.kind==4
def dest (i:Ins):Int:=bif destK i then i.d else 0
def regGo (p:Prog)(r d:Int):List Ent->Int×Bool
 | []=>(d,true)
 | e::l=>bif destK (at_ p e.pc)&&(at_ p e.pc).d==r then(bif e.done then(e.val,true) else(0,false)) else regGo p r d l
def reg (p:Prog)(of:Regs)(l:List Ent)(i r:Int):Int×Bool:=
 if r<0∨4<=r then(0,false) else regGo p r (getR of r) (cut l i).reverse
def val (p:Prog)(of:Regs)(l:List Ent)(i:Int)(v:Val):Int×Bool:=bif v.reg then reg p of l i v.n else(mask p.w v.n,true)
def isFence (p:Prog)(e:Ent):Bool:=(at_ p e.pc).kind==10
def blocked (p:Prog)(l:List Ent)(i:Int):Bool:=(cut l i).any (isFence p)
def hitS (p:Prog)(addr:Int)(e:Ent):Bool:=(at_ p e.pc).kind==3&&e.known&&e.addr==addr
def loadGo (p:Prog)(mem:List Int)(addr:Int):List Ent->Int×Int×Bool
 | []=>if addr<0∨(mem.length:Int)<=addr then(0,-1,true) else((mem[addr.toNat]?).getD 0,-1,true)
 | e::l=>bif hitS p addr e then(bif e.done then(e.val,(l.length:Int),true) else(0,0,false)) else loadGo p mem addr l
def load (p:Prog)(mem:List Int)(l:List Ent)(i addr:Int):Int×Int×Bool:=loadGo p mem addr (cut l i).reverse
def hitL (p:Prog)(i addr:Int)(e:Ent):Bool:=(at_ p e.pc).kind==2&&e.known&&e.addr==addr&&decide (e.frm<i)
def hazGo (p:Prog)(i addr:Int):Nat->List Ent->Int×Bool
 | _,[]=>(0,false)
 | k,e::l=>bif hitL p i addr e then((k:Int),true) else hazGo p i addr (k+1) l
def hazAt (l:List Ent)(i:Int):Nat:=(min i l.length+1).toNat
def hazard (p:Prog)(l:List Ent)(i addr:Int):Int×Bool:=hazGo p i addr (hazAt l i) (l.drop (hazAt l i))
def realGo (p:Prog):List Ent->List Int->Option (List Int)
 | [],out=>some out
 | e::l,out=>
  if(at_ p e.pc).kind=8 then(if 4<=out.length then none else realGo p l (out++[w64 (e.pc+1)]))
  else if(at_ p e.pc).kind=9 then(if out.length=0 then none else realGo p l out.dropLast)
  else realGo p l out
def real (p:Prog)(st:List Int)(l:List Ent)(i:Int):Option (List Int):=realGo p (cut l i) st
def push (l:List Int)(pc:Int):List Int:=(l++[pc]).drop (l.length-1)
end Go.Aug.Md
namespace Go.Aug.Md
open Go Go.Aug
theorem okW_iff {w:Int}:okW w=true↔1<=w/\w<=16:=by simp[okW]
theorem okW_nat {w:Int}(h:okW w=true):∃ k:Nat,w=k/\1<=k/\k<=16:=by
 obtain⟨h1,h2⟩:=okW_iff.1 h
 exact⟨w.toNat,by omega,by omega,by omega⟩
theorem pow_le16 {k:Nat}(h:k<=16):(2:Int)^k<=65536:=by
 have:(2:Nat)^k<=2^16:=Nat.pow_le_pow_right (by omega) h
 have e:(2:Int)^k=((2^k:Nat):Int):=by simp
 rw[e];omega
theorem pow_pos' (k:Nat):(0:Int)<2^k:=by
 have:=Nat.two_pow_pos k
 have e:(2:Int)^k=((2^k:Nat):Int):=by simp
 rw[e];omega
theorem Zsi {k:Nat}(h:k<=16):(2:Int)^k ∣ 18446744073709551616:=by
 have:(2:Nat)^k ∣ 2^64:=Nat.pow_dvd_pow 2 (by omega)
 have e:(2:Int)^k=((2^k:Nat):Int):=by simp
 rw[e]
 exact Int.natCast_dvd_natCast.2 this
theorem mask_nn (w n:Int):0<=mask w n:=by
 unfold mask
 cases h:okW w with
 | true=>exact Int.emod_nonneg _ (by have:=pow_pos' w.toNat;omega)
 | false=>exact Int.le_refl _
theorem Zt3 {w:Int}(n:Int)(h:okW w=true):mask w n<2^w.toNat:=by
 unfold mask;rw[h]
 exact Int.emod_lt_of_pos _ (pow_pos' _)
theorem mask_le (w n:Int):mask w n<=65535:=by
 cases h:okW w with
 | true=>
  have h1:=Zt3 n h
  obtain⟨k,rfl,h2,h3⟩:=okW_nat h
  have:=pow_le16 h3
  rw[Int.toNat_natCast] at h1
  omega
 | false=>unfold mask;rw[h];show(0:Int)<=65535;omega
theorem Z3h {w n:Int}(h:okW w=true)(h0:0<=n)(h1:n<2^w.toNat):mask w n=n:=by
 unfold mask;rw[h]
 exact Int.emod_eq_of_lt h0 h1
theorem Zqa (n:Int):(IntKind.i64.wrap n)%18446744073709551616=n%18446744073709551616:=by
 simp[IntKind.wrap,IntKind.bits,IntKind.signed];omega
theorem mask_wrap (w n:Int):mask w (IntKind.i64.wrap n)=mask w n:=by
 unfold mask
 cases h:okW w with
 | true=>
  obtain⟨k,rfl,_,h3⟩:=okW_nat h
  have hd:=Zsi h3
  rw[Int.toNat_natCast]
  show IntKind.i64.wrap n%2^k=n%2^k
  rw[<-Int.emod_emod_of_dvd _ hd,Zqa,Int.emod_emod_of_dvd _ hd]
 | false=>rfl
theorem and_mask {k:Nat}(n:Int)(h:k<=16):Z94 .and .i64 n ((2^k:Int)-1)=some (.int .i64 (n%2^k)):=by
 have e1:((2^k:Int)-1)=((2^k-1:Nat):Int):=by
  have:=Nat.two_pow_pos k
  have e:(2:Int)^k=((2^k:Nat):Int):=by simp
  rw[e];omega
 obtain⟨r,hr,he⟩:=Zt2 n k (by omega)
 rw[e1,he]
 have h2:(BitVec.ofInt 64 n&&&BitVec.ofInt 64 ((2^k-1:Nat):Int)).toNat=(n%2^k).toNat:=by
  have hp:2^k<=2^62:=Nat.pow_le_pow_right (by omega) (by omega)
  rw[BitVec.toNat_and]
  have:(BitVec.ofInt 64 ((2^k-1:Nat):Int)).toNat=2^k-1:=by
   rw[BitVec.ofInt_natCast,BitVec.toNat_ofNat]
   exact Nat.mod_eq_of_lt (by omega)
  rw[this,Nat.and_two_pow_sub_one_eq_mod,BitVec.toNat_ofInt]
  have hd:=Zsi h
  have e3:((n%(2^64:Nat)).toNat%2^k:Nat)=((n%(2^64:Nat))%(2^k:Int)).toNat:=by
   have h0:0<=n%(2^64:Nat):=Int.emod_nonneg _ (by omega)
   obtain⟨m,hm⟩:=Int.eq_ofNat_of_zero_le h0
   rw[hm]
   have e:(2:Int)^k=((2^k:Nat):Int):=by simp
   rw[e,Int.toNat_natCast,<-Int.natCast_emod,Int.toNat_natCast]
  rw[e3]
  congr 1
  exact Int.emod_emod_of_dvd _ hd
 have h3:Z94 .and .i64 n ((2^k-1:Nat):Int)=some (.int .i64 (IntKind.i64.wrap ((BitVec.ofInt 64 n&&&BitVec.ofInt 64 ((2^k-1:Nat):Int)).toNat:Nat))):=rfl
 rw[he] at h3
 rw[h3,h2]
 have h4:0<=n%2^k:=Int.emod_nonneg _ (by have:=pow_pos' k;omega)
 have h5:n%2^k<2^k:=Int.emod_lt_of_pos _ (pow_pos' k)
 have h6:=pow_le16 h
 rw[Int.toNat_of_nonneg h4,Zt (by omega) (by omega)]
theorem rem_mask (n:Int){s:Int}(h:0<s):((n.tmod s)+s).tmod s=n%s:=by
 have e:=Int.tmod_eq_emod (a:=n) (b:=s)
 have h0:0<=n%s:=Int.emod_nonneg _ (by omega)
 have hs:(s.natAbs:Int)=s:=by omega
 have h2:0<=n.tmod s+s:=by
  rw[e];split<;>omega
 rw[Int.tmod_eq_emod_of_nonneg h2,Int.add_emod_right,e]
 split
 ·simp
 ·rw[hs,Int.sub_emod,Int.emod_self,Int.sub_zero,Int.emod_emod,Int.emod_emod]
theorem Y1h {n:Int}{k:Nat}(h0:0<=n)(h1:n<2^k):∃ m:Nat,n=m/\m<2^k:=by
 obtain⟨m,rfl⟩:=Int.eq_ofNat_of_zero_le h0
 refine⟨m,rfl,?_⟩
 have e:(2:Int)^k=((2^k:Nat):Int):=by simp
 rw[e] at h1;omega
theorem Zrh {m:Nat}(h:m<65536):(BitVec.ofInt 64 (m:Int)).toNat=m:=by
 rw[BitVec.ofInt_natCast,BitVec.toNat_ofNat]
 exact Nat.mod_eq_of_lt (by omega)
theorem Zvw {a b:Nat}(ha:a<65536)(hb:b<65536):iand a b=((a&&&b:Nat):Int):=by
 unfold iand
 rw[BitVec.toNat_and,Zrh ha,Zrh hb]
 have:a&&&b<=a:=Nat.and_le_left
 exact Zt (by omega) (by omega)
theorem Zyz {a b:Nat}(ha:a<65536)(hb:b<65536):ior a b=((a ||| b:Nat):Int):=by
 unfold ior
 rw[BitVec.toNat_or,Zrh ha,Zrh hb]
 have:a ||| b<2^16:=Nat.or_lt_two_pow ha hb
 exact Zt (by omega) (by omega)
theorem Zvt {a b:Nat}(ha:a<65536)(hb:b<65536):ixor a b=((a^^^b:Nat):Int):=by
 unfold ixor
 rw[BitVec.toNat_xor,Zrh ha,Zrh hb]
 have:a^^^b<2^16:=Nat.xor_lt_two_pow ha hb
 exact Zt (by omega) (by omega)
theorem Zif {m k:Nat}(h:m<2^k):(m:Int)<2^k:=by
 have e:(2:Int)^k=((2^k:Nat):Int):=by simp
 rw[e];omega
section
variable {w:Int} (h:okW w=true) (a b:Int)
include h
theorem Zyu:∃ x:Nat,mask w a=x/\x<2^w.toNat/\x<65536:=by
 obtain⟨x,h1,h2⟩:=Y1h (mask_nn w a) (Zt3 a h)
 have:=mask_le w a
 exact⟨x,h1,h2,by omega⟩
theorem mask_iand:mask w (iand (mask w a) (mask w b))=iand (mask w a) (mask w b):=by
 obtain⟨x,hx,x1,x2⟩:=Zyu h a
 obtain⟨y,hy,y1,y2⟩:=Zyu h b
 rw[hx,hy,Zvw x2 y2]
 exact Z3h h (by omega) (Zif (Nat.and_lt_two_pow _ y1))
theorem mask_ior:mask w (ior (mask w a) (mask w b))=ior (mask w a) (mask w b):=by
 obtain⟨x,hx,x1,x2⟩:=Zyu h a
 obtain⟨y,hy,y1,y2⟩:=Zyu h b
 rw[hx,hy,Zyz x2 y2]
 exact Z3h h (by omega) (Zif (Nat.or_lt_two_pow x1 y1))
theorem mask_ixor:mask w (ixor (mask w a) (mask w b))=ixor (mask w a) (mask w b):=by
 obtain⟨x,hx,x1,x2⟩:=Zyu h a
 obtain⟨y,hy,y1,y2⟩:=Zyu h b
 rw[hx,hy,Zvt x2 y2]
 exact Z3h h (by omega) (Zif (Nat.xor_lt_two_pow x1 y1))
theorem mask_zero:mask w 0=0:=Z3h h (by omega) (pow_pos' _)
theorem mask_shr (n:Nat):mask w ((mask w a).fdiv (2^n))=(mask w a).fdiv (2^n):=by
 obtain⟨x,hx,x1,x2⟩:=Zyu h a
 have e:(2:Int)^n=((2^n:Nat):Int):=by simp
 have:(mask w a).fdiv (2^n)=((x/2^n:Nat):Int):=by
  rw[hx,e,Int.fdiv_eq_ediv_of_nonneg _ (Int.natCast_nonneg _)];rfl
 rw[this]
 exact Z3h h (Int.natCast_nonneg _) (Zif (Nat.lt_of_le_of_lt (Nat.div_le_self _ _) x1))
theorem mask_truth (c:Bool):mask w (truth c)=truth c:=by
 obtain⟨h1,h2⟩:=okW_iff.1 h
 have h3:(1:Int)<2^w.toNat:=by
  have:2^1<=2^w.toNat:=Nat.pow_le_pow_right (by omega) (by omega)
  have e:(2:Int)^w.toNat=((2^w.toNat:Nat):Int):=by simp
  rw[e];omega
 cases c
 ·exact mask_zero h
 ·exact Z3h h (by decide) h3
end
end Go.Aug.Md
namespace Go.Aug.Mc
open Go Go.Aug
def TH:List Nat:=[245*1000+86,205*1000+86,208*1000+85,162*1000+85,157*1000+85,99999*1000+1000000,40*1000+1000000,13*1000+1000000,136*1000+1000000,81*1000+1000000,82*1000+1000000,83*1000+1000000,43*1000+1000000,92*1000+1000000,48*1000+1000000,49*1000+1000000,41*1000+1000000,99999*1000+1000000,160*1000+1000000,245*1000+1000000,15*1000+1000000,48*1000+92,81*1000+133,45*1000+84,84*1000+86,90*1000+45]
attribute [go_sem] TH Z82 Bool.beq_eq_decide_eq bne decide_true decide_false List.mem_cons List.not_mem_nil or_false false_or or_true true_or Nat.not_lt_zero Bool.true_and Bool.false_and Bool.and_true Bool.and_false Bool.or_true Bool.or_false Bool.true_or Bool.false_or
attribute [go_sem ↓] Zzn Zzo
def PR:List Nat:=[85,86,99999,99999,99999,12,99999,99999,99999,29,99999,57,98,99999,99999]
def trueG:List DV->Option (AV×List Blk)
 | []=>some (.d (.v (.bool true)),[])
 | _=>none
structure Sur (E:Env) (fn:FuncId->Option (Env->cT->cT)):Prop extends Fns fn where
 lv:∀ f k,k<1000000->E.lives f k=tbl f k
 br:∀ g,Z1b g E.br=Z1b g [160,161,211,212,136]
 tq:∀ f g,(Z1b g E.th || Z47 (E.lives f (Z8d g)))=Z1b (f*1000+g) TH
 pn:∀ g,Z1b g PR=false->E.prim g=none
 pe:E.prim 85=some (Z98 8 48)
 pi:E.prim 86=some (Z98 1 8)
 bk:E.back 275=some (8,true)
variable {E:Env} {fn:FuncId->Option (Env->cT->cT)}
theorem nbr (S:Sur E fn)(g:Nat):Z1b g E.br=Z1b g [160,161,211,212,136]:=S.br g
theorem thq (S:Sur E fn)(f g:Nat):(Z1b g E.th || Z47 (E.lives f (Z8d g)))=Z1b (f*1000+g) TH:=S.tq f g
theorem off (S:Sur E fn)(f k:Nat)(hk:k<1000000)(h:tbl f k=none):E.lives f k=none:=by rw[S.lv f k hk];exact h
theorem on (S:Sur E fn)(f k:Nat)(l:List Nat)(hk:k<1000000)(h:tbl f k=some l):E.lives f k=some l:=by rw[S.lv f k hk];exact h
theorem np (S:Sur E fn)(g:Nat)(h:Z1b g PR=false):E.prim g=none:=S.pn g h
theorem Z9d (S:Sur E fn){l:List Ent}(h:l.length<1073741824)(call:cT)(A:List Blk)(nb:Nat):Zb false E call 85 A nb (some ([rD l],[]))=some (.made (.d (rD l)) []):=
 Zgb S.pe rfl l (by unfold Zf;omega) A nb
theorem Z9c (S:Sur E fn){l:List Int}(h:l.length<1073741824)(call:cT)(A:List Blk)(nb:Nat):Zb false E call 86 A nb (some ([rD l],[]))=some (.made (.d (rD l)) []):=
 Zgb S.pi rfl l (by unfold Zf;omega) A nb
theorem Z6x (S:Sur E fn){l:List Ent}(h:l.length<1073741824)(call:cT)(A:List Blk)(nb:Nat)(us:List Nat):Zb true E call 85 A nb (some ([rD l],us))=some (.made (Z3m nb l) (Z30 l)):=
 Zlc S.pe rfl l (by unfold Zf;omega) A nb us
theorem Z0f (S:Sur E fn){l:List Int}(h:l.length<1073741824)(call:cT)(A:List Blk)(nb:Nat)(us:List Nat):Zb true E call 86 A nb (some ([rD l],us))=some (.made (Z3m nb l) (Z30 l)):=
 Zlc S.pi rfl l (by unfold Zf;omega) A nb us
theorem Zh5 {α:Type}{l:List α}{k:Nat}{e:α}(h:l[k]? =some e):l.take (k+1)=l.take k++[e]:=by rw[List.take_add_one,h];rfl
theorem Zbo {α:Type}{l:List α}{k:Nat}{e:α}(h:l[k]? =some e):(l.take (k+1)).reverse=e::(l.take k).reverse:=by rw[Zh5 h,List.reverse_append];rfl
theorem Z02 {α:Type}{l:List α}{k:Nat}{e:α}(h:l[k]? =some e):l.drop k=e::l.drop (k+1):=by
 obtain⟨hi,rfl⟩:=List.getElem?_eq_some_iff.1 h
 exact List.drop_eq_getElem_cons hi
theorem Yz {α:Type}{l:List α}{k:Nat}(h:k<l.length):∃ e,l[k]? =some e:=⟨l[k],List.getElem?_eq_getElem h⟩
theorem wi (k:Nat)(h:k<4611686018427387904):IntKind.i64.wrap ((k:Int)+1)=((k+1:Nat):Int):=by rw[Zt (by omega) (by omega)];omega
theorem wd (k:Nat)(h:k<4611686018427387904):IntKind.i64.wrap ((k:Int)-1)=(k:Int)-1:=by rw[Zt (by omega) (by omega)]
theorem Y7b (i:Int)(n:Nat):min (max i 0) (n:Int)=((min i.toNat n:Nat):Int):=by omega
theorem Ztx (l:List Ent)(i:Int):Md.cut l i=l.take (min i.toNat l.length):=by
 unfold Md.cut
 by_cases h:i.toNat<=l.length
 ·rw[Nat.min_eq_left h]
 ·rw[List.take_of_length_le (by omega),List.take_of_length_le (by omega)]
theorem Zl {α:Type}(l:List α):rep l 1=l:=by simp[rep]
theorem J3 {α:Type}(l:List α):rep l 0=[]:=rfl
theorem Zxr {g:FuncId}(h:E.prim g=some trueG)(call:cT)(A:List Blk)(nb:Nat):Zb false E call g A nb (some ([],[]))=some (.made (Q7 true) []):=by
 simp only[Zb,Z2c,h,trueG];rfl
theorem Z4d (l:List Ent)(n:Int):(Md.cut l n).length<=l.length:=by unfold Md.cut;simp;omega
open Nat renaming reduceLT -> zN0, reduceEqDiff -> zN1, reduceAdd -> zN2, reduceMul -> zN3, reduceLeDiff -> zN4
open Int renaming reduceEq -> zI0, reduceLT -> zI1, reduceLE -> zI2, reduceNeg -> zI3
set_option linter.unusedSimpArgs false
set_option linter.unusedVariables false
set_option maxHeartbeats 40000000
variable {E:Env} {fn:FuncId->Option (Env->cT->cT)}
section
variable (S:Sur E fn)
include S
theorem Y1c:E.lives 199 7=none:=off S 199 7 (by decide) rfl
theorem Y1b:E.lives 244 7=none:=off S 244 7 (by decide) rfl
theorem Y4y:E.lives 93 7=none:=off S 93 7 (by decide) rfl
theorem Zsw:E.lives 158 7=none:=off S 158 7 (by decide) rfl
theorem Zsz:E.lives 128 7=none:=off S 128 7 (by decide) rfl
theorem Zp6:E.lives 264 7=none:=off S 264 7 (by decide) rfl
theorem Zp7:E.lives 239 7=none:=off S 239 7 (by decide) rfl
theorem Zmw (dp:Nat)(w:Int):Zk E fn (dp+1) 229 [vi w] (vb (Md.okW w)):=by
 unfold Zk
 show Zh (evC E fn (dp+1) 229 [.d (vi w)] [])=_
 rw[Z2,S.Zkh,Z3,Zlx,Z6 _ _ _ _ _ _ _ _ rfl]
 by_cases h:1<=w<;>simp only[eG,go_sem,thq S,nbr S,zN0,zN1,zN2,zN3,zN4,zI0,zI1,zI2,zI3,reduceCtorEq,ge_iff_le,h,decide_true,decide_false,Bool.true_and,Bool.false_and,Md.okW]
theorem Z4s (dp:Nat)(w:Int)(A:List Blk)(nb:Nat)(us:List Nat):Zb false E (evC E fn (dp+1)) 229 A nb (some ([vi w],us))=some (.made (.d (vb (Md.okW w))) []):=
 Zk.flat (Zmw S dp w ) (np S 229 (by decide)) (rfl) A nb us
theorem Zet (dp:Nat)(c:Conf):Zk E fn (dp+1) 200 [Zv c] (vb (c.end_ !=0)):=by
 unfold Zk
 show Zh (evC E fn (dp+1) 200 [.d (Zv c)] [])=_
 rw[Z2,S.Zaq,Z3,Zba,Z6 _ _ _ _ _ _ _ _ rfl]
 simp only[eG,go_sem,thq S,nbr S,zN0,zN1,zN2,zN3,zN4,zI0,zI1,zI2,zI3,reduceCtorEq]
theorem Ym (dp:Nat)(c_r0 c_r1 c_r2 c_r3:Int)(c_mm c_st:List Int)(c_pc:Int)(c_bf:List Ent)(c_rb:List Int)(c_en:Int)(A:List Blk)(nb:Nat)(us:List Nat):Zb false E (evC E fn (dp+1)) 200 A nb (some ([.agg [vi c_r0,vi c_r1,vi c_r2,vi c_r3,rD c_mm,rD c_st,vi c_pc,rD c_bf,rD c_rb,vi c_en]],us))=some (.made (.d (vb ((⟨⟨⟨c_r0,c_r1,c_r2,c_r3⟩,c_mm,c_st,c_pc⟩,c_bf,c_rb,c_en⟩:Conf).end_ !=0))) []):=
 Zk.flat (Zet S dp (⟨⟨⟨c_r0,c_r1,c_r2,c_r3⟩,c_mm,c_st,c_pc⟩,c_bf,c_rb,c_en⟩:Conf) ) (np S 200 (by decide)) (rfl) A nb us
theorem Zjp (dp:Nat)(b:Bool):Zk E fn (dp+1) 199 [vb b] (vi (Md.truth b)):=by
 unfold Zk
 show Zh (evC E fn (dp+1) 199 [.d (vb b)] [])=_
 rw[Z2,S.Zg5,Z3,Zgy,Z6 _ _ _ _ _ _ _ _ rfl]
 cases b<;>simp only[eG,go_sem,thq S,nbr S,zN0,zN1,zN2,zN3,zN4,zI0,zI1,zI2,zI3,reduceCtorEq,Y1c S]<;>rfl
theorem Zrd (dp:Nat)(b:Bool)(A:List Blk)(nb:Nat)(us:List Nat):Zb false E (evC E fn (dp+1)) 199 A nb (some ([vb b],us))=some (.made (.d (vi (Md.truth b))) []):=
 Zk.flat (Zjp S dp b ) (np S 199 (by decide)) (rfl) A nb us
theorem Zek (dp:Nat)(b:Bool):Zk E fn (dp+1) 244 [vb b] (vi (Md.truth b)):=by
 unfold Zk
 show Zh (evC E fn (dp+1) 244 [.d (vb b)] [])=_
 rw[Z2,S.Zag,Z3,Zb0,Z6 _ _ _ _ _ _ _ _ rfl]
 cases b<;>simp only[eG,go_sem,thq S,nbr S,zN0,zN1,zN2,zN3,zN4,zI0,zI1,zI2,zI3,reduceCtorEq,Y1b S]<;>rfl
theorem Zlh (dp:Nat)(b:Bool)(A:List Blk)(nb:Nat)(us:List Nat):Zb false E (evC E fn (dp+1)) 244 A nb (some ([vb b],us))=some (.made (.d (vi (Md.truth b))) []):=
 Zk.flat (Zek S dp b ) (np S 244 (by decide)) (rfl) A nb us
theorem Zjm (dp:Nat)(b:Bool):Zk E fn (dp+1) 93 [vb b] (vi (Md.truth b)):=by
 unfold Zk
 show Zh (evC E fn (dp+1) 93 [.d (vb b)] [])=_
 rw[Z2,S.Zg0,Z3,Zgt,Z6 _ _ _ _ _ _ _ _ rfl]
 cases b<;>simp only[eG,go_sem,thq S,nbr S,zN0,zN1,zN2,zN3,zN4,zI0,zI1,zI2,zI3,reduceCtorEq,Y4y S]<;>rfl
theorem Zrb (dp:Nat)(b:Bool)(A:List Blk)(nb:Nat)(us:List Nat):Zb false E (evC E fn (dp+1)) 93 A nb (some ([vb b],us))=some (.made (.d (vi (Md.truth b))) []):=
 Zk.flat (Zjm S dp b ) (np S 93 (by decide)) (rfl) A nb us
theorem Zji (dp:Nat)(l:List Ent)(n:Int)(hl:l.length<1073741824):Zk E fn (dp+2) 156 [rD l,vi n] (rD (Md.cut l n)):=by
 unfold Zk
 show Zh (evC E fn (dp+1+1) 156 [.d (rD l),.d (vi n)] [])=_
 rw[Z2,S.Zfv,Z3,Zgo,Z6 _ _ _ _ _ _ _ _ rfl]
 have hc:=Z4d l n
 have h2:Z6j l.length none (some (aI (min (max n 0) l.length))) none=some (0,(min (max n 0) (l.length:Int)).toNat,l.length):=Z2w _ _ _ (by omega) (by omega)
 have h3:l.take (min (max n 0) (l.length:Int)).toNat=Md.cut l n:=by
  unfold Md.cut
  by_cases h:n.toNat<=l.length
  ·congr 1;omega
  ·rw[List.take_of_length_le (by omega),List.take_of_length_le (by omega)]
 simp only[eG,go_sem,thq S,nbr S,zN0,zN1,zN2,zN3,zN4,zI0,zI1,zI2,zI3,reduceCtorEq,h2,h3,Z9d S (show(Md.cut l n).length<1073741824 by omega),List.drop_zero,Nat.sub_zero]
theorem Z2n (dp:Nat)(l:List Ent)(n:Int)(hl:l.length<1073741824)(A:List Blk)(nb:Nat):Zb false E (evC E fn (dp+2)) 156 A nb (some ([rD l,vi n],[]))=some (.made (.d (rD (Md.cut l n))) []):=
 Zk.deep (Zji S dp l n hl) (np S 156 (by decide)) A nb
theorem Zmz (dp:Nat)(p:Prog)(pc:Int):Zk E fn (dp+1) 158 [Zn p,vi pc] (.agg (Cl.cells (Md.at_ p pc))):=by
 unfold Zk
 show Zh (evC E fn (dp+1) 158 [.d (Zn p),.d (vi pc)] [])=_
 rw[Z2,S.Zkk,Z3,Zm0,Z6 _ _ _ _ _ _ _ _ rfl]
 by_cases h:pc<0
 ·simp only[eG,go_sem,thq S,nbr S,zN0,zN1,zN2,zN3,zN4,zI0,zI1,zI2,zI3,reduceCtorEq,Zsw S,h,decide_true,Md.at_,show ¬0<=pc by omega,Md.faultI]
 ·obtain ⟨i, rfl⟩ := Int.eq_ofNat_of_zero_le (show 0 <= pc by omega)
  cases hx:p.ins[i]? with
  | none=>
   have hl:(i:Int)>=p.ins.length:=by have:=List.getElem?_eq_none_iff.1 hx;omega
   simp only[eG,go_sem,thq S,nbr S,zN0,zN1,zN2,zN3,zN4,zI0,zI1,zI2,zI3,reduceCtorEq,Zsw S,h,hl,decide_true,decide_false,Md.at_,Int.natCast_nonneg,Int.toNat_natCast,hx,Option.getD_none,Md.faultI]
  | some e=>
   have hl:¬(i:Int)>=p.ins.length:=by have:=(List.getElem?_eq_some_iff.1 hx).1;omega
   simp only[eG,go_sem,thq S,nbr S,zN0,zN1,zN2,zN3,zN4,zI0,zI1,zI2,zI3,reduceCtorEq,Zsw S,h,hl,decide_true,decide_false,Md.at_,Int.natCast_nonneg,Int.toNat_natCast,hx,Option.getD_some,Q4 hx]
theorem Z8 (dp:Nat)(p_w p_wn p_fu p_r0 p_r1 p_r2 p_r3:Int)(p_ms:List MemT)(p_ls:List Label)(p_is:List Ins)(pc:Int)(A:List Blk)(nb:Nat)(us:List Nat):Zb false E (evC E fn (dp+1)) 158 A nb (some ([.agg [vi p_w,vi p_wn,vi p_fu,vi p_r0,vi p_r1,vi p_r2,vi p_r3,rD p_ms,rD p_ls,rD p_is],vi pc],us))=some (.made (.d (.agg (Cl.cells (Md.at_ (⟨p_w,p_wn,p_fu,⟨p_r0,p_r1,p_r2,p_r3⟩,p_ms,p_ls,p_is⟩:Prog) pc)))) []):=
 Zk.flat (Zmz S dp (⟨p_w,p_wn,p_fu,⟨p_r0,p_r1,p_r2,p_r3⟩,p_ms,p_ls,p_is⟩:Prog) pc ) (np S 158 (by decide)) (rfl) A nb us
theorem Zs7 (dp:Nat)(p:Prog)(pc:Int):Zk E fn (dp+1) 128 [Zn p,vi pc] (.agg (Cl.cells (Md.at_ p pc))):=by
 unfold Zk
 show Zh (evC E fn (dp+1) 128 [.d (Zn p),.d (vi pc)] [])=_
 rw[Z2,S.Ztg,Z3,Zun,Z6 _ _ _ _ _ _ _ _ rfl]
 by_cases h:pc<0
 ·simp only[eG,go_sem,thq S,nbr S,zN0,zN1,zN2,zN3,zN4,zI0,zI1,zI2,zI3,reduceCtorEq,Zsz S,h,decide_true,Md.at_,show ¬0<=pc by omega,Md.faultI]
 ·obtain ⟨i, rfl⟩ := Int.eq_ofNat_of_zero_le (show 0 <= pc by omega)
  cases hx:p.ins[i]? with
  | none=>
   have hl:(i:Int)>=p.ins.length:=by have:=List.getElem?_eq_none_iff.1 hx;omega
   simp only[eG,go_sem,thq S,nbr S,zN0,zN1,zN2,zN3,zN4,zI0,zI1,zI2,zI3,reduceCtorEq,Zsz S,h,hl,decide_true,decide_false,Md.at_,Int.natCast_nonneg,Int.toNat_natCast,hx,Option.getD_none,Md.faultI]
  | some e=>
   have hl:¬(i:Int)>=p.ins.length:=by have:=(List.getElem?_eq_some_iff.1 hx).1;omega
   simp only[eG,go_sem,thq S,nbr S,zN0,zN1,zN2,zN3,zN4,zI0,zI1,zI2,zI3,reduceCtorEq,Zsz S,h,hl,decide_true,decide_false,Md.at_,Int.natCast_nonneg,Int.toNat_natCast,hx,Option.getD_some,Q4 hx]
theorem cA7 (dp:Nat)(p_w p_wn p_fu p_r0 p_r1 p_r2 p_r3:Int)(p_ms:List MemT)(p_ls:List Label)(p_is:List Ins)(pc:Int)(A:List Blk)(nb:Nat)(us:List Nat):Zb false E (evC E fn (dp+1)) 128 A nb (some ([.agg [vi p_w,vi p_wn,vi p_fu,vi p_r0,vi p_r1,vi p_r2,vi p_r3,rD p_ms,rD p_ls,rD p_is],vi pc],us))=some (.made (.d (.agg (Cl.cells (Md.at_ (⟨p_w,p_wn,p_fu,⟨p_r0,p_r1,p_r2,p_r3⟩,p_ms,p_ls,p_is⟩:Prog) pc)))) []):=
 Zk.flat (Zs7 S dp (⟨p_w,p_wn,p_fu,⟨p_r0,p_r1,p_r2,p_r3⟩,p_ms,p_ls,p_is⟩:Prog) pc ) (np S 128 (by decide)) (rfl) A nb us
theorem Zhi (dp:Nat)(x:Ins):Zk E fn (dp+1) 264 [.agg (Cl.cells x)] (.tup [vi (Md.dest x),vb (Md.destK x)]):=by
 unfold Zk
 show Zh (evC E fn (dp+1) 264 [.d (.agg (Cl.cells x))] [])=_
 rw[Z2,S.Zde,Z3,Ze8,Z6 _ _ _ _ _ _ _ _ rfl]
 by_cases h1:x.kind=1
 ·simp only[eG,go_sem,thq S,nbr S,zN0,zN1,zN2,zN3,zN4,zI0,zI1,zI2,zI3,reduceCtorEq,Zp6 S,h1,Md.dest,Md.destK]
 ·by_cases h2 : x.kind = 2
  ·simp only[eG,go_sem,thq S,nbr S,zN0,zN1,zN2,zN3,zN4,zI0,zI1,zI2,zI3,reduceCtorEq,Zp6 S,h2,Md.dest,Md.destK]
  ·by_cases h4 : x.kind = 4
   ·simp only[eG,go_sem,thq S,nbr S,zN0,zN1,zN2,zN3,zN4,zI0,zI1,zI2,zI3,reduceCtorEq,Zp6 S,h4,Md.dest,Md.destK]
   ·simp only[eG,go_sem,thq S,nbr S,zN0,zN1,zN2,zN3,zN4,zI0,zI1,zI2,zI3,reduceCtorEq,Zp6 S,h1,h2,h4,Md.dest,Md.destK]
theorem Z85 (dp:Nat)(x_k x_o x_d:Int)(x_ag:Bool)(x_an:Int)(x_bg:Bool)(x_bn:Int)(x_nm:ByteArray)(x_tg:Int)(A:List Blk)(nb:Nat)(us:List Nat):Zb false E (evC E fn (dp+1)) 264 A nb (some ([.agg [vi x_k,vi x_o,vi x_d,vb x_ag,vi x_an,vb x_bg,vi x_bn,vt x_nm,vi x_tg]],us))=some (.made (.d (.tup [vi (Md.dest (⟨x_k,x_o,x_d,⟨x_ag,x_an⟩,⟨x_bg,x_bn⟩,x_nm,x_tg⟩:Ins)),vb (Md.destK (⟨x_k,x_o,x_d,⟨x_ag,x_an⟩,⟨x_bg,x_bn⟩,x_nm,x_tg⟩:Ins))])) []):=
 Zk.flat (Zhi S dp (⟨x_k,x_o,x_d,⟨x_ag,x_an⟩,⟨x_bg,x_bn⟩,x_nm,x_tg⟩:Ins) ) (np S 264 (by decide)) (rfl) A nb us
theorem Zn8 (dp:Nat)(x:Ins):Zk E fn (dp+1) 239 [.agg (Cl.cells x)] (.tup [vi (Md.dest x),vb (Md.destK x)]):=by
 unfold Zk
 show Zh (evC E fn (dp+1) 239 [.d (.agg (Cl.cells x))] [])=_
 rw[Z2,S.Zkt,Z3,Zm9,Z6 _ _ _ _ _ _ _ _ rfl]
 by_cases h1:x.kind=1
 ·simp only[eG,go_sem,thq S,nbr S,zN0,zN1,zN2,zN3,zN4,zI0,zI1,zI2,zI3,reduceCtorEq,Zp7 S,h1,Md.dest,Md.destK]
 ·by_cases h2 : x.kind = 2
  ·simp only[eG,go_sem,thq S,nbr S,zN0,zN1,zN2,zN3,zN4,zI0,zI1,zI2,zI3,reduceCtorEq,Zp7 S,h2,Md.dest,Md.destK]
  ·by_cases h4 : x.kind = 4
   ·simp only[eG,go_sem,thq S,nbr S,zN0,zN1,zN2,zN3,zN4,zI0,zI1,zI2,zI3,reduceCtorEq,Zp7 S,h4,Md.dest,Md.destK]
   ·simp only[eG,go_sem,thq S,nbr S,zN0,zN1,zN2,zN3,zN4,zI0,zI1,zI2,zI3,reduceCtorEq,Zp7 S,h1,h2,h4,Md.dest,Md.destK]
theorem Z99 (dp:Nat)(x_k x_o x_d:Int)(x_ag:Bool)(x_an:Int)(x_bg:Bool)(x_bn:Int)(x_nm:ByteArray)(x_tg:Int)(A:List Blk)(nb:Nat)(us:List Nat):Zb false E (evC E fn (dp+1)) 239 A nb (some ([.agg [vi x_k,vi x_o,vi x_d,vb x_ag,vi x_an,vb x_bg,vi x_bn,vt x_nm,vi x_tg]],us))=some (.made (.d (.tup [vi (Md.dest (⟨x_k,x_o,x_d,⟨x_ag,x_an⟩,⟨x_bg,x_bn⟩,x_nm,x_tg⟩:Ins)),vb (Md.destK (⟨x_k,x_o,x_d,⟨x_ag,x_an⟩,⟨x_bg,x_bn⟩,x_nm,x_tg⟩:Ins))])) []):=
 Zk.flat (Zn8 S dp (⟨x_k,x_o,x_d,⟨x_ag,x_an⟩,⟨x_bg,x_bn⟩,x_nm,x_tg⟩:Ins) ) (np S 239 (by decide)) (rfl) A nb us
end
theorem Y2m (k:IntKind)(x y:Int):Ji .and (.d (.v (.int k x))) (.d (.v (.int k y)))=(Z94 .and k x y).map fun r=>.d (.v r):=Z9g _ _ _ _ (by simp) (by simp)
theorem Yy (x y:Int):Ji .and (.d (.v (.int .i64 x))) (.d (.v (.int .i64 y)))=some (aI (Md.iand x y)):=Y2m _ _ _
theorem Y2l (x y:Int):Ji .or (.d (.v (.int .i64 x))) (.d (.v (.int .i64 y)))=some (aI (Md.ior x y)):=by rw[Z9g _ _ _ _ (by simp) (by simp)];rfl
theorem Zxv (x y:Int):Ji .xor (.d (.v (.int .i64 x))) (.d (.v (.int .i64 y)))=some (aI (Md.ixor x y)):=by rw[Z9g _ _ _ _ (by simp) (by simp)];rfl
theorem Zop {k:Nat}(h:k<=16):IntKind.i64.wrap (1*2^min k 64)=2^k:=by
 have:=Md.pow_le16 h
 have:=Md.pow_pos' k
 rw[Nat.min_eq_left (by omega),Int.one_mul,Zt (by omega) (by omega)]
def Zcu (w op a b:Int):Int:=if b>=w then 0 else if op=6 then IntKind.i64.wrap (a*2^min b.toNat 64) else a.fdiv (2^min b.toNat 64)
theorem Zhx {w b:Int}(h:Md.okW w=true)(hb:¬b>=w):min b.toNat 64=b.toNat:=by
 have:=Md.okW_iff.1 h;omega
variable {E:Env} {fn:FuncId->Option (Env->cT->cT)}
section
variable (S:Sur E fn)
include S
theorem Zx8:E.lives 179 7=none:=off S 179 7 (by decide) rfl
theorem Zt0:E.lives 127 7=none:=off S 127 7 (by decide) rfl
theorem Zx6:E.lives 209 7=none:=off S 209 7 (by decide) rfl
theorem Y19:E.lives 75 9=none:=off S 75 9 (by decide) rfl
theorem Zst:E.lives 243 7=none/\E.lives 243 11=none:=⟨off S 243 7 (by decide) rfl,off S 243 11 (by decide) rfl⟩
theorem Zx7:E.lives 204 7=none/\E.lives 204 19=none/\E.lives 204 23=none/\E.lives 204 27=none/\E.lives 204 31=none/\E.lives 204 35=none/\E.lives 204 39=none/\E.lives 204 41=none/\E.lives 204 45=none/\E.lives 204 49=none/\E.lives 204 53=none:=⟨off S 204 7 (by decide) rfl,off S 204 19 (by decide) rfl,off S 204 23 (by decide) rfl,off S 204 27 (by decide) rfl,off S 204 31 (by decide) rfl,off S 204 35 (by decide) rfl,off S 204 39 (by decide) rfl,off S 204 41 (by decide) rfl,off S 204 45 (by decide) rfl,off S 204 49 (by decide) rfl,off S 204 53 (by decide) rfl⟩
theorem Zx9:E.lives 135 7=none/\E.lives 135 15=none/\E.lives 135 19=none/\E.lives 135 23=none/\E.lives 135 27=none/\E.lives 135 31=none/\E.lives 135 35=none/\E.lives 135 37=none/\E.lives 135 43=none/\E.lives 135 45=none/\E.lives 135 51=none/\E.lives 135 55=none/\E.lives 135 59=none:=⟨off S 135 7 (by decide) rfl,off S 135 15 (by decide) rfl,off S 135 19 (by decide) rfl,off S 135 23 (by decide) rfl,off S 135 27 (by decide) rfl,off S 135 31 (by decide) rfl,off S 135 35 (by decide) rfl,off S 135 37 (by decide) rfl,off S 135 43 (by decide) rfl,off S 135 45 (by decide) rfl,off S 135 51 (by decide) rfl,off S 135 55 (by decide) rfl,off S 135 59 (by decide) rfl⟩
theorem Zhc (dp:Nat)(w:Int):Zk E fn (dp+2) 179 [vi w] (vi (Md.size w)):=by
 unfold Zk
 show Zh (evC E fn (dp+1+1) 179 [.d (vi w)] [])=_
 rw[Z2,S.Zd7,Z3,Ze1,Z6 _ _ _ _ _ _ _ _ rfl]
 cases h:Md.okW w with
 | true=>
  obtain⟨k,rfl,h1,h2⟩:=Md.okW_nat h
  simp only[eG,go_sem,thq S,nbr S,zN0,zN1,zN2,zN3,zN4,zI0,zI1,zI2,zI3,reduceCtorEq,Zx8 S,Z4s S,h,Md.size,Zwj _ _ _ _ (Int.natCast_nonneg k),Int.toNat_natCast,IntKind.bits,Zop h2]
 | false=>
  simp only[eG,go_sem,thq S,nbr S,zN0,zN1,zN2,zN3,zN4,zI0,zI1,zI2,zI3,reduceCtorEq,Zx8 S,Z4s S,h,Md.size]
theorem Zo9 (dp:Nat)(w:Int)(A:List Blk)(nb:Nat)(us:List Nat):Zb false E (evC E fn (dp+2)) 179 A nb (some ([vi w],us))=some (.made (.d (vi (Md.size w))) []):=
 Zk.flat (Zhc S dp w ) (np S 179 (by decide)) (rfl) A nb us
theorem Znb (dp:Nat)(w:Int):Zk E fn (dp+1) 127 [vi w] (vi (Md.size w)):=by
 unfold Zk
 show Zh (evC E fn (dp+1) 127 [.d (vi w)] [])=_
 rw[Z2,S.Zkx,Z3,Zmd,Z6 _ _ _ _ _ _ _ _ rfl]
 by_cases h1:w<1
 ·simp only[eG,go_sem,thq S,nbr S,zN0,zN1,zN2,zN3,zN4,zI0,zI1,zI2,zI3,reduceCtorEq,Zt0 S,h1,Md.size,Md.okW,show ¬1<=w by omega]
 ·by_cases h2 : w > 16
  ·simp only[eG,go_sem,thq S,nbr S,zN0,zN1,zN2,zN3,zN4,zI0,zI1,zI2,zI3,reduceCtorEq,Zt0 S,h1,h2,Md.size,Md.okW,show ¬w<=16 by omega]
  ·obtain ⟨k, rfl⟩ := Int.eq_ofNat_of_zero_le (show 0 <= w by omega)
   have hw:IntKind.u64.wrap (k:Int)=k:=Z6r (by omega) (by omega)
   simp only[eG,go_sem,thq S,nbr S,zN0,zN1,zN2,zN3,zN4,zI0,zI1,zI2,zI3,reduceCtorEq,Zt0 S,h1,h2,hw,Md.size,Md.okW,show 1<=(k:Int) by omega,show(k:Int)<=16 by omega,Zwj _ _ _ _ (Int.natCast_nonneg k),Int.toNat_natCast,IntKind.bits,Zop (show k<=16 by omega)]
theorem Z9a (dp:Nat)(w:Int)(A:List Blk)(nb:Nat)(us:List Nat):Zb false E (evC E fn (dp+1)) 127 A nb (some ([vi w],us))=some (.made (.d (vi (Md.size w))) []):=
 Zk.flat (Znb S dp w ) (np S 127 (by decide)) (rfl) A nb us
theorem Zhd (dp:Nat)(w m:Int):Zk E fn (dp+3) 209 [vi w,vi m] (vi (Md.mask w m)):=by
 unfold Zk
 show Zh (evC E fn (dp+2+1) 209 [.d (vi w),.d (vi m)] [])=_
 rw[Z2,S.Zd8,Z3,Ze2,Z6 _ _ _ _ _ _ _ _ rfl]
 cases h:Md.okW w with
 | true=>
  obtain⟨k,rfl,h1,h2⟩:=Md.okW_nat h
  have hp:=Md.pow_pos' k
  have hq:=Md.pow_le16 h2
  have hw:IntKind.i64.wrap (2^k-1)=2^k-1:=Zt (by omega) (by omega)
  simp only[eG,go_sem,thq S,nbr S,zN0,zN1,zN2,zN3,zN4,zI0,zI1,zI2,zI3,reduceCtorEq,Zx6 S,Z4s S,Zo9 S,h,Md.size,Md.mask,Int.toNat_natCast,hw,Y2m,Md.and_mask m h2]
 | false=>
  simp only[eG,go_sem,thq S,nbr S,zN0,zN1,zN2,zN3,zN4,zI0,zI1,zI2,zI3,reduceCtorEq,Zx6 S,Z4s S,h,Md.mask]
theorem Z84 (dp:Nat)(w m:Int)(A:List Blk)(nb:Nat)(us:List Nat):Zb false E (evC E fn (dp+3)) 209 A nb (some ([vi w,vi m],us))=some (.made (.d (vi (Md.mask w m))) []):=
 Zk.flat (Zhd S dp w m ) (np S 209 (by decide)) (rfl) A nb us
theorem Znc (dp:Nat)(w m:Int):Zk E fn (dp+2) 75 [vi w,vi m] (vi (Md.mask w m)):=by
 unfold Zk
 show Zh (evC E fn (dp+1+1) 75 [.d (vi w),.d (vi m)] [])=_
 rw[Z2,S.Zky,Z3,Zme,Z6 _ _ _ _ _ _ _ _ rfl]
 cases h:Md.okW w with
 | true=>
  obtain⟨k,rfl,h1,h2⟩:=Md.okW_nat h
  have hp:=Md.pow_pos' k
  have hq:=Md.pow_le16 h2
  have hz:(2:Int)^k≠0:=by omega
  have hr:=Int.tmod_lt_of_pos m hp
  have hr2: -(2^k)<=m.tmod (2^k):=by
   rw[Int.tmod_eq_emod]
   have:=Int.emod_nonneg m hz
   have hs:(((2:Int)^k).natAbs:Int)=2^k:=by omega
   split<;>omega
  have hw:IntKind.i64.wrap (m.tmod (2^k)+2^k)=m.tmod (2^k)+2^k:=Zt (by omega) (by omega)
  simp only[eG,go_sem,thq S,nbr S,zN0,zN1,zN2,zN3,zN4,zI0,zI1,zI2,zI3,reduceCtorEq,Y19 S,Z9a S,h,Md.size,Md.mask,Int.toNat_natCast,hz,hw,Y08 _ _ _ hz,Md.rem_mask m hp]
 | false=>
  simp only[eG,go_sem,thq S,nbr S,zN0,zN1,zN2,zN3,zN4,zI0,zI1,zI2,zI3,reduceCtorEq,Y19 S,Z9a S,h,Md.size,Md.mask]
theorem Y7 (dp:Nat)(w m:Int)(A:List Blk)(nb:Nat)(us:List Nat):Zb false E (evC E fn (dp+2)) 75 A nb (some ([vi w,vi m],us))=some (.made (.d (vi (Md.mask w m))) []):=
 Zk.flat (Znc S dp w m ) (np S 75 (by decide)) (rfl) A nb us
theorem Zel (dp:Nat)(w op a b:Int)(hb:0<=b):Zk E fn (dp+1) 243 [vi w,vi op,vi a,vi b] (vi (Zcu w op a b)):=by
 unfold Zk
 show Zh (evC E fn (dp+1) 243 [.d (vi w),.d (vi op),.d (vi a),.d (vi b)] [])=_
 rw[Z2,S.Zah,Z3,Zb1,Z6 _ _ _ _ _ _ _ _ rfl]
 by_cases h1:b>=w
 ·simp only[eG,go_sem,thq S,nbr S,zN0,zN1,zN2,zN3,zN4,zI0,zI1,zI2,zI3,reduceCtorEq,Zst S,h1,Zcu]
 ·by_cases h2 : op = 6
  ·simp only[eG,go_sem,thq S,nbr S,zN0,zN1,zN2,zN3,zN4,zI0,zI1,zI2,zI3,reduceCtorEq,Zst S,h1,h2,Zcu,Zwj _ _ _ _ hb,IntKind.bits]
  ·simp only[eG,go_sem,thq S,nbr S,zN0,zN1,zN2,zN3,zN4,zI0,zI1,zI2,zI3,reduceCtorEq,Zst S,h1,h2,Zcu,Y07 _ _ _ _ hb,IntKind.bits]
theorem Zli (dp:Nat)(w op a b:Int)(hb:0<=b)(A:List Blk)(nb:Nat)(us:List Nat):Zb false E (evC E fn (dp+1)) 243 A nb (some ([vi w,vi op,vi a,vi b],us))=some (.made (.d (vi (Zcu w op a b))) []):=
 Zk.flat (Zel S dp w op a b hb) (np S 243 (by decide)) (rfl) A nb us
theorem Zmx (dp:Nat)(w op a b:Int):Zk E fn (dp+4) 204 [vi w,vi op,vi a,vi b] (.tup [vi (Md.wdo w op a b),vb (Md.wdoK w op a b)]):=by
 unfold Zk
 show Zh (evC E fn (dp+3+1) 204 [.d (vi w),.d (vi op),.d (vi a),.d (vi b)] [])=_
 rw[Z2,S.Zki,Z3,Zly,Z6 _ _ _ _ _ _ _ _ rfl]
 cases h:Md.okW w with
 | false=>simp only[eG,go_sem,thq S,nbr S,zN0,zN1,zN2,zN3,zN4,zI0,zI1,zI2,zI3,reduceCtorEq,Zx7 S,Z4s S,h,Md.wdo,Md.wdoK]
 | true=>
  have hb:=Md.mask_nn w b
  simp only[eG,go_sem,thq S,nbr S,zN0,zN1,zN2,zN3,zN4,zI0,zI1,zI2,zI3,reduceCtorEq,Zx7 S,Z4s S,Z84 S,Zli S _ _ _ _ _ hb,Zlh S,h,Md.wdo,Md.wdoK,Md.mask_wrap,Yy,Y2l,Zxv,Md.mask_iand h,Md.mask_ior h,Md.mask_ixor h,Md.mask_truth h]
  simp only[Bool.cond_decide,Md.opOf,Zcu,Md.shl,Md.shr]
  by_cases h1:op=1
  ·simp only[h1,if_true];rfl
  by_cases h2:op=2
  ·simp only[h1,h2,if_true,zI0,if_false];rfl
  by_cases h3:op=3
  ·simp only[h1,h2,h3,if_true,zI0,if_false];rfl
  by_cases h4:op=4
  ·simp only[h1,h2,h3,h4,if_true,zI0,if_false];rfl
  by_cases h5:op=5
  ·simp only[h1,h2,h3,h4,h5,if_true,zI0,if_false];rfl
  by_cases h6:op=6
  ·by_cases hm : Md.mask w b >= w
   ·simp only[h6,hm,if_true,zI0,if_false,Md.mask_zero h];rfl
   ·simp only[h6,hm,if_true,zI0,if_false,Md.mask_wrap,Zhx h hm];rfl
  by_cases h7:op=7
  ·by_cases hm : Md.mask w b >= w
   ·simp only[h7,hm,if_true,zI0,if_false,Md.mask_zero h];rfl
   ·simp only[h7,hm,if_true,zI0,if_false,Zhx h hm,Md.mask_shr h];rfl
  by_cases h8:op=8
  ·simp only[h8,if_true,zI0,if_false];rfl
  by_cases h9:op=9
  ·simp only[h9,if_true,zI0,if_false];rfl
  by_cases h10:op=10
  ·simp only[h10,if_true,zI0,if_false];rfl
  ·simp only[h1,h2,h3,h4,h5,h6,h7,h8,h9,h10,if_false];rfl
theorem Zdt (dp:Nat)(w op a b:Int)(A:List Blk)(nb:Nat)(us:List Nat):Zb false E (evC E fn (dp+4)) 204 A nb (some ([vi w,vi op,vi a,vi b],us))=some (.made (.d (.tup [vi (Md.wdo w op a b),vb (Md.wdoK w op a b)])) []):=
 Zk.flat (Zmx S dp w op a b ) (np S 204 (by decide)) (rfl) A nb us
theorem Zs8 (dp:Nat)(w op a b:Int):Zk E fn (dp+3) 135 [vi w,vi op,vi a,vi b] (.tup [vi (Md.wdo w op a b),vb (Md.wdoK w op a b)]):=by
 unfold Zk
 show Zh (evC E fn (dp+2+1) 135 [.d (vi w),.d (vi op),.d (vi a),.d (vi b)] [])=_
 rw[Z2,S.Zth,Z3,Zuo,Z6 _ _ _ _ _ _ _ _ rfl]
 cases h:Md.okW w with
 | false=>simp only[eG,go_sem,thq S,nbr S,zN0,zN1,zN2,zN3,zN4,zI0,zI1,zI2,zI3,reduceCtorEq,Zx9 S,Z9a S,h,Md.size,Md.wdo,Md.wdoK]
 | true=>
  have hb:=Md.mask_nn w b
  have hb2:=Md.mask_le w b
  have hu:IntKind.u64.wrap (Md.mask w b)=Md.mask w b:=Z6r (by omega) (by omega)
  have hz:(2:Int)^w.toNat≠0:=by have:=Md.pow_pos' w.toNat;omega
  simp only[eG,go_sem,thq S,nbr S,zN0,zN1,zN2,zN3,zN4,zI0,zI1,zI2,zI3,reduceCtorEq,Zx9 S,Z9a S,Y7 S,Zrd S,h,Md.size,hz,hu,Zwj _ _ _ _ hb,Y07 _ _ _ _ hb,IntKind.bits,Md.wdo,Md.wdoK,Md.mask_wrap,Yy,Y2l,Zxv]
  simp only[Bool.cond_decide,Md.opOf,Zcu,Md.shl,Md.shr]
  by_cases h1:op=1
  ·simp only[h1,if_true];rfl
  by_cases h2:op=2
  ·simp only[h1,h2,if_true,zI0,if_false];rfl
  by_cases h3:op=3
  ·simp only[h1,h2,h3,if_true,zI0,if_false];rfl
  by_cases h4:op=4
  ·simp only[h1,h2,h3,h4,if_true,zI0,if_false];rfl
  by_cases h5:op=5
  ·simp only[h1,h2,h3,h4,h5,if_true,zI0,if_false];rfl
  by_cases h6:op=6
  ·by_cases hm : Md.mask w b >= w
   ·simp only[h6,hm,if_true,zI0,if_false,Md.mask_zero h];rfl
   ·simp only[h6,hm,if_true,zI0,if_false,Md.mask_wrap,Zhx h hm];rfl
  by_cases h7:op=7
  ·by_cases hm : Md.mask w b >= w
   ·simp only[h7,hm,if_true,zI0,if_false,Md.mask_zero h];rfl
   ·simp only[h7,hm,if_true,zI0,if_false,Zhx h hm,Md.mask_shr h];rfl
  by_cases h8:op=8
  ·simp only[h8,if_true,zI0,if_false];rfl
  by_cases h9:op=9
  ·simp only[h9,if_true,zI0,if_false];rfl
  by_cases h10:op=10
  ·simp only[h10,if_true,zI0,if_false];rfl
  ·simp only[h1,h2,h3,h4,h5,h6,h7,h8,h9,h10,if_false];rfl
theorem Z12 (dp:Nat)(w op a b:Int)(A:List Blk)(nb:Nat)(us:List Nat):Zb false E (evC E fn (dp+3)) 135 A nb (some ([vi w,vi op,vi a,vi b],us))=some (.made (.d (.tup [vi (Md.wdo w op a b),vb (Md.wdoK w op a b)])) []):=
 Zk.flat (Zs8 S dp w op a b ) (np S 135 (by decide)) (rfl) A nb us
end
end Go.Aug.Mc
