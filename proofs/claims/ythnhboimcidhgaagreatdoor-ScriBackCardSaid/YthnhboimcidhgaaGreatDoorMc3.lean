import Derived.Test.YthnhboimcidhgaaGreatDoorEvTy
import Derived.Test.YthnhboimcidhgaaGreatDoorMcP
import Derived.Test.YthnhboimcidhgaaGreatDoorEvP
import Derived.Test.YthnhboimcidhgaaGreatDoorEvPc
namespace Go.Aug.Md
open Go Go.Aug
def Jj (w:Int):Bool:=decide (1<=w)&&decide (w<=16)
def size (w:Int):Int:=bif Jj w then 2^w.toNat else 0
def Y1 (w n:Int):Int:=bif Jj w then n%2^w.toNat else 0
def EN (b:Bool):Int:=bif b then 1 else 0
def YF (a b:Int):Int:=IntKind.i64.wrap (BitVec.ofInt 64 a&&&BitVec.ofInt 64 b).toNat
def PJ (a b:Int):Int:=IntKind.i64.wrap (BitVec.ofInt 64 a ||| BitVec.ofInt 64 b).toNat
def PH (a b:Int):Int:=IntKind.i64.wrap (BitVec.ofInt 64 a^^^BitVec.ofInt 64 b).toNat
def shl (w a b:Int):Int:=if b>=w then 0 else Y1 w (a*2^b.toNat)
def shr (w a b:Int):Int:=if b>=w then 0 else a.fdiv (2^b.toNat)
def Tj (w op a b:Int):Option Int:=
 if op=1 then some (Y1 w (a+b)) else if op=2 then some (Y1 w (a-b)) else if op=3 then some (YF a b) else if op=4 then some (PJ a b) else if op=5 then some (PH a b)
 else if op=6 then some (shl w a b) else if op=7 then some (shr w a b) else if op=8 then some (Y1 w (a*b)) else if op=9 then some (EN (decide (a<b))) else if op=10 then some (EN (a==b)) else none
def DJ (w op a b:Int):Int:=bif Jj w then(Tj w op (Y1 w a) (Y1 w b)).getD 0 else 0
def Mv (w op a b:Int):Bool:=Jj w&&(Tj w op (Y1 w a) (Y1 w b)).isSome
def ZW (n:Int):Int:=IntKind.i64.wrap n
def N8:Ins:=⟨12,0,0,⟨false,0⟩,⟨false,0⟩,⟨#[]⟩,0⟩
def at_ (p:Prog)(pc:Int):Ins:=if 0<=pc then(p.ins[pc.toNat]?).getD N8 else N8
def cut (l:List Ent)(n:Int):List Ent:=l.take n.toNat
def Bx (r:Regs)(i:Int):Int:=if i=0 then r.r0 else if i=1 then r.r1 else if i=2 then r.r2 else r.r3
def CD (r:Regs)(i n:Int):Regs:=if i=0 then { r with r0:=n } else if i=1 then { r with r1:=n } else if i=2 then { r with r2:=n } else if i=3 then { r with r3:=n } else r
def CZ (i:Ins):Bool:=i.kind==1 || i.kind==2 || i.kind==4
def Dv (i:Ins):Int:=bif CZ i then i.d else 0
def E5 (p:Prog)(r d:Int):List Ent->Int×Bool
 | []=>(d,true)
 | e::l=>bif CZ (at_ p e.pc)&&(at_ p e.pc).d==r then(bif e.done then(e.val,true) else(0,false)) else E5 p r d l
def reg (p:Prog)(of:Regs)(l:List Ent)(i r:Int):Int×Bool:=
 if r<0∨4<=r then(0,false) else E5 p r (Bx of r) (cut l i).reverse
def val (p:Prog)(of:Regs)(l:List Ent)(i:Int)(v:Val):Int×Bool:=bif v.reg then reg p of l i v.n else(Y1 p.w v.n,true)
def FM (p:Prog)(e:Ent):Bool:=(at_ p e.pc).kind==10
def NN (p:Prog)(l:List Ent)(i:Int):Bool:=(cut l i).any (FM p)
def HT (p:Prog)(addr:Int)(e:Ent):Bool:=(at_ p e.pc).kind==3&&e.known&&e.addr==addr
def QN (p:Prog)(mem:List Int)(addr:Int):List Ent->Int×Int×Bool
 | []=>if addr<0∨(mem.length:Int)<=addr then(0,-1,true) else((mem[addr.toNat]?).getD 0,-1,true)
 | e::l=>bif HT p addr e then(bif e.done then(e.val,(l.length:Int),true) else(0,0,false)) else QN p mem addr l
def load (p:Prog)(mem:List Int)(l:List Ent)(i addr:Int):Int×Int×Bool:=QN p mem addr (cut l i).reverse
def FN (p:Prog)(i addr:Int)(e:Ent):Bool:=(at_ p e.pc).kind==2&&e.known&&e.addr==addr&&decide (e.frm<i)
def JM (p:Prog)(i addr:Int):Nat->List Ent->Int×Bool
 | _,[]=>(0,false)
 | k,e::l=>bif FN p i addr e then((k:Int),true) else JM p i addr (k+1) l
def Cq (l:List Ent)(i:Int):Nat:=(min i l.length+1).toNat
def J9 (p:Prog)(l:List Ent)(i addr:Int):Int×Bool:=JM p i addr (Cq l i) (l.drop (Cq l i))
def QX (p:Prog):List Ent->List Int->Option (List Int)
 | [],out=>some out
 | e::l,out=>
  if(at_ p e.pc).kind=8 then(if 4<=out.length then none else QX p l (out++[ZW (e.pc+1)]))
  else if(at_ p e.pc).kind=9 then(if out.length=0 then none else QX p l out.dropLast)
  else QX p l out
def real (p:Prog)(st:List Int)(l:List Ent)(i:Int):Option (List Int):=QX p (cut l i) st
def push (l:List Int)(pc:Int):List Int:=(l++[pc]).drop (l.length-1)
end Go.Aug.Md
namespace Go.Aug.Md
open Go Go.Aug
theorem VM {w:Int}:Jj w=true↔1<=w/\w<=16:=by simp[Jj]
theorem Tk {w:Int}(h:Jj w=true):∃ k:Nat,w=k/\1<=k/\k<=16:=by
 obtain⟨h1,h2⟩:=VM.1 h
 exact⟨w.toNat,by omega,by omega,by omega⟩
theorem T5 {k:Nat}(h:k<=16):(2:Int)^k<=65536:=by
 have:(2:Nat)^k<=2^16:=Nat.pow_le_pow_right (by omega) h
 have e:(2:Int)^k=((2^k:Nat):Int):=by simp
 rw[e];omega
theorem Kw (k:Nat):(0:Int)<2^k:=by
 have:=Nat.two_pow_pos k
 have e:(2:Int)^k=((2^k:Nat):Int):=by simp
 rw[e];omega
theorem Z64 {k:Nat}(h:k<=16):(2:Int)^k ∣ 18446744073709551616:=by
 have:(2:Nat)^k ∣ 2^64:=Nat.pow_dvd_pow 2 (by omega)
 have e:(2:Int)^k=((2^k:Nat):Int):=by simp
 rw[e]
 exact Int.natCast_dvd_natCast.2 this
theorem PE (w n:Int):0<=Y1 w n:=by
 unfold Y1
 cases h:Jj w with
 | true=>exact Int.emod_nonneg _ (by have:=Kw w.toNat;omega)
 | false=>exact Int.le_refl _
theorem Z76 {w:Int}(n:Int)(h:Jj w=true):Y1 w n<2^w.toNat:=by
 unfold Y1;rw[h]
 exact Int.emod_lt_of_pos _ (Kw _)
theorem Z77 (w n:Int):Y1 w n<=65535:=by
 cases h:Jj w with
 | true=>
  have h1:=Z76 n h
  obtain⟨k,rfl,h2,h3⟩:=Tk h
  have:=T5 h3
  rw[Int.toNat_natCast] at h1
  omega
 | false=>unfold Y1;rw[h];show(0:Int)<=65535;omega
theorem RU {w n:Int}(h:Jj w=true)(h0:0<=n)(h1:n<2^w.toNat):Y1 w n=n:=by
 unfold Y1;rw[h]
 exact Int.emod_eq_of_lt h0 h1
theorem Zh2 (n:Int):(IntKind.i64.wrap n)%18446744073709551616=n%18446744073709551616:=by
 simp[IntKind.wrap,IntKind.bits,IntKind.signed];omega
theorem JR (w n:Int):Y1 w (IntKind.i64.wrap n)=Y1 w n:=by
 unfold Y1
 cases h:Jj w with
 | true=>
  obtain⟨k,rfl,_,h3⟩:=Tk h
  have hd:=Z64 h3
  rw[Int.toNat_natCast]
  show IntKind.i64.wrap n%2^k=n%2^k
  rw[<-Int.emod_emod_of_dvd _ hd,Zh2,Int.emod_emod_of_dvd _ hd]
 | false=>rfl
theorem Ztl {k:Nat}(n:Int)(h:k<=16):F4 .and .i64 n ((2^k:Int)-1)=some (.int .i64 (n%2^k)):=by
 have e1:((2^k:Int)-1)=((2^k-1:Nat):Int):=by
  have:=Nat.two_pow_pos k
  have e:(2:Int)^k=((2^k:Nat):Int):=by simp
  rw[e];omega
 obtain⟨r,hr,he⟩:=Z75 n k (by omega)
 rw[e1,he]
 have h2:(BitVec.ofInt 64 n&&&BitVec.ofInt 64 ((2^k-1:Nat):Int)).toNat=(n%2^k).toNat:=by
  have hp:2^k<=2^62:=Nat.pow_le_pow_right (by omega) (by omega)
  rw[BitVec.toNat_and]
  have:(BitVec.ofInt 64 ((2^k-1:Nat):Int)).toNat=2^k-1:=by
   rw[BitVec.ofInt_natCast,BitVec.toNat_ofNat]
   exact Nat.mod_eq_of_lt (by omega)
  rw[this,Nat.and_two_pow_sub_one_eq_mod,BitVec.toNat_ofInt]
  have hd:=Z64 h
  have e3:((n%(2^64:Nat)).toNat%2^k:Nat)=((n%(2^64:Nat))%(2^k:Int)).toNat:=by
   have h0:0<=n%(2^64:Nat):=Int.emod_nonneg _ (by omega)
   obtain⟨m,hm⟩:=Int.eq_ofNat_of_zero_le h0
   rw[hm]
   have e:(2:Int)^k=((2^k:Nat):Int):=by simp
   rw[e,Int.toNat_natCast,<-Int.natCast_emod,Int.toNat_natCast]
  rw[e3]
  congr 1
  exact Int.emod_emod_of_dvd _ hd
 have h3:F4 .and .i64 n ((2^k-1:Nat):Int)=some (.int .i64 (IntKind.i64.wrap ((BitVec.ofInt 64 n&&&BitVec.ofInt 64 ((2^k-1:Nat):Int)).toNat:Nat))):=rfl
 rw[he] at h3
 rw[h3,h2]
 have h4:0<=n%2^k:=Int.emod_nonneg _ (by have:=Kw k;omega)
 have h5:n%2^k<2^k:=Int.emod_lt_of_pos _ (Kw k)
 have h6:=T5 h
 rw[Int.toNat_of_nonneg h4,YH (by omega) (by omega)]
theorem Zik (n:Int){s:Int}(h:0<s):((n.tmod s)+s).tmod s=n%s:=by
 have e:=Int.tmod_eq_emod (a:=n) (b:=s)
 have h0:0<=n%s:=Int.emod_nonneg _ (by omega)
 have hs:(s.natAbs:Int)=s:=by omega
 have h2:0<=n.tmod s+s:=by
  rw[e];split<;>omega
 rw[Int.tmod_eq_emod_of_nonneg h2,Int.add_emod_right,e]
 split
 ·simp
 ·rw[hs,Int.sub_emod,Int.emod_self,Int.sub_zero,Int.emod_emod,Int.emod_emod]
theorem Znt {n:Int}{k:Nat}(h0:0<=n)(h1:n<2^k):∃ m:Nat,n=m/\m<2^k:=by
 obtain⟨m,rfl⟩:=Int.eq_ofNat_of_zero_le h0
 refine⟨m,rfl,?_⟩
 have e:(2:Int)^k=((2^k:Nat):Int):=by simp
 rw[e] at h1;omega
theorem Sq {m:Nat}(h:m<65536):(BitVec.ofInt 64 (m:Int)).toNat=m:=by
 rw[BitVec.ofInt_natCast,BitVec.toNat_ofNat]
 exact Nat.mod_eq_of_lt (by omega)
theorem Zph {a b:Nat}(ha:a<65536)(hb:b<65536):YF a b=((a&&&b:Nat):Int):=by
 unfold YF
 rw[BitVec.toNat_and,Sq ha,Sq hb]
 have:a&&&b<=a:=Nat.and_le_left
 exact YH (by omega) (by omega)
theorem Zpe {a b:Nat}(ha:a<65536)(hb:b<65536):PJ a b=((a ||| b:Nat):Int):=by
 unfold PJ
 rw[BitVec.toNat_or,Sq ha,Sq hb]
 have:a ||| b<2^16:=Nat.or_lt_two_pow ha hb
 exact YH (by omega) (by omega)
theorem Zp6 {a b:Nat}(ha:a<65536)(hb:b<65536):PH a b=((a^^^b:Nat):Int):=by
 unfold PH
 rw[BitVec.toNat_xor,Sq ha,Sq hb]
 have:a^^^b<2^16:=Nat.xor_lt_two_pow ha hb
 exact YH (by omega) (by omega)
theorem WZ {m k:Nat}(h:m<2^k):(m:Int)<2^k:=by
 have e:(2:Int)^k=((2^k:Nat):Int):=by simp
 rw[e];omega
section
variable {w:Int} (h:Jj w=true) (a b:Int)
include h
theorem PF:∃ x:Nat,Y1 w a=x/\x<2^w.toNat/\x<65536:=by
 obtain⟨x,h1,h2⟩:=Znt (PE w a) (Z76 a h)
 have:=Z77 w a
 exact⟨x,h1,h2,by omega⟩
theorem Z7a:Y1 w (YF (Y1 w a) (Y1 w b))=YF (Y1 w a) (Y1 w b):=by
 obtain⟨x,hx,x1,x2⟩:=PF h a
 obtain⟨y,hy,y1,y2⟩:=PF h b
 rw[hx,hy,Zph x2 y2]
 exact RU h (by omega) (WZ (Nat.and_lt_two_pow _ y1))
theorem Z79:Y1 w (PJ (Y1 w a) (Y1 w b))=PJ (Y1 w a) (Y1 w b):=by
 obtain⟨x,hx,x1,x2⟩:=PF h a
 obtain⟨y,hy,y1,y2⟩:=PF h b
 rw[hx,hy,Zpe x2 y2]
 exact RU h (by omega) (WZ (Nat.or_lt_two_pow x1 y1))
theorem Z78:Y1 w (PH (Y1 w a) (Y1 w b))=PH (Y1 w a) (Y1 w b):=by
 obtain⟨x,hx,x1,x2⟩:=PF h a
 obtain⟨y,hy,y1,y2⟩:=PF h b
 rw[hx,hy,Zp6 x2 y2]
 exact RU h (by omega) (WZ (Nat.xor_lt_two_pow x1 y1))
theorem TE:Y1 w 0=0:=RU h (by omega) (Kw _)
theorem Z1d (n:Nat):Y1 w ((Y1 w a).fdiv (2^n))=(Y1 w a).fdiv (2^n):=by
 obtain⟨x,hx,x1,x2⟩:=PF h a
 have e:(2:Int)^n=((2^n:Nat):Int):=by simp
 have:(Y1 w a).fdiv (2^n)=((x/2^n:Nat):Int):=by
  rw[hx,e,Int.fdiv_eq_ediv_of_nonneg _ (Int.natCast_nonneg _)];rfl
 rw[this]
 exact RU h (Int.natCast_nonneg _) (WZ (Nat.lt_of_le_of_lt (Nat.div_le_self _ _) x1))
theorem Zo4 (c:Bool):Y1 w (EN c)=EN c:=by
 obtain⟨h1,h2⟩:=VM.1 h
 have h3:(1:Int)<2^w.toNat:=by
  have:2^1<=2^w.toNat:=Nat.pow_le_pow_right (by omega) (by omega)
  have e:(2:Int)^w.toNat=((2^w.toNat:Nat):Int):=by simp
  rw[e];omega
 cases c
 ·exact TE h
 ·exact RU h (by decide) h3
end
end Go.Aug.Md
namespace Go.Aug.Mc
open Go Go.Aug
def TH:List Nat:=[245*1000+86,205*1000+86,208*1000+85,162*1000+85,157*1000+85,99999*1000+1000000,40*1000+1000000,13*1000+1000000,136*1000+1000000,81*1000+1000000,82*1000+1000000,83*1000+1000000,43*1000+1000000,92*1000+1000000,48*1000+1000000,49*1000+1000000,41*1000+1000000,99999*1000+1000000,160*1000+1000000,245*1000+1000000,15*1000+1000000,48*1000+92,81*1000+133,45*1000+84,84*1000+86,90*1000+45]
attribute [go_sem] TH PP Bool.beq_eq_decide_eq bne decide_true decide_false List.mem_cons List.not_mem_nil or_false false_or or_true true_or Nat.not_lt_zero Bool.true_and Bool.false_and Bool.and_true Bool.and_false Bool.or_true Bool.or_false Bool.true_or Bool.false_or
attribute [go_sem ↓] Zqu Zqv
def PR:List Nat:=[85,86,99999,99999,99999,12,99999,99999,99999,29,99999,57,98,99999,99999]
def NW:List DV->Option (AV×List Blk)
 | []=>some (.d (.v (.bool true)),[])
 | _=>none
structure Sur (E:Env) (fn:FuncId->Option (Env->cT->cT)):Prop extends Fns fn where
 lv:∀ f k,k<1000000->E.lives f k=SN f k
 br:∀ g,Y8 g E.br=Y8 g [160,161,211,212,136]
 tq:∀ f g,(Y8 g E.th || HS (E.lives f (EP g)))=Y8 (f*1000+g) TH
 pn:∀ g,Y8 g PR=false->E.prim g=none
 pe:E.prim 85=some (KW 8 48)
 pi:E.prim 86=some (KW 1 8)
 bk:E.back 275=some (8,true)
variable {E:Env} {fn:FuncId->Option (Env->cT->cT)}
theorem Z2 (S:Sur E fn)(g:Nat):Y8 g E.br=Y8 g [160,161,211,212,136]:=S.br g
theorem Z3 (S:Sur E fn)(f g:Nat):(Y8 g E.th || HS (E.lives f (EP g)))=Y8 (f*1000+g) TH:=S.tq f g
theorem off (S:Sur E fn)(f k:Nat)(hk:k<1000000)(h:SN f k=none):E.lives f k=none:=by rw[S.lv f k hk];exact h
theorem on (S:Sur E fn)(f k:Nat)(l:List Nat)(hk:k<1000000)(h:SN f k=some l):E.lives f k=some l:=by rw[S.lv f k hk];exact h
theorem np (S:Sur E fn)(g:Nat)(h:Y8 g PR=false):E.prim g=none:=S.pn g h
theorem U9 (S:Sur E fn){l:List Ent}(h:l.length<1073741824)(call:cT)(A:List Blk)(nb:Nat):Zv false E call 85 A nb (some ([rD l],[]))=some (.made (.d (rD l)) []):=
 Zcr S.pe rfl l (by unfold Z5;omega) A nb
theorem U8 (S:Sur E fn){l:List Int}(h:l.length<1073741824)(call:cT)(A:List Blk)(nb:Nat):Zv false E call 86 A nb (some ([rD l],[]))=some (.made (.d (rD l)) []):=
 Zcr S.pi rfl l (by unfold Z5;omega) A nb
theorem RK (S:Sur E fn){l:List Ent}(h:l.length<1073741824)(call:cT)(A:List Blk)(nb:Nat)(us:List Nat):Zv true E call 85 A nb (some ([rD l],us))=some (.made (YN nb l) (Yz l)):=
 Zco S.pe rfl l (by unfold Z5;omega) A nb us
theorem E7 (S:Sur E fn){l:List Int}(h:l.length<1073741824)(call:cT)(A:List Blk)(nb:Nat)(us:List Nat):Zv true E call 86 A nb (some ([rD l],us))=some (.made (YN nb l) (Yz l)):=
 Zco S.pi rfl l (by unfold Z5;omega) A nb us
theorem XY {α:Type}{l:List α}{k:Nat}{e:α}(h:l[k]? =some e):l.take (k+1)=l.take k++[e]:=by rw[List.take_add_one,h];rfl
theorem V4 {α:Type}{l:List α}{k:Nat}{e:α}(h:l[k]? =some e):(l.take (k+1)).reverse=e::(l.take k).reverse:=by rw[XY h,List.reverse_append];rfl
theorem Aj {α:Type}{l:List α}{k:Nat}{e:α}(h:l[k]? =some e):l.drop k=e::l.drop (k+1):=by
 obtain⟨hi,rfl⟩:=List.getElem?_eq_some_iff.1 h
 exact List.drop_eq_getElem_cons hi
theorem YK {α:Type}{l:List α}{k:Nat}(h:k<l.length):∃ e,l[k]? =some e:=⟨l[k],List.getElem?_eq_getElem h⟩
theorem wi (k:Nat)(h:k<4611686018427387904):IntKind.i64.wrap ((k:Int)+1)=((k+1:Nat):Int):=by rw[YH (by omega) (by omega)];omega
theorem wd (k:Nat)(h:k<4611686018427387904):IntKind.i64.wrap ((k:Int)-1)=(k:Int)-1:=by rw[YH (by omega) (by omega)]
theorem Z71 (i:Int)(n:Nat):min (max i 0) (n:Int)=((min i.toNat n:Nat):Int):=by omega
theorem Zci (l:List Ent)(i:Int):Md.cut l i=l.take (min i.toNat l.length):=by
 unfold Md.cut
 by_cases h:i.toNat<=l.length
 ·rw[Nat.min_eq_left h]
 ·rw[List.take_of_length_le (by omega),List.take_of_length_le (by omega)]
theorem Zq {α:Type}(l:List α):rep l 1=l:=by simp[rep]
theorem YS {α:Type}(l:List α):rep l 0=[]:=rfl
theorem U2 {g:FuncId}(h:E.prim g=some NW)(call:cT)(A:List Blk)(nb:Nat):Zv false E call g A nb (some ([],[]))=some (.made (Yx true) []):=by
 simp only[Zv,Jk,h,NW];rfl
theorem K4 (l:List Ent)(n:Int):(Md.cut l n).length<=l.length:=by unfold Md.cut;simp;omega
open Nat renaming reduceLT -> zN0, reduceEqDiff -> zN1, reduceAdd -> zN2, reduceMul -> zN3, reduceLeDiff -> zN4
open Int renaming reduceEq -> zI0, reduceLT -> zI1, reduceLE -> zI2, reduceNeg -> zI3
set_option linter.unusedSimpArgs false
set_option linter.unusedVariables false
set_option maxHeartbeats 40000000
variable {E:Env} {fn:FuncId->Option (Env->cT->cT)}
section
variable (S:Sur E fn)
include S
theorem Zne:E.lives 199 7=none:=off S 199 7 (by decide) rfl
theorem Zna:E.lives 244 7=none:=off S 244 7 (by decide) rfl
theorem Zn9:E.lives 93 7=none:=off S 93 7 (by decide) rfl
theorem Z0y:E.lives 158 7=none:=off S 158 7 (by decide) rfl
theorem Z14:E.lives 128 7=none:=off S 128 7 (by decide) rfl
theorem W0:E.lives 264 7=none:=off S 264 7 (by decide) rfl
theorem W2:E.lives 239 7=none:=off S 239 7 (by decide) rfl
theorem Ziu (dp:Nat)(w:Int):Z6 E fn (dp+1) 229 [vi w] (vb (Md.Jj w)):=by
 unfold Z6
 show Z7 (Z4 E fn (dp+1) 229 [.d (vi w)] [])=_
 rw[ZD,S.Z8n,ZG,Ze1,ZC _ _ _ _ _ _ _ _ rfl]
 by_cases h:1<=w<;>simp only[eG,go_sem,Z3 S,Z2 S,zN0,zN1,zN2,zN3,zN4,zI0,zI1,zI2,zI3,reduceCtorEq,ge_iff_le,h,decide_true,decide_false,Bool.true_and,Bool.false_and,Md.Jj]
theorem S8 (dp:Nat)(w:Int)(A:List Blk)(nb:Nat)(us:List Nat):Zv false E (Z4 E fn (dp+1)) 229 A nb (some ([vi w],us))=some (.made (.d (vb (Md.Jj w))) []):=
 Z6.flat (Ziu S dp w ) (np S 229 (by decide)) (rfl) A nb us
theorem Zle (dp:Nat)(c:Conf):Z6 E fn (dp+1) 200 [ZS c] (vb (c.end_ !=0)):=by
 unfold Z6
 show Z7 (Z4 E fn (dp+1) 200 [.d (ZS c)] [])=_
 rw[ZD,S.Zbk,ZG,Zgx,ZC _ _ _ _ _ _ _ _ rfl]
 simp only[eG,go_sem,Z3 S,Z2 S,zN0,zN1,zN2,zN3,zN4,zI0,zI1,zI2,zI3,reduceCtorEq]
theorem EC (dp:Nat)(c_r0 c_r1 c_r2 c_r3:Int)(c_mm c_st:List Int)(c_pc:Int)(c_bf:List Ent)(c_rb:List Int)(c_en:Int)(A:List Blk)(nb:Nat)(us:List Nat):Zv false E (Z4 E fn (dp+1)) 200 A nb (some ([.agg [vi c_r0,vi c_r1,vi c_r2,vi c_r3,rD c_mm,rD c_st,vi c_pc,rD c_bf,rD c_rb,vi c_en]],us))=some (.made (.d (vb ((⟨⟨⟨c_r0,c_r1,c_r2,c_r3⟩,c_mm,c_st,c_pc⟩,c_bf,c_rb,c_en⟩:Conf).end_ !=0))) []):=
 Z6.flat (Zle S dp (⟨⟨⟨c_r0,c_r1,c_r2,c_r3⟩,c_mm,c_st,c_pc⟩,c_bf,c_rb,c_en⟩:Conf) ) (np S 200 (by decide)) (rfl) A nb us
theorem Zkl (dp:Nat)(b:Bool):Z6 E fn (dp+1) 199 [vb b] (vi (Md.EN b)):=by
 unfold Z6
 show Z7 (Z4 E fn (dp+1) 199 [.d (vb b)] [])=_
 rw[ZD,S.Zap,ZG,Zg2,ZC _ _ _ _ _ _ _ _ rfl]
 cases b<;>simp only[eG,go_sem,Z3 S,Z2 S,zN0,zN1,zN2,zN3,zN4,zI0,zI1,zI2,zI3,reduceCtorEq,Zne S]<;>rfl
theorem Zsh (dp:Nat)(b:Bool)(A:List Blk)(nb:Nat)(us:List Nat):Zv false E (Z4 E fn (dp+1)) 199 A nb (some ([vb b],us))=some (.made (.d (vi (Md.EN b))) []):=
 Z6.flat (Zkl S dp b ) (np S 199 (by decide)) (rfl) A nb us
theorem Zir (dp:Nat)(b:Bool):Z6 E fn (dp+1) 244 [vb b] (vi (Md.EN b)):=by
 unfold Z6
 show Z7 (Z4 E fn (dp+1) 244 [.d (vb b)] [])=_
 rw[ZD,S.Z8k,ZG,Zdy,ZC _ _ _ _ _ _ _ _ rfl]
 cases b<;>simp only[eG,go_sem,Z3 S,Z2 S,zN0,zN1,zN2,zN3,zN4,zI0,zI1,zI2,zI3,reduceCtorEq,Zna S]<;>rfl
theorem Zrv (dp:Nat)(b:Bool)(A:List Blk)(nb:Nat)(us:List Nat):Zv false E (Z4 E fn (dp+1)) 244 A nb (some ([vb b],us))=some (.made (.d (vi (Md.EN b))) []):=
 Z6.flat (Zir S dp b ) (np S 244 (by decide)) (rfl) A nb us
theorem Zjr (dp:Nat)(b:Bool):Z6 E fn (dp+1) 93 [vb b] (vi (Md.EN b)):=by
 unfold Z6
 show Z7 (Z4 E fn (dp+1) 93 [.d (vb b)] [])=_
 rw[ZD,S.Z9r,ZG,Zf4,ZC _ _ _ _ _ _ _ _ rfl]
 cases b<;>simp only[eG,go_sem,Z3 S,Z2 S,zN0,zN1,zN2,zN3,zN4,zI0,zI1,zI2,zI3,reduceCtorEq,Zn9 S]<;>rfl
theorem Zsa (dp:Nat)(b:Bool)(A:List Blk)(nb:Nat)(us:List Nat):Zv false E (Z4 E fn (dp+1)) 93 A nb (some ([vb b],us))=some (.made (.d (vi (Md.EN b))) []):=
 Z6.flat (Zjr S dp b ) (np S 93 (by decide)) (rfl) A nb us
theorem Zjg (dp:Nat)(l:List Ent)(n:Int)(hl:l.length<1073741824):Z6 E fn (dp+2) 156 [rD l,vi n] (rD (Md.cut l n)):=by
 unfold Z6
 show Z7 (Z4 E fn (dp+1+1) 156 [.d (rD l),.d (vi n)] [])=_
 rw[ZD,S.Z9e,ZG,Zes,ZC _ _ _ _ _ _ _ _ rfl]
 have hc:=K4 l n
 have h2:DF l.length none (some (aI (min (max n 0) l.length))) none=some (0,(min (max n 0) (l.length:Int)).toNat,l.length):=Hk _ _ _ (by omega) (by omega)
 have h3:l.take (min (max n 0) (l.length:Int)).toNat=Md.cut l n:=by
  unfold Md.cut
  by_cases h:n.toNat<=l.length
  ·congr 1;omega
  ·rw[List.take_of_length_le (by omega),List.take_of_length_le (by omega)]
 simp only[eG,go_sem,Z3 S,Z2 S,zN0,zN1,zN2,zN3,zN4,zI0,zI1,zI2,zI3,reduceCtorEq,h2,h3,U9 S (show(Md.cut l n).length<1073741824 by omega),List.drop_zero,Nat.sub_zero]
theorem PT (dp:Nat)(l:List Ent)(n:Int)(hl:l.length<1073741824)(A:List Blk)(nb:Nat):Zv false E (Z4 E fn (dp+2)) 156 A nb (some ([rD l,vi n],[]))=some (.made (.d (rD (Md.cut l n))) []):=
 Z6.deep (Zjg S dp l n hl) (np S 156 (by decide)) A nb
theorem Zj6 (dp:Nat)(p:Prog)(pc:Int):Z6 E fn (dp+1) 158 [Zw p,vi pc] (.agg (Cl.cells (Md.at_ p pc))):=by
 unfold Z6
 show Z7 (Z4 E fn (dp+1) 158 [.d (Zw p),.d (vi pc)] [])=_
 rw[ZD,S.Z93,ZG,Zeh,ZC _ _ _ _ _ _ _ _ rfl]
 by_cases h:pc<0
 ·simp only[eG,go_sem,Z3 S,Z2 S,zN0,zN1,zN2,zN3,zN4,zI0,zI1,zI2,zI3,reduceCtorEq,Z0y S,h,decide_true,Md.at_,show ¬0<=pc by omega,Md.N8]
 ·obtain ⟨i, rfl⟩ := Int.eq_ofNat_of_zero_le (show 0 <= pc by omega)
  cases hx:p.ins[i]? with
  | none=>
   have hl:(i:Int)>=p.ins.length:=by have:=List.getElem?_eq_none_iff.1 hx;omega
   simp only[eG,go_sem,Z3 S,Z2 S,zN0,zN1,zN2,zN3,zN4,zI0,zI1,zI2,zI3,reduceCtorEq,Z0y S,h,hl,decide_true,decide_false,Md.at_,Int.natCast_nonneg,Int.toNat_natCast,hx,Option.getD_none,Md.N8]
  | some e=>
   have hl:¬(i:Int)>=p.ins.length:=by have:=(List.getElem?_eq_some_iff.1 hx).1;omega
   simp only[eG,go_sem,Z3 S,Z2 S,zN0,zN1,zN2,zN3,zN4,zI0,zI1,zI2,zI3,reduceCtorEq,Z0y S,h,hl,decide_true,decide_false,Md.at_,Int.natCast_nonneg,Int.toNat_natCast,hx,Option.getD_some,Zx hx]
theorem Yj (dp:Nat)(p_w p_wn p_fu p_r0 p_r1 p_r2 p_r3:Int)(p_ms:List MemT)(p_ls:List Label)(p_is:List Ins)(pc:Int)(A:List Blk)(nb:Nat)(us:List Nat):Zv false E (Z4 E fn (dp+1)) 158 A nb (some ([.agg [vi p_w,vi p_wn,vi p_fu,vi p_r0,vi p_r1,vi p_r2,vi p_r3,rD p_ms,rD p_ls,rD p_is],vi pc],us))=some (.made (.d (.agg (Cl.cells (Md.at_ (⟨p_w,p_wn,p_fu,⟨p_r0,p_r1,p_r2,p_r3⟩,p_ms,p_ls,p_is⟩:Prog) pc)))) []):=
 Z6.flat (Zj6 S dp (⟨p_w,p_wn,p_fu,⟨p_r0,p_r1,p_r2,p_r3⟩,p_ms,p_ls,p_is⟩:Prog) pc ) (np S 158 (by decide)) (rfl) A nb us
theorem Zkj (dp:Nat)(p:Prog)(pc:Int):Z6 E fn (dp+1) 128 [Zw p,vi pc] (.agg (Cl.cells (Md.at_ p pc))):=by
 unfold Z6
 show Z7 (Z4 E fn (dp+1) 128 [.d (Zw p),.d (vi pc)] [])=_
 rw[ZD,S.Zan,ZG,Zg0,ZC _ _ _ _ _ _ _ _ rfl]
 by_cases h:pc<0
 ·simp only[eG,go_sem,Z3 S,Z2 S,zN0,zN1,zN2,zN3,zN4,zI0,zI1,zI2,zI3,reduceCtorEq,Z14 S,h,decide_true,Md.at_,show ¬0<=pc by omega,Md.N8]
 ·obtain ⟨i, rfl⟩ := Int.eq_ofNat_of_zero_le (show 0 <= pc by omega)
  cases hx:p.ins[i]? with
  | none=>
   have hl:(i:Int)>=p.ins.length:=by have:=List.getElem?_eq_none_iff.1 hx;omega
   simp only[eG,go_sem,Z3 S,Z2 S,zN0,zN1,zN2,zN3,zN4,zI0,zI1,zI2,zI3,reduceCtorEq,Z14 S,h,hl,decide_true,decide_false,Md.at_,Int.natCast_nonneg,Int.toNat_natCast,hx,Option.getD_none,Md.N8]
  | some e=>
   have hl:¬(i:Int)>=p.ins.length:=by have:=(List.getElem?_eq_some_iff.1 hx).1;omega
   simp only[eG,go_sem,Z3 S,Z2 S,zN0,zN1,zN2,zN3,zN4,zI0,zI1,zI2,zI3,reduceCtorEq,Z14 S,h,hl,decide_true,decide_false,Md.at_,Int.natCast_nonneg,Int.toNat_natCast,hx,Option.getD_some,Zx hx]
theorem ZU (dp:Nat)(p_w p_wn p_fu p_r0 p_r1 p_r2 p_r3:Int)(p_ms:List MemT)(p_ls:List Label)(p_is:List Ins)(pc:Int)(A:List Blk)(nb:Nat)(us:List Nat):Zv false E (Z4 E fn (dp+1)) 128 A nb (some ([.agg [vi p_w,vi p_wn,vi p_fu,vi p_r0,vi p_r1,vi p_r2,vi p_r3,rD p_ms,rD p_ls,rD p_is],vi pc],us))=some (.made (.d (.agg (Cl.cells (Md.at_ (⟨p_w,p_wn,p_fu,⟨p_r0,p_r1,p_r2,p_r3⟩,p_ms,p_ls,p_is⟩:Prog) pc)))) []):=
 Z6.flat (Zkj S dp (⟨p_w,p_wn,p_fu,⟨p_r0,p_r1,p_r2,p_r3⟩,p_ms,p_ls,p_is⟩:Prog) pc ) (np S 128 (by decide)) (rfl) A nb us
theorem Zjo (dp:Nat)(x:Ins):Z6 E fn (dp+1) 264 [.agg (Cl.cells x)] (.tup [vi (Md.Dv x),vb (Md.CZ x)]):=by
 unfold Z6
 show Z7 (Z4 E fn (dp+1) 264 [.d (.agg (Cl.cells x))] [])=_
 rw[ZD,S.Z9o,ZG,Zf1,ZC _ _ _ _ _ _ _ _ rfl]
 by_cases h1:x.kind=1
 ·simp only[eG,go_sem,Z3 S,Z2 S,zN0,zN1,zN2,zN3,zN4,zI0,zI1,zI2,zI3,reduceCtorEq,W0 S,h1,Md.Dv,Md.CZ]
 ·by_cases h2 : x.kind = 2
  ·simp only[eG,go_sem,Z3 S,Z2 S,zN0,zN1,zN2,zN3,zN4,zI0,zI1,zI2,zI3,reduceCtorEq,W0 S,h2,Md.Dv,Md.CZ]
  ·by_cases h4 : x.kind = 4
   ·simp only[eG,go_sem,Z3 S,Z2 S,zN0,zN1,zN2,zN3,zN4,zI0,zI1,zI2,zI3,reduceCtorEq,W0 S,h4,Md.Dv,Md.CZ]
   ·simp only[eG,go_sem,Z3 S,Z2 S,zN0,zN1,zN2,zN3,zN4,zI0,zI1,zI2,zI3,reduceCtorEq,W0 S,h1,h2,h4,Md.Dv,Md.CZ]
theorem Z2p (dp:Nat)(x_k x_o x_d:Int)(x_ag:Bool)(x_an:Int)(x_bg:Bool)(x_bn:Int)(x_nm:ByteArray)(x_tg:Int)(A:List Blk)(nb:Nat)(us:List Nat):Zv false E (Z4 E fn (dp+1)) 264 A nb (some ([.agg [vi x_k,vi x_o,vi x_d,vb x_ag,vi x_an,vb x_bg,vi x_bn,vt x_nm,vi x_tg]],us))=some (.made (.d (.tup [vi (Md.Dv (⟨x_k,x_o,x_d,⟨x_ag,x_an⟩,⟨x_bg,x_bn⟩,x_nm,x_tg⟩:Ins)),vb (Md.CZ (⟨x_k,x_o,x_d,⟨x_ag,x_an⟩,⟨x_bg,x_bn⟩,x_nm,x_tg⟩:Ins))])) []):=
 Z6.flat (Zjo S dp (⟨x_k,x_o,x_d,⟨x_ag,x_an⟩,⟨x_bg,x_bn⟩,x_nm,x_tg⟩:Ins) ) (np S 264 (by decide)) (rfl) A nb us
theorem Zk9 (dp:Nat)(x:Ins):Z6 E fn (dp+1) 239 [.agg (Cl.cells x)] (.tup [vi (Md.Dv x),vb (Md.CZ x)]):=by
 unfold Z6
 show Z7 (Z4 E fn (dp+1) 239 [.d (.agg (Cl.cells x))] [])=_
 rw[ZD,S.Za9,ZG,Zfm,ZC _ _ _ _ _ _ _ _ rfl]
 by_cases h1:x.kind=1
 ·simp only[eG,go_sem,Z3 S,Z2 S,zN0,zN1,zN2,zN3,zN4,zI0,zI1,zI2,zI3,reduceCtorEq,W2 S,h1,Md.Dv,Md.CZ]
 ·by_cases h2 : x.kind = 2
  ·simp only[eG,go_sem,Z3 S,Z2 S,zN0,zN1,zN2,zN3,zN4,zI0,zI1,zI2,zI3,reduceCtorEq,W2 S,h2,Md.Dv,Md.CZ]
  ·by_cases h4 : x.kind = 4
   ·simp only[eG,go_sem,Z3 S,Z2 S,zN0,zN1,zN2,zN3,zN4,zI0,zI1,zI2,zI3,reduceCtorEq,W2 S,h4,Md.Dv,Md.CZ]
   ·simp only[eG,go_sem,Z3 S,Z2 S,zN0,zN1,zN2,zN3,zN4,zI0,zI1,zI2,zI3,reduceCtorEq,W2 S,h1,h2,h4,Md.Dv,Md.CZ]
theorem X2 (dp:Nat)(x_k x_o x_d:Int)(x_ag:Bool)(x_an:Int)(x_bg:Bool)(x_bn:Int)(x_nm:ByteArray)(x_tg:Int)(A:List Blk)(nb:Nat)(us:List Nat):Zv false E (Z4 E fn (dp+1)) 239 A nb (some ([.agg [vi x_k,vi x_o,vi x_d,vb x_ag,vi x_an,vb x_bg,vi x_bn,vt x_nm,vi x_tg]],us))=some (.made (.d (.tup [vi (Md.Dv (⟨x_k,x_o,x_d,⟨x_ag,x_an⟩,⟨x_bg,x_bn⟩,x_nm,x_tg⟩:Ins)),vb (Md.CZ (⟨x_k,x_o,x_d,⟨x_ag,x_an⟩,⟨x_bg,x_bn⟩,x_nm,x_tg⟩:Ins))])) []):=
 Z6.flat (Zk9 S dp (⟨x_k,x_o,x_d,⟨x_ag,x_an⟩,⟨x_bg,x_bn⟩,x_nm,x_tg⟩:Ins) ) (np S 239 (by decide)) (rfl) A nb us
end
theorem Zdm (k:IntKind)(x y:Int):YT .and (.d (.v (.int k x))) (.d (.v (.int k y)))=(F4 .and k x y).map fun r=>.d (.v r):=F7 _ _ _ _ (by simp) (by simp)
theorem Q1 (x y:Int):YT .and (.d (.v (.int .i64 x))) (.d (.v (.int .i64 y)))=some (aI (Md.YF x y)):=Zdm _ _ _
theorem Zdl (x y:Int):YT .or (.d (.v (.int .i64 x))) (.d (.v (.int .i64 y)))=some (aI (Md.PJ x y)):=by rw[F7 _ _ _ _ (by simp) (by simp)];rfl
theorem Zdk (x y:Int):YT .xor (.d (.v (.int .i64 x))) (.d (.v (.int .i64 y)))=some (aI (Md.PH x y)):=by rw[F7 _ _ _ _ (by simp) (by simp)];rfl
theorem Z4u {k:Nat}(h:k<=16):IntKind.i64.wrap (1*2^min k 64)=2^k:=by
 have:=Md.T5 h
 have:=Md.Kw k
 rw[Nat.min_eq_left (by omega),Int.one_mul,YH (by omega) (by omega)]
def PA (w op a b:Int):Int:=if b>=w then 0 else if op=6 then IntKind.i64.wrap (a*2^min b.toNat 64) else a.fdiv (2^min b.toNat 64)
theorem Wk {w b:Int}(h:Md.Jj w=true)(hb:¬b>=w):min b.toNat 64=b.toNat:=by
 have:=Md.VM.1 h;omega
variable {E:Env} {fn:FuncId->Option (Env->cT->cT)}
section
variable (S:Sur E fn)
include S
theorem Z6s:E.lives 179 7=none:=off S 179 7 (by decide) rfl
theorem Z15:E.lives 127 7=none:=off S 127 7 (by decide) rfl
theorem Z6p:E.lives 209 7=none:=off S 209 7 (by decide) rfl
theorem Z6n:E.lives 75 9=none:=off S 75 9 (by decide) rfl
theorem Z0v:E.lives 243 7=none/\E.lives 243 11=none:=⟨off S 243 7 (by decide) rfl,off S 243 11 (by decide) rfl⟩
theorem Z6r:E.lives 204 7=none/\E.lives 204 19=none/\E.lives 204 23=none/\E.lives 204 27=none/\E.lives 204 31=none/\E.lives 204 35=none/\E.lives 204 39=none/\E.lives 204 41=none/\E.lives 204 45=none/\E.lives 204 49=none/\E.lives 204 53=none:=⟨off S 204 7 (by decide) rfl,off S 204 19 (by decide) rfl,off S 204 23 (by decide) rfl,off S 204 27 (by decide) rfl,off S 204 31 (by decide) rfl,off S 204 35 (by decide) rfl,off S 204 39 (by decide) rfl,off S 204 41 (by decide) rfl,off S 204 45 (by decide) rfl,off S 204 49 (by decide) rfl,off S 204 53 (by decide) rfl⟩
theorem Z6v:E.lives 135 7=none/\E.lives 135 15=none/\E.lives 135 19=none/\E.lives 135 23=none/\E.lives 135 27=none/\E.lives 135 31=none/\E.lives 135 35=none/\E.lives 135 37=none/\E.lives 135 43=none/\E.lives 135 45=none/\E.lives 135 51=none/\E.lives 135 55=none/\E.lives 135 59=none:=⟨off S 135 7 (by decide) rfl,off S 135 15 (by decide) rfl,off S 135 19 (by decide) rfl,off S 135 23 (by decide) rfl,off S 135 27 (by decide) rfl,off S 135 31 (by decide) rfl,off S 135 35 (by decide) rfl,off S 135 37 (by decide) rfl,off S 135 43 (by decide) rfl,off S 135 45 (by decide) rfl,off S 135 51 (by decide) rfl,off S 135 55 (by decide) rfl,off S 135 59 (by decide) rfl⟩
theorem Zit (dp:Nat)(w:Int):Z6 E fn (dp+2) 179 [vi w] (vi (Md.size w)):=by
 unfold Z6
 show Z7 (Z4 E fn (dp+1+1) 179 [.d (vi w)] [])=_
 rw[ZD,S.Z8m,ZG,Ze0,ZC _ _ _ _ _ _ _ _ rfl]
 cases h:Md.Jj w with
 | true=>
  obtain⟨k,rfl,h1,h2⟩:=Md.Tk h
  simp only[eG,go_sem,Z3 S,Z2 S,zN0,zN1,zN2,zN3,zN4,zI0,zI1,zI2,zI3,reduceCtorEq,Z6s S,S8 S,h,Md.size,Xq _ _ _ _ (Int.natCast_nonneg k),Int.toNat_natCast,IntKind.bits,Z4u h2]
 | false=>
  simp only[eG,go_sem,Z3 S,Z2 S,zN0,zN1,zN2,zN3,zN4,zI0,zI1,zI2,zI3,reduceCtorEq,Z6s S,S8 S,h,Md.size]
theorem Zrx (dp:Nat)(w:Int)(A:List Blk)(nb:Nat)(us:List Nat):Zv false E (Z4 E fn (dp+2)) 179 A nb (some ([vi w],us))=some (.made (.d (vi (Md.size w))) []):=
 Z6.flat (Zit S dp w ) (np S 179 (by decide)) (rfl) A nb us
theorem Zkm (dp:Nat)(w:Int):Z6 E fn (dp+1) 127 [vi w] (vi (Md.size w)):=by
 unfold Z6
 show Z7 (Z4 E fn (dp+1) 127 [.d (vi w)] [])=_
 rw[ZD,S.Zaq,ZG,Zg3,ZC _ _ _ _ _ _ _ _ rfl]
 by_cases h1:w<1
 ·simp only[eG,go_sem,Z3 S,Z2 S,zN0,zN1,zN2,zN3,zN4,zI0,zI1,zI2,zI3,reduceCtorEq,Z15 S,h1,Md.size,Md.Jj,show ¬1<=w by omega]
 ·by_cases h2 : w > 16
  ·simp only[eG,go_sem,Z3 S,Z2 S,zN0,zN1,zN2,zN3,zN4,zI0,zI1,zI2,zI3,reduceCtorEq,Z15 S,h1,h2,Md.size,Md.Jj,show ¬w<=16 by omega]
  ·obtain ⟨k, rfl⟩ := Int.eq_ofNat_of_zero_le (show 0 <= w by omega)
   have hw:IntKind.u64.wrap (k:Int)=k:=Rq (by omega) (by omega)
   simp only[eG,go_sem,Z3 S,Z2 S,zN0,zN1,zN2,zN3,zN4,zI0,zI1,zI2,zI3,reduceCtorEq,Z15 S,h1,h2,hw,Md.size,Md.Jj,show 1<=(k:Int) by omega,show(k:Int)<=16 by omega,Xq _ _ _ _ (Int.natCast_nonneg k),Int.toNat_natCast,IntKind.bits,Z4u (show k<=16 by omega)]
theorem X4 (dp:Nat)(w:Int)(A:List Blk)(nb:Nat)(us:List Nat):Zv false E (Z4 E fn (dp+1)) 127 A nb (some ([vi w],us))=some (.made (.d (vi (Md.size w))) []):=
 Z6.flat (Zkm S dp w ) (np S 127 (by decide)) (rfl) A nb us
theorem Ziv (dp:Nat)(w m:Int):Z6 E fn (dp+3) 209 [vi w,vi m] (vi (Md.Y1 w m)):=by
 unfold Z6
 show Z7 (Z4 E fn (dp+2+1) 209 [.d (vi w),.d (vi m)] [])=_
 rw[ZD,S.Z8o,ZG,Ze2,ZC _ _ _ _ _ _ _ _ rfl]
 cases h:Md.Jj w with
 | true=>
  obtain⟨k,rfl,h1,h2⟩:=Md.Tk h
  have hp:=Md.Kw k
  have hq:=Md.T5 h2
  have hw:IntKind.i64.wrap (2^k-1)=2^k-1:=YH (by omega) (by omega)
  simp only[eG,go_sem,Z3 S,Z2 S,zN0,zN1,zN2,zN3,zN4,zI0,zI1,zI2,zI3,reduceCtorEq,Z6p S,S8 S,Zrx S,h,Md.size,Md.Y1,Int.toNat_natCast,hw,Zdm,Md.Ztl m h2]
 | false=>
  simp only[eG,go_sem,Z3 S,Z2 S,zN0,zN1,zN2,zN3,zN4,zI0,zI1,zI2,zI3,reduceCtorEq,Z6p S,S8 S,h,Md.Y1]
theorem Z2m (dp:Nat)(w m:Int)(A:List Blk)(nb:Nat)(us:List Nat):Zv false E (Z4 E fn (dp+3)) 209 A nb (some ([vi w,vi m],us))=some (.made (.d (vi (Md.Y1 w m))) []):=
 Z6.flat (Ziv S dp w m ) (np S 209 (by decide)) (rfl) A nb us
theorem Zko (dp:Nat)(w m:Int):Z6 E fn (dp+2) 75 [vi w,vi m] (vi (Md.Y1 w m)):=by
 unfold Z6
 show Z7 (Z4 E fn (dp+1+1) 75 [.d (vi w),.d (vi m)] [])=_
 rw[ZD,S.Zas,ZG,Zg5,ZC _ _ _ _ _ _ _ _ rfl]
 cases h:Md.Jj w with
 | true=>
  obtain⟨k,rfl,h1,h2⟩:=Md.Tk h
  have hp:=Md.Kw k
  have hq:=Md.T5 h2
  have hz:(2:Int)^k≠0:=by omega
  have hr:=Int.tmod_lt_of_pos m hp
  have hr2: -(2^k)<=m.tmod (2^k):=by
   rw[Int.tmod_eq_emod]
   have:=Int.emod_nonneg m hz
   have hs:(((2:Int)^k).natAbs:Int)=2^k:=by omega
   split<;>omega
  have hw:IntKind.i64.wrap (m.tmod (2^k)+2^k)=m.tmod (2^k)+2^k:=YH (by omega) (by omega)
  simp only[eG,go_sem,Z3 S,Z2 S,zN0,zN1,zN2,zN3,zN4,zI0,zI1,zI2,zI3,reduceCtorEq,Z6n S,X4 S,h,Md.size,Md.Y1,Int.toNat_natCast,hz,hw,Xx _ _ _ hz,Md.Zik m hp]
 | false=>
  simp only[eG,go_sem,Z3 S,Z2 S,zN0,zN1,zN2,zN3,zN4,zI0,zI1,zI2,zI3,reduceCtorEq,Z6n S,X4 S,h,Md.size,Md.Y1]
theorem Aw (dp:Nat)(w m:Int)(A:List Blk)(nb:Nat)(us:List Nat):Zv false E (Z4 E fn (dp+2)) 75 A nb (some ([vi w,vi m],us))=some (.made (.d (vi (Md.Y1 w m))) []):=
 Z6.flat (Zko S dp w m ) (np S 75 (by decide)) (rfl) A nb us
theorem Zis (dp:Nat)(w op a b:Int)(hb:0<=b):Z6 E fn (dp+1) 243 [vi w,vi op,vi a,vi b] (vi (PA w op a b)):=by
 unfold Z6
 show Z7 (Z4 E fn (dp+1) 243 [.d (vi w),.d (vi op),.d (vi a),.d (vi b)] [])=_
 rw[ZD,S.Z8l,ZG,Zdz,ZC _ _ _ _ _ _ _ _ rfl]
 by_cases h1:b>=w
 ·simp only[eG,go_sem,Z3 S,Z2 S,zN0,zN1,zN2,zN3,zN4,zI0,zI1,zI2,zI3,reduceCtorEq,Z0v S,h1,PA]
 ·by_cases h2 : op = 6
  ·simp only[eG,go_sem,Z3 S,Z2 S,zN0,zN1,zN2,zN3,zN4,zI0,zI1,zI2,zI3,reduceCtorEq,Z0v S,h1,h2,PA,Xq _ _ _ _ hb,IntKind.bits]
  ·simp only[eG,go_sem,Z3 S,Z2 S,zN0,zN1,zN2,zN3,zN4,zI0,zI1,zI2,zI3,reduceCtorEq,Z0v S,h1,h2,PA,Z3f _ _ _ _ hb,IntKind.bits]
theorem Zrw (dp:Nat)(w op a b:Int)(hb:0<=b)(A:List Blk)(nb:Nat)(us:List Nat):Zv false E (Z4 E fn (dp+1)) 243 A nb (some ([vi w,vi op,vi a,vi b],us))=some (.made (.d (vi (PA w op a b))) []):=
 Z6.flat (Zis S dp w op a b hb) (np S 243 (by decide)) (rfl) A nb us
theorem Ziw (dp:Nat)(w op a b:Int):Z6 E fn (dp+4) 204 [vi w,vi op,vi a,vi b] (.tup [vi (Md.DJ w op a b),vb (Md.Mv w op a b)]):=by
 unfold Z6
 show Z7 (Z4 E fn (dp+3+1) 204 [.d (vi w),.d (vi op),.d (vi a),.d (vi b)] [])=_
 rw[ZD,S.Z8p,ZG,Ze3,ZC _ _ _ _ _ _ _ _ rfl]
 cases h:Md.Jj w with
 | false=>simp only[eG,go_sem,Z3 S,Z2 S,zN0,zN1,zN2,zN3,zN4,zI0,zI1,zI2,zI3,reduceCtorEq,Z6r S,S8 S,h,Md.DJ,Md.Mv]
 | true=>
  have hb:=Md.PE w b
  simp only[eG,go_sem,Z3 S,Z2 S,zN0,zN1,zN2,zN3,zN4,zI0,zI1,zI2,zI3,reduceCtorEq,Z6r S,S8 S,Z2m S,Zrw S _ _ _ _ _ hb,Zrv S,h,Md.DJ,Md.Mv,Md.JR,Q1,Zdl,Zdk,Md.Z7a h,Md.Z79 h,Md.Z78 h,Md.Zo4 h]
  simp only[Bool.cond_decide,Md.Tj,PA,Md.shl,Md.shr]
  by_cases h1:op=1
  ·simp only[h1,if_true];rfl
  by_cases h2:op=2
  ·simp only[h1,h2,if_true,zI0,if_false];rfl
  by_cases h3:op=3
  ·simp only[h1,h2,h3,if_true,zI0,if_false];rfl
  by_cases h4:op=4
  ·simp only[h1,h2,h3,h4,if_true,zI0,if_false];rfl
  by_cases h5:op=5
  ·simp only[h1,h2,h3,h4,h5,if_true,zI0,if_false];rfl
  by_cases h6:op=6
  ·by_cases hm : Md.Y1 w b >= w
   ·simp only[h6,hm,if_true,zI0,if_false,Md.TE h];rfl
   ·simp only[h6,hm,if_true,zI0,if_false,Md.JR,Wk h hm];rfl
  by_cases h7:op=7
  ·by_cases hm : Md.Y1 w b >= w
   ·simp only[h7,hm,if_true,zI0,if_false,Md.TE h];rfl
   ·simp only[h7,hm,if_true,zI0,if_false,Wk h hm,Md.Z1d h];rfl
  by_cases h8:op=8
  ·simp only[h8,if_true,zI0,if_false];rfl
  by_cases h9:op=9
  ·simp only[h9,if_true,zI0,if_false];rfl
  by_cases h10:op=10
  ·simp only[h10,if_true,zI0,if_false];rfl
  ·simp only[h1,h2,h3,h4,h5,h6,h7,h8,h9,h10,if_false];rfl
theorem Z2n (dp:Nat)(w op a b:Int)(A:List Blk)(nb:Nat)(us:List Nat):Zv false E (Z4 E fn (dp+4)) 204 A nb (some ([vi w,vi op,vi a,vi b],us))=some (.made (.d (.tup [vi (Md.DJ w op a b),vb (Md.Mv w op a b)])) []):=
 Z6.flat (Ziw S dp w op a b ) (np S 204 (by decide)) (rfl) A nb us
theorem Zkp (dp:Nat)(w op a b:Int):Z6 E fn (dp+3) 135 [vi w,vi op,vi a,vi b] (.tup [vi (Md.DJ w op a b),vb (Md.Mv w op a b)]):=by
 unfold Z6
 show Z7 (Z4 E fn (dp+2+1) 135 [.d (vi w),.d (vi op),.d (vi a),.d (vi b)] [])=_
 rw[ZD,S.Zat,ZG,Zg6,ZC _ _ _ _ _ _ _ _ rfl]
 cases h:Md.Jj w with
 | false=>simp only[eG,go_sem,Z3 S,Z2 S,zN0,zN1,zN2,zN3,zN4,zI0,zI1,zI2,zI3,reduceCtorEq,Z6v S,X4 S,h,Md.size,Md.DJ,Md.Mv]
 | true=>
  have hb:=Md.PE w b
  have hb2:=Md.Z77 w b
  have hu:IntKind.u64.wrap (Md.Y1 w b)=Md.Y1 w b:=Rq (by omega) (by omega)
  have hz:(2:Int)^w.toNat≠0:=by have:=Md.Kw w.toNat;omega
  simp only[eG,go_sem,Z3 S,Z2 S,zN0,zN1,zN2,zN3,zN4,zI0,zI1,zI2,zI3,reduceCtorEq,Z6v S,X4 S,Aw S,Zsh S,h,Md.size,hz,hu,Xq _ _ _ _ hb,Z3f _ _ _ _ hb,IntKind.bits,Md.DJ,Md.Mv,Md.JR,Q1,Zdl,Zdk]
  simp only[Bool.cond_decide,Md.Tj,PA,Md.shl,Md.shr]
  by_cases h1:op=1
  ·simp only[h1,if_true];rfl
  by_cases h2:op=2
  ·simp only[h1,h2,if_true,zI0,if_false];rfl
  by_cases h3:op=3
  ·simp only[h1,h2,h3,if_true,zI0,if_false];rfl
  by_cases h4:op=4
  ·simp only[h1,h2,h3,h4,if_true,zI0,if_false];rfl
  by_cases h5:op=5
  ·simp only[h1,h2,h3,h4,h5,if_true,zI0,if_false];rfl
  by_cases h6:op=6
  ·by_cases hm : Md.Y1 w b >= w
   ·simp only[h6,hm,if_true,zI0,if_false,Md.TE h];rfl
   ·simp only[h6,hm,if_true,zI0,if_false,Md.JR,Wk h hm];rfl
  by_cases h7:op=7
  ·by_cases hm : Md.Y1 w b >= w
   ·simp only[h7,hm,if_true,zI0,if_false,Md.TE h];rfl
   ·simp only[h7,hm,if_true,zI0,if_false,Wk h hm,Md.Z1d h];rfl
  by_cases h8:op=8
  ·simp only[h8,if_true,zI0,if_false];rfl
  by_cases h9:op=9
  ·simp only[h9,if_true,zI0,if_false];rfl
  by_cases h10:op=10
  ·simp only[h10,if_true,zI0,if_false];rfl
  ·simp only[h1,h2,h3,h4,h5,h6,h7,h8,h9,h10,if_false];rfl
theorem DD (dp:Nat)(w op a b:Int)(A:List Blk)(nb:Nat)(us:List Nat):Zv false E (Z4 E fn (dp+3)) 135 A nb (some ([vi w,vi op,vi a,vi b],us))=some (.made (.d (.tup [vi (Md.DJ w op a b),vb (Md.Mv w op a b)])) []):=
 Z6.flat (Zkp S dp w op a b ) (np S 135 (by decide)) (rfl) A nb us
end
section
variable (S:Sur E fn)
include S
theorem E8:E.lives 198 1=none/\E.lives 198 7=none/\E.lives 198 19=none/\E.lives 198 21=none:=⟨off S 198 1 (by decide) rfl,off S 198 7 (by decide) rfl,off S 198 19 (by decide) rfl,off S 198 21 (by decide) rfl⟩
theorem Zng:E.lives 132 7=none:=off S 132 7 (by decide) rfl
theorem MT:E.lives 197 1=none/\E.lives 197 13=none:=⟨off S 197 1 (by decide) rfl,off S 197 13 (by decide) rfl⟩
theorem FF:E.lives 131 1=none/\E.lives 131 13=none/\E.lives 131 15=none/\E.lives 131 21=none:=⟨off S 131 1 (by decide) rfl,off S 131 13 (by decide) rfl,off S 131 15 (by decide) rfl,off S 131 21 (by decide) rfl⟩
theorem Zo8 (dp:Nat)(p:Prog)(of:Regs)(l:List Ent)(r:Int)(hl:l.length<1073741824)(kx:Nat->K)(D:Int)
  (hx:∀ T,ZX .bot T 4=aI r->ZX .bot T 6=.ref 1 0 0->Z7 (kx 0 (mk .bot 62 T) [.cells ((Y3 p).map .d) 0 false,.cells ((CU of).map .d) 0 false])=some (.tup [vi D,vb true])):
  ∀(k fuel:Nat),k<=l.length->k<fuel->Z7 (R6 (Zj E 198) (Z4 E fn (dp+1)) (Z9 10 R6 (Zj E 198) (Z4 E fn (dp+1)) kx (ZY 0 [.tmp 10,.tmp 11]) fuel) kx (ZY 0 [.tmp 10,.tmp 11])
   (mk .bot 62 [(2,.d (rD l)),(4,aI r),(5,.ref 0 0 0),(6,.ref 1 0 0),(12,aI ((k:Int)-1))]) [.cells ((Y3 p).map .d) 0 false,.cells ((CU of).map .d) 0 false])=
   some (.tup [vi (Md.E5 p r D (l.take k).reverse).1,vb (Md.E5 p r D (l.take k).reverse).2]):=by
 intro k
 induction k with
 | zero=>
  intro fuel _ hf
  generalize Z9 10 R6 _ _ kx _ fuel=KK
  rw[R6]
  simp only[eG,go_sem,Z3 S,Z2 S,zN0,zN1,zN2,zN3,zN4,zI0,zI1,zI2,zI3,reduceCtorEq,E8 S,show ¬(((0:Nat):Int)-1>=0) by omega,List.take_zero,List.reverse_nil,Md.E5]
  exact hx _ rfl rfl
 | succ k ih=>
  intro fuel hk hf
  obtain⟨e,he⟩:=YK (show k<l.length by omega)
  obtain⟨fuel,rfl⟩:∃ m,fuel=m+1:=⟨fuel-1,by omega⟩
  rw[show(((k+1:Nat):Int)-1)=(k:Int) by omega,V4 he]
  generalize hK:Z9 10 R6 _ _ kx _ (fuel+1)=KK
  rw[R6]
  simp only[eG,go_sem,Z3 S,Z2 S,zN0,zN1,zN2,zN3,zN4,zI0,zI1,zI2,zI3,reduceCtorEq,E8 S,Zx he,ZU S,X2 S,Int.natCast_nonneg,ge_iff_le,wd k (by omega),Md.E5]
  cases h1:Md.CZ (Md.at_ p e.pc) with
  | false=>
   simp only[eG,go_sem,Z3 S,Z2 S,zN0,zN1,zN2,zN3,zN4,zI0,zI1,zI2,zI3,reduceCtorEq,E8 S,Zx he,ZU S,X2 S,Int.natCast_nonneg,ge_iff_le,wd k (by omega)]
   rw[<-hK,Z8 (on S _ _ [2,4,5,6,12] (by decide) rfl) rfl _ _ _ _ _ _ _ _ _ rfl]
   simp only[eG,go_sem,Z3 S,Z2 S,zN0,zN1,zN2,zN3,zN4,zI0,zI1,zI2,zI3,reduceCtorEq,E8 S]
   exact ih fuel (by omega) (by omega)
  | true=>
   by_cases h2:(Md.at_ p e.pc).d=r
   ·cases h3:e.done<;>simp only[eG,go_sem,Z3 S,Z2 S,zN0,zN1,zN2,zN3,zN4,zI0,zI1,zI2,zI3,reduceCtorEq,E8 S,Zx he,ZU S,X2 S,Int.natCast_nonneg,ge_iff_le,wd k (by omega),h2,h3,Md.Dv,h1]
   ·simp only [eG, go_sem, Z3 S, Z2 S, zN0, zN1, zN2, zN3, zN4, zI0, zI1, zI2, zI3, reduceCtorEq, E8 S, Zx he, ZU S, X2 S, Int.natCast_nonneg, ge_iff_le, wd k (by omega), h2, Md.Dv, h1]
    rw[<-hK,Z8 (on S _ _ [2,4,5,6,12] (by decide) rfl) rfl _ _ _ _ _ _ _ _ _ rfl]
    simp only[eG,go_sem,Z3 S,Z2 S,zN0,zN1,zN2,zN3,zN4,zI0,zI1,zI2,zI3,reduceCtorEq,E8 S]
    exact ih fuel (by omega) (by omega)
theorem Zjz (dp:Nat)(p:Prog)(of:Regs)(l:List Ent)(i r:Int)(hl:l.length<1073741824):Z6 E fn (dp+2) 198 [Zw p,.agg (CU of),rD l,vi i,vi r] (.tup [vi (Md.reg p of l i r).1,vb (Md.reg p of l i r).2]):=by
 unfold Z6
 show Z7 (Z4 E fn (dp+1+1) 198 [.d (Zw p),.d (.agg (CU of)),.d (rD l),.d (vi i),.d (vi r)] [])=_
 rw[ZD,S.Za0,ZG,Zfd,ZC _ _ _ _ _ _ _ _ rfl]
 by_cases h:r<0
 ·simp only[eG,go_sem,Z3 S,Z2 S,zN0,zN1,zN2,zN3,zN4,zI0,zI1,zI2,zI3,reduceCtorEq,E8 S,h,Md.reg]
 by_cases h2:r>3
 ·simp only[eG,go_sem,Z3 S,Z2 S,zN0,zN1,zN2,zN3,zN4,zI0,zI1,zI2,zI3,reduceCtorEq,E8 S,h,h2,Md.reg,show 4<=r by omega]
 ·have e:Md.reg p of l i r=Md.E5 p r (Md.Bx of r) (l.take (min i.toNat l.length)).reverse:=by
   unfold Md.reg;rw[if_neg (by omega),Zci]
  rw[e]
  simp only[eG,go_sem,Z3 S,Z2 S,zN0,zN1,zN2,zN3,zN4,zI0,zI1,zI2,zI3,reduceCtorEq,E8 S,h,h2,Z71,wd _ (show min i.toNat l.length<4611686018427387904 by omega)]
  rw[Y7,Z8 (on S _ _ [2,4,5,6,12] (by decide) rfl) rfl _ _ _ _ _ _ _ _ _ rfl]
  simp only[eG,go_sem,Z3 S,Z2 S,zN0,zN1,zN2,zN3,zN4,zI0,zI1,zI2,zI3,reduceCtorEq,E8 S]
  refine Zo8 S dp p of l r hl _ (Md.Bx of r) ?_ _ _ (Nat.min_le_right _ _) (by omega)
  intro T h4 h6
  obtain rfl | rfl | rfl | rfl:r=0∨r=1∨r=2∨r=3:=by omega
  ·simp only[eG,go_sem,Z3 S,Z2 S,zN0,zN1,zN2,zN3,zN4,zI0,zI1,zI2,zI3,reduceCtorEq,E8 S,h4,h6,zI2,zI1,Int.toNat_zero,Int.reduceToNat,Nat.zero_mul,Md.Bx];rfl
  ·simp only[eG,go_sem,Z3 S,Z2 S,zN0,zN1,zN2,zN3,zN4,zI0,zI1,zI2,zI3,reduceCtorEq,E8 S,h4,h6,zI2,zI1,Int.reduceToNat,Nat.one_mul,Md.Bx];rfl
  ·simp only[eG,go_sem,Z3 S,Z2 S,zN0,zN1,zN2,zN3,zN4,zI0,zI1,zI2,zI3,reduceCtorEq,E8 S,h4,h6,zI2,zI1,Int.reduceToNat,Md.Bx];rfl
  ·simp only[eG,go_sem,Z3 S,Z2 S,zN0,zN1,zN2,zN3,zN4,zI0,zI1,zI2,zI3,reduceCtorEq,E8 S,h4,h6,zI2,zI1,Int.reduceToNat,Md.Bx];rfl
theorem Zcz (dp:Nat)(p_w p_wn p_fu p_r0 p_r1 p_r2 p_r3:Int)(p_ms:List MemT)(p_ls:List Label)(p_is:List Ins)(of_r0 of_r1 of_r2 of_r3:Int)(l:List Ent)(i r:Int)(hl:l.length<1073741824)(A:List Blk)(nb:Nat)(us:List Nat):Zv false E (Z4 E fn (dp+2)) 198 A nb (some ([.agg [vi p_w,vi p_wn,vi p_fu,vi p_r0,vi p_r1,vi p_r2,vi p_r3,rD p_ms,rD p_ls,rD p_is],.agg [vi of_r0,vi of_r1,vi of_r2,vi of_r3],rD l,vi i,vi r],us))=some (.made (.d (.tup [vi (Md.reg (⟨p_w,p_wn,p_fu,⟨p_r0,p_r1,p_r2,p_r3⟩,p_ms,p_ls,p_is⟩:Prog) (⟨of_r0,of_r1,of_r2,of_r3⟩:Regs) l i r).1,vb (Md.reg (⟨p_w,p_wn,p_fu,⟨p_r0,p_r1,p_r2,p_r3⟩,p_ms,p_ls,p_is⟩:Prog) (⟨of_r0,of_r1,of_r2,of_r3⟩:Regs) l i r).2])) []):=
 Z6.flat (Zjz S dp (⟨p_w,p_wn,p_fu,⟨p_r0,p_r1,p_r2,p_r3⟩,p_ms,p_ls,p_is⟩:Prog) (⟨of_r0,of_r1,of_r2,of_r3⟩:Regs) l i r hl) (np S 198 (by decide)) (rfl) A nb us
theorem Zju (dp:Nat)(p:Prog)(of:Regs)(l:List Ent)(i:Int)(v:Val)(hl:l.length<1073741824):Z6 E fn (dp+3) 132 [Zw p,.agg (CU of),rD l,vi i,.agg (Cl.cells v)] (.tup [vi (Md.val p of l i v).1,vb (Md.val p of l i v).2]):=by
 unfold Z6
 show Z7 (Z4 E fn (dp+2+1) 132 [.d (Zw p),.d (.agg (CU of)),.d (rD l),.d (vi i),.d (.agg (Cl.cells v))] [])=_
 rw[ZD,S.Z9v,ZG,Zf8,ZC _ _ _ _ _ _ _ _ rfl]
 cases h:v.reg<;>simp only[eG,go_sem,Z3 S,Z2 S,zN0,zN1,zN2,zN3,zN4,zI0,zI1,zI2,zI3,reduceCtorEq,Zng S,h,Md.val,Zcz S,hl,Aw S]
theorem Z2q (dp:Nat)(p_w p_wn p_fu p_r0 p_r1 p_r2 p_r3:Int)(p_ms:List MemT)(p_ls:List Label)(p_is:List Ins)(of_r0 of_r1 of_r2 of_r3:Int)(l:List Ent)(i:Int)(v_g:Bool)(v_n:Int)(hl:l.length<1073741824)(A:List Blk)(nb:Nat)(us:List Nat):Zv false E (Z4 E fn (dp+3)) 132 A nb (some ([.agg [vi p_w,vi p_wn,vi p_fu,vi p_r0,vi p_r1,vi p_r2,vi p_r3,rD p_ms,rD p_ls,rD p_is],.agg [vi of_r0,vi of_r1,vi of_r2,vi of_r3],rD l,vi i,.agg [vb v_g,vi v_n]],us))=some (.made (.d (.tup [vi (Md.val (⟨p_w,p_wn,p_fu,⟨p_r0,p_r1,p_r2,p_r3⟩,p_ms,p_ls,p_is⟩:Prog) (⟨of_r0,of_r1,of_r2,of_r3⟩:Regs) l i (⟨v_g,v_n⟩:Val)).1,vb (Md.val (⟨p_w,p_wn,p_fu,⟨p_r0,p_r1,p_r2,p_r3⟩,p_ms,p_ls,p_is⟩:Prog) (⟨of_r0,of_r1,of_r2,of_r3⟩:Regs) l i (⟨v_g,v_n⟩:Val)).2])) []):=
 Z6.flat (Zju S dp (⟨p_w,p_wn,p_fu,⟨p_r0,p_r1,p_r2,p_r3⟩,p_ms,p_ls,p_is⟩:Prog) (⟨of_r0,of_r1,of_r2,of_r3⟩:Regs) l i (⟨v_g,v_n⟩:Val) hl) (np S 132 (by decide)) (rfl) A nb us
theorem Zoc (dp:Nat)(p:Prog)(l:List Ent)(i:Int)(hl:l.length<1073741824)(kx:Nat->K)
  (hx:∀ T,Z7 (kx 0 (mk .bot 28 T) [.cells ((Y3 p).map .d) 0 false])=some (vb false)):
  ∀(m k fuel:Nat),k+m=(Md.cut l i).length->m<=fuel->Z7 (R3 (Zj E 197) (Z4 E fn (dp+1)) (Z9 6 R3 (Zj E 197) (Z4 E fn (dp+1)) kx (ZY 0 [.tmp 6]) fuel) kx (ZY 0 [.tmp 6])
   (mk .bot 28 [(1,.d (rD l)),(2,aI i),(3,.ref 0 0 0),(7,aI k)]) [.cells ((Y3 p).map .d) 0 false])=
   some (vb (((Md.cut l i).drop k).any (Md.FM p))):=by
 intro m
 have hcl:(Md.cut l i).length=min i.toNat l.length:=by simp[Md.cut]
 induction m with
 | zero=>
  intro k fuel hk _
  generalize Z9 6 R3 _ _ kx _ fuel=KK
  rw[R3,List.drop_of_length_le (by omega)]
  by_cases h1:(k:Int)<i
  ·simp only [eG, go_sem, Z3 S, Z2 S, zN0, zN1, zN2, zN3, zN4, zI0, zI1, zI2, zI3, reduceCtorEq, MT S, h1, show ¬ (k : Int) < l.length by omega, List.any_nil]
   exact hx _
  ·simp only [eG, go_sem, Z3 S, Z2 S, zN0, zN1, zN2, zN3, zN4, zI0, zI1, zI2, zI3, reduceCtorEq, MT S, h1, List.any_nil]
   exact hx _
 | succ m ih=>
  intro k fuel hk hf
  obtain⟨e,he⟩:=YK (show k<l.length by omega)
  have hc:(Md.cut l i)[k]? =some e:=by unfold Md.cut;rw[List.getElem?_take,if_pos (by omega),he]
  obtain⟨fuel,rfl⟩:∃ m,fuel=m+1:=⟨fuel-1,by omega⟩
  generalize hK:Z9 6 R3 _ _ kx _ (fuel+1)=KK
  rw[R3,Aj hc,List.any_cons]
  have h1:(k:Int)<i:=by omega
  have h2:(k:Int)<l.length:=by omega
  by_cases h3:(Md.at_ p e.pc).kind=10
  ·simp only[eG,go_sem,Z3 S,Z2 S,zN0,zN1,zN2,zN3,zN4,zI0,zI1,zI2,zI3,reduceCtorEq,MT S,Zx he,ZU S,wi k (by omega),h1,h2,h3,Md.FM]
  ·simp only [eG, go_sem, Z3 S, Z2 S, zN0, zN1, zN2, zN3, zN4, zI0, zI1, zI2, zI3, reduceCtorEq, MT S, Zx he, ZU S, wi k (by omega), h1, h2, h3, Md.FM]
   rw[<-hK,Z8 (on S _ _ [1,2,3,7] (by decide) rfl) rfl _ _ _ _ _ _ _ _ _ rfl]
   simp only[eG,go_sem,Z3 S,Z2 S,zN0,zN1,zN2,zN3,zN4,zI0,zI1,zI2,zI3,reduceCtorEq,MT S,Zx he,ZU S,wi k (by omega),h1,h2]
   exact ih (k+1) fuel (by omega) (by omega)
theorem Zkd (dp:Nat)(p:Prog)(l:List Ent)(i:Int)(hl:l.length<1073741824):Z6 E fn (dp+2) 197 [Zw p,rD l,vi i] (vb (Md.NN p l i)):=by
 unfold Z6
 show Z7 (Z4 E fn (dp+1+1) 197 [.d (Zw p),.d (rD l),.d (vi i)] [])=_
 rw[ZD,S.Zad,ZG,Zfq,ZC _ _ _ _ _ _ _ _ rfl]
 simp only[eG,go_sem,Z3 S,Z2 S,zN0,zN1,zN2,zN3,zN4,zI0,zI1,zI2,zI3,reduceCtorEq,MT S]
 rw[Y7,Z8 (on S _ _ [1,2,3,7] (by decide) rfl) rfl _ _ _ _ _ _ _ _ _ rfl]
 simp only[eG,go_sem,Z3 S,Z2 S,zN0,zN1,zN2,zN3,zN4,zI0,zI1,zI2,zI3,reduceCtorEq,MT S]
 refine Zoc S dp p l i hl _ ?_ (Md.cut l i).length 0 _ (by omega) (by have:=K4 l i;omega)
 intro T
 simp only[eG,go_sem,Z3 S,Z2 S,zN0,zN1,zN2,zN3,zN4,zI0,zI1,zI2,zI3,reduceCtorEq,MT S]
theorem Zsf (dp:Nat)(p_w p_wn p_fu p_r0 p_r1 p_r2 p_r3:Int)(p_ms:List MemT)(p_ls:List Label)(p_is:List Ins)(l:List Ent)(i:Int)(hl:l.length<1073741824)(A:List Blk)(nb:Nat)(us:List Nat):Zv false E (Z4 E fn (dp+2)) 197 A nb (some ([.agg [vi p_w,vi p_wn,vi p_fu,vi p_r0,vi p_r1,vi p_r2,vi p_r3,rD p_ms,rD p_ls,rD p_is],rD l,vi i],us))=some (.made (.d (vb (Md.NN (⟨p_w,p_wn,p_fu,⟨p_r0,p_r1,p_r2,p_r3⟩,p_ms,p_ls,p_is⟩:Prog) l i))) []):=
 Z6.flat (Zkd S dp (⟨p_w,p_wn,p_fu,⟨p_r0,p_r1,p_r2,p_r3⟩,p_ms,p_ls,p_is⟩:Prog) l i hl) (np S 197 (by decide)) (rfl) A nb us
theorem Zo9 (dp:Nat)(p:Prog)(mem:List Int)(l:List Ent)(addr:Int)(hl:l.length<1073741824)(kx:Nat->K)
  (hx:∀ T,ZX .bot T 1=.d (rD mem)->ZX .bot T 4=aI addr->Z7 (kx 0 (mk .bot 73 T) [.cells ((Y3 p).map .d) 0 false])=some (.tup [vi (Md.QN p mem addr []).1,vi (Md.QN p mem addr []).2.1,vb (Md.QN p mem addr []).2.2])):
  ∀(k fuel:Nat),k<=l.length->k<fuel->Z7 (R1 (Zj E 131) (Z4 E fn (dp+1)) (Z9 6 R1 (Zj E 131) (Z4 E fn (dp+1)) kx (ZY 0 [.tmp 10,.tmp 11,.tmp 12]) fuel) kx (ZY 0 [.tmp 10,.tmp 11,.tmp 12])
   (mk .bot 73 [(1,.d (rD mem)),(2,.d (rD l)),(4,aI addr),(5,.ref 0 0 0),(13,aI ((k:Int)-1))]) [.cells ((Y3 p).map .d) 0 false])=
   some (.tup [vi (Md.QN p mem addr (l.take k).reverse).1,vi (Md.QN p mem addr (l.take k).reverse).2.1,vb (Md.QN p mem addr (l.take k).reverse).2.2]):=by
 intro k
 induction k with
 | zero=>
  intro fuel _ hf
  generalize Z9 6 R1 _ _ kx _ fuel=KK
  rw[R1]
  simp only[eG,go_sem,Z3 S,Z2 S,zN0,zN1,zN2,zN3,zN4,zI0,zI1,zI2,zI3,reduceCtorEq,FF S,show ¬(((0:Nat):Int)-1>=0) by omega,List.take_zero,List.reverse_nil]
  exact hx _ rfl rfl
 | succ k ih=>
  intro fuel hk hf
  obtain⟨e,he⟩:=YK (show k<l.length by omega)
  obtain⟨fuel,rfl⟩:∃ m,fuel=m+1:=⟨fuel-1,by omega⟩
  rw[show(((k+1:Nat):Int)-1)=(k:Int) by omega,V4 he]
  generalize hK:Z9 6 R1 _ _ kx _ (fuel+1)=KK
  rw[R1]
  have hlen:(l.take k).reverse.length=k:=by simp;omega
  by_cases h1:(Md.at_ p e.pc).kind=3
  ·cases h2 : e.known with
   | true=>
    by_cases h3:e.addr=addr
    ·cases h4:e.done<;>simp only[eG,go_sem,Z3 S,Z2 S,zN0,zN1,zN2,zN3,zN4,zI0,zI1,zI2,zI3,reduceCtorEq,FF S,Zx he,ZU S,Int.natCast_nonneg,ge_iff_le,wd k (by omega),h1,h2,h3,h4,Md.QN,Md.HT,hlen]
    ·simp only [eG, go_sem, Z3 S, Z2 S, zN0, zN1, zN2, zN3, zN4, zI0, zI1, zI2, zI3, reduceCtorEq, FF S, Zx he, ZU S, Int.natCast_nonneg, ge_iff_le, wd k (by omega), h1, h2, h3, Md.QN, Md.HT]
     rw[<-hK,Z8 (on S _ _ [1,2,4,5,13] (by decide) rfl) rfl _ _ _ _ _ _ _ _ _ rfl]
     simp only[eG,go_sem,Z3 S,Z2 S,zN0,zN1,zN2,zN3,zN4,zI0,zI1,zI2,zI3,reduceCtorEq,FF S,Zx he,ZU S,Int.natCast_nonneg,ge_iff_le,wd k (by omega)]
     exact ih fuel (by omega) (by omega)
   | false=>
    simp only[eG,go_sem,Z3 S,Z2 S,zN0,zN1,zN2,zN3,zN4,zI0,zI1,zI2,zI3,reduceCtorEq,FF S,Zx he,ZU S,Int.natCast_nonneg,ge_iff_le,wd k (by omega),h1,h2,Md.QN,Md.HT]
    rw[<-hK,Z8 (on S _ _ [1,2,4,5,13] (by decide) rfl) rfl _ _ _ _ _ _ _ _ _ rfl]
    simp only[eG,go_sem,Z3 S,Z2 S,zN0,zN1,zN2,zN3,zN4,zI0,zI1,zI2,zI3,reduceCtorEq,FF S,Zx he,ZU S,Int.natCast_nonneg,ge_iff_le,wd k (by omega)]
    exact ih fuel (by omega) (by omega)
  ·simp only [eG, go_sem, Z3 S, Z2 S, zN0, zN1, zN2, zN3, zN4, zI0, zI1, zI2, zI3, reduceCtorEq, FF S, Zx he, ZU S, Int.natCast_nonneg, ge_iff_le, wd k (by omega), h1, Md.QN, Md.HT]
   rw[<-hK,Z8 (on S _ _ [1,2,4,5,13] (by decide) rfl) rfl _ _ _ _ _ _ _ _ _ rfl]
   simp only[eG,go_sem,Z3 S,Z2 S,zN0,zN1,zN2,zN3,zN4,zI0,zI1,zI2,zI3,reduceCtorEq,FF S,Zx he,ZU S,Int.natCast_nonneg,ge_iff_le,wd k (by omega)]
   exact ih fuel (by omega) (by omega)
theorem Zk3 (dp:Nat)(p:Prog)(mem:List Int)(l:List Ent)(i addr:Int)(hl:l.length<1073741824):Z6 E fn (dp+2) 131 [Zw p,rD mem,rD l,vi i,vi addr] (.tup [vi (Md.load p mem l i addr).1,vi (Md.load p mem l i addr).2.1,vb (Md.load p mem l i addr).2.2]):=by
 unfold Z6
 show Z7 (Z4 E fn (dp+1+1) 131 [.d (Zw p),.d (rD mem),.d (rD l),.d (vi i),.d (vi addr)] [])=_
 rw[ZD,S.Za3,ZG,Zfg,ZC _ _ _ _ _ _ _ _ rfl]
 have e:Md.load p mem l i addr=Md.QN p mem addr (l.take (min i.toNat l.length)).reverse:=by unfold Md.load;rw[Zci]
 rw[e]
 simp only[eG,go_sem,Z3 S,Z2 S,zN0,zN1,zN2,zN3,zN4,zI0,zI1,zI2,zI3,reduceCtorEq,FF S,Z71,wd _ (show min i.toNat l.length<4611686018427387904 by omega)]
 rw[Y7,Z8 (on S _ _ [1,2,4,5,13] (by decide) rfl) rfl _ _ _ _ _ _ _ _ _ rfl]
 simp only[eG,go_sem,Z3 S,Z2 S,zN0,zN1,zN2,zN3,zN4,zI0,zI1,zI2,zI3,reduceCtorEq,FF S]
 refine Zo9 S dp p mem l addr hl _ ?_ _ _ (Nat.min_le_right _ _) (by omega)
 intro T h1 h4
 by_cases h:addr<0
 ·simp only[eG,go_sem,Z3 S,Z2 S,zN0,zN1,zN2,zN3,zN4,zI0,zI1,zI2,zI3,reduceCtorEq,FF S,h1,h4,h,Md.QN]
 ·by_cases h2 : (mem.length : Int) <= addr
  ·simp only[eG,go_sem,Z3 S,Z2 S,zN0,zN1,zN2,zN3,zN4,zI0,zI1,zI2,zI3,reduceCtorEq,FF S,h1,h4,h,ge_iff_le,h2,Md.QN]
  ·obtain ⟨e, he⟩ := YK (show addr.toNat < mem.length by omega)
   simp only[eG,go_sem,Z3 S,Z2 S,zN0,zN1,zN2,zN3,zN4,zI0,zI1,zI2,zI3,reduceCtorEq,FF S,h1,h4,h,ge_iff_le,h2,Md.QN,E1 (show 0<=addr by omega) he,he,Option.getD_some]
theorem CJ (dp:Nat)(p_w p_wn p_fu p_r0 p_r1 p_r2 p_r3:Int)(p_ms:List MemT)(p_ls:List Label)(p_is:List Ins)(mem:List Int)(l:List Ent)(i addr:Int)(hl:l.length<1073741824)(A:List Blk)(nb:Nat)(us:List Nat):Zv false E (Z4 E fn (dp+2)) 131 A nb (some ([.agg [vi p_w,vi p_wn,vi p_fu,vi p_r0,vi p_r1,vi p_r2,vi p_r3,rD p_ms,rD p_ls,rD p_is],rD mem,rD l,vi i,vi addr],us))=some (.made (.d (.tup [vi (Md.load (⟨p_w,p_wn,p_fu,⟨p_r0,p_r1,p_r2,p_r3⟩,p_ms,p_ls,p_is⟩:Prog) mem l i addr).1,vi (Md.load (⟨p_w,p_wn,p_fu,⟨p_r0,p_r1,p_r2,p_r3⟩,p_ms,p_ls,p_is⟩:Prog) mem l i addr).2.1,vb (Md.load (⟨p_w,p_wn,p_fu,⟨p_r0,p_r1,p_r2,p_r3⟩,p_ms,p_ls,p_is⟩:Prog) mem l i addr).2.2])) []):=
 Z6.flat (Zk3 S dp (⟨p_w,p_wn,p_fu,⟨p_r0,p_r1,p_r2,p_r3⟩,p_ms,p_ls,p_is⟩:Prog) mem l i addr hl) (np S 131 (by decide)) (rfl) A nb us
end
end Go.Aug.Mc
