import Derived.Test.YtmfdoekbjkgckaaGreatEvTy
import Derived.Test.YtmfdoekbjkgckaaGreatMcP
import Derived.Test.YtmfdoekbjkgckaaGreatEvP
import Derived.Test.YtmfdoekbjkgckaaGreatEvPc
namespace Go.Aug.Md
open Go Go.Aug
def JP (w:Int):Bool:=decide (1<=w)&&decide (w<=16)
def size (w:Int):Int:=bif JP w then 2^w.toNat else 0
def Y2 (w n:Int):Int:=bif JP w then n%2^w.toNat else 0
def EK (b:Bool):Int:=bif b then 1 else 0
def YS (a b:Int):Int:=IntKind.i64.wrap (BitVec.ofInt 64 a&&&BitVec.ofInt 64 b).toNat
def Px (a b:Int):Int:=IntKind.i64.wrap (BitVec.ofInt 64 a ||| BitVec.ofInt 64 b).toNat
def Pq (a b:Int):Int:=IntKind.i64.wrap (BitVec.ofInt 64 a^^^BitVec.ofInt 64 b).toNat
def shl (w a b:Int):Int:=if b>=w then 0 else Y2 w (a*2^b.toNat)
def shr (w a b:Int):Int:=if b>=w then 0 else a.fdiv (2^b.toNat)
def T3 (w op a b:Int):Option Int:=
 if op=1 then some (Y2 w (a+b)) else if op=2 then some (Y2 w (a-b)) else if op=3 then some (YS a b) else if op=4 then some (Px a b) else if op=5 then some (Pq a b)
 else if op=6 then some (shl w a b) else if op=7 then some (shr w a b) else if op=8 then some (Y2 w (a*b)) else if op=9 then some (EK (decide (a<b))) else if op=10 then some (EK (a==b)) else none
def DP (w op a b:Int):Int:=bif JP w then(T3 w op (Y2 w a) (Y2 w b)).getD 0 else 0
def M8 (w op a b:Int):Bool:=JP w&&(T3 w op (Y2 w a) (Y2 w b)).isSome
def ZY (n:Int):Int:=IntKind.i64.wrap n
def N3:Ins:=⟨12,0,0,⟨false,0⟩,⟨false,0⟩,⟨#[]⟩,0⟩
def at_ (p:Prog)(pc:Int):Ins:=if 0<=pc then(p.ins[pc.toNat]?).getD N3 else N3
def cut (l:List Ent)(n:Int):List Ent:=l.take n.toNat
def Bw (r:Regs)(i:Int):Int:=if i=0 then r.r0 else if i=1 then r.r1 else if i=2 then r.r2 else r.r3
def CH (r:Regs)(i n:Int):Regs:=if i=0 then { r with r0:=n } else if i=1 then { r with r1:=n } else if i=2 then { r with r2:=n } else if i=3 then { r with r3:=n } else r
def D5 (i:Ins):Bool:=i.kind==1 || i.kind==2 || i.kind==4
def DF (i:Ins):Int:=bif D5 i then i.d else 0
def E6 (p:Prog)(r d:Int):List Ent->Int×Bool
 | []=>(d,true)
 | e::l=>bif D5 (at_ p e.pc)&&(at_ p e.pc).d==r then(bif e.done then(e.val,true) else(0,false)) else E6 p r d l
def reg (p:Prog)(of:Regs)(l:List Ent)(i r:Int):Int×Bool:=
 if r<0∨4<=r then(0,false) else E6 p r (Bw of r) (cut l i).reverse
def val (p:Prog)(of:Regs)(l:List Ent)(i:Int)(v:Val):Int×Bool:=bif v.reg then reg p of l i v.n else(Y2 p.w v.n,true)
def FJ (p:Prog)(e:Ent):Bool:=(at_ p e.pc).kind==10
def ND (p:Prog)(l:List Ent)(i:Int):Bool:=(cut l i).any (FJ p)
def HN (p:Prog)(addr:Int)(e:Ent):Bool:=(at_ p e.pc).kind==3&&e.known&&e.addr==addr
def J5 (p:Prog)(mem:List Int)(addr:Int):List Ent->Int×Int×Bool
 | []=>if addr<0∨(mem.length:Int)<=addr then(0,-1,true) else((mem[addr.toNat]?).getD 0,-1,true)
 | e::l=>bif HN p addr e then(bif e.done then(e.val,(l.length:Int),true) else(0,0,false)) else J5 p mem addr l
def load (p:Prog)(mem:List Int)(l:List Ent)(i addr:Int):Int×Int×Bool:=J5 p mem addr (cut l i).reverse
def FK (p:Prog)(i addr:Int)(e:Ent):Bool:=(at_ p e.pc).kind==2&&e.known&&e.addr==addr&&decide (e.frm<i)
def JW (p:Prog)(i addr:Int):Nat->List Ent->Int×Bool
 | _,[]=>(0,false)
 | k,e::l=>bif FK p i addr e then((k:Int),true) else JW p i addr (k+1) l
def Cv (l:List Ent)(i:Int):Nat:=(min i l.length+1).toNat
def JM (p:Prog)(l:List Ent)(i addr:Int):Int×Bool:=JW p i addr (Cv l i) (l.drop (Cv l i))
def Jq (p:Prog):List Ent->List Int->Option (List Int)
 | [],out=>some out
 | e::l,out=>
  if(at_ p e.pc).kind=8 then(if 4<=out.length then none else Jq p l (out++[ZY (e.pc+1)]))
  else if(at_ p e.pc).kind=9 then(if out.length=0 then none else Jq p l out.dropLast)
  else Jq p l out
def real (p:Prog)(st:List Int)(l:List Ent)(i:Int):Option (List Int):=Jq p (cut l i) st
def push (l:List Int)(pc:Int):List Int:=(l++[pc]).drop (l.length-1)
end Go.Aug.Md
namespace Go.Aug.Md
open Go Go.Aug
theorem Vz {w:Int}:JP w=true↔1<=w/\w<=16:=by simp[JP]
theorem T4 {w:Int}(h:JP w=true):∃ k:Nat,w=k/\1<=k/\k<=16:=by
 obtain⟨h1,h2⟩:=Vz.1 h
 exact⟨w.toNat,by omega,by omega,by omega⟩
theorem SX {k:Nat}(h:k<=16):(2:Int)^k<=65536:=by
 have:(2:Nat)^k<=2^16:=Nat.pow_le_pow_right (by omega) h
 have e:(2:Int)^k=((2^k:Nat):Int):=by simp
 rw[e];omega
theorem Kq (k:Nat):(0:Int)<2^k:=by
 have:=Nat.two_pow_pos k
 have e:(2:Int)^k=((2^k:Nat):Int):=by simp
 rw[e];omega
theorem Z5h {k:Nat}(h:k<=16):(2:Int)^k ∣ 18446744073709551616:=by
 have:(2:Nat)^k ∣ 2^64:=Nat.pow_dvd_pow 2 (by omega)
 have e:(2:Int)^k=((2^k:Nat):Int):=by simp
 rw[e]
 exact Int.natCast_dvd_natCast.2 this
theorem Pj (w n:Int):0<=Y2 w n:=by
 unfold Y2
 cases h:JP w with
 | true=>exact Int.emod_nonneg _ (by have:=Kq w.toNat;omega)
 | false=>exact Int.le_refl _
theorem Z6o {w:Int}(n:Int)(h:JP w=true):Y2 w n<2^w.toNat:=by
 unfold Y2;rw[h]
 exact Int.emod_lt_of_pos _ (Kq _)
theorem Z6p (w n:Int):Y2 w n<=65535:=by
 cases h:JP w with
 | true=>
  have h1:=Z6o n h
  obtain⟨k,rfl,h2,h3⟩:=T4 h
  have:=SX h3
  rw[Int.toNat_natCast] at h1
  omega
 | false=>unfold Y2;rw[h];show(0:Int)<=65535;omega
theorem RN {w n:Int}(h:JP w=true)(h0:0<=n)(h1:n<2^w.toNat):Y2 w n=n:=by
 unfold Y2;rw[h]
 exact Int.emod_eq_of_lt h0 h1
theorem Zgg (n:Int):(IntKind.i64.wrap n)%18446744073709551616=n%18446744073709551616:=by
 simp[IntKind.wrap,IntKind.bits,IntKind.signed];omega
theorem A0 (w n:Int):Y2 w (IntKind.i64.wrap n)=Y2 w n:=by
 unfold Y2
 cases h:JP w with
 | true=>
  obtain⟨k,rfl,_,h3⟩:=T4 h
  have hd:=Z5h h3
  rw[Int.toNat_natCast]
  show IntKind.i64.wrap n%2^k=n%2^k
  rw[<-Int.emod_emod_of_dvd _ hd,Zgg,Int.emod_emod_of_dvd _ hd]
 | false=>rfl
theorem Zt2 {k:Nat}(n:Int)(h:k<=16):EZ .and .i64 n ((2^k:Int)-1)=some (.int .i64 (n%2^k)):=by
 have e1:((2^k:Int)-1)=((2^k-1:Nat):Int):=by
  have:=Nat.two_pow_pos k
  have e:(2:Int)^k=((2^k:Nat):Int):=by simp
  rw[e];omega
 obtain⟨r,hr,he⟩:=Z6n n k (by omega)
 rw[e1,he]
 have h2:(BitVec.ofInt 64 n&&&BitVec.ofInt 64 ((2^k-1:Nat):Int)).toNat=(n%2^k).toNat:=by
  have hp:2^k<=2^62:=Nat.pow_le_pow_right (by omega) (by omega)
  rw[BitVec.toNat_and]
  have:(BitVec.ofInt 64 ((2^k-1:Nat):Int)).toNat=2^k-1:=by
   rw[BitVec.ofInt_natCast,BitVec.toNat_ofNat]
   exact Nat.mod_eq_of_lt (by omega)
  rw[this,Nat.and_two_pow_sub_one_eq_mod,BitVec.toNat_ofInt]
  have hd:=Z5h h
  have e3:((n%(2^64:Nat)).toNat%2^k:Nat)=((n%(2^64:Nat))%(2^k:Int)).toNat:=by
   have h0:0<=n%(2^64:Nat):=Int.emod_nonneg _ (by omega)
   obtain⟨m,hm⟩:=Int.eq_ofNat_of_zero_le h0
   rw[hm]
   have e:(2:Int)^k=((2^k:Nat):Int):=by simp
   rw[e,Int.toNat_natCast,<-Int.natCast_emod,Int.toNat_natCast]
  rw[e3]
  congr 1
  exact Int.emod_emod_of_dvd _ hd
 have h3:EZ .and .i64 n ((2^k-1:Nat):Int)=some (.int .i64 (IntKind.i64.wrap ((BitVec.ofInt 64 n&&&BitVec.ofInt 64 ((2^k-1:Nat):Int)).toNat:Nat))):=rfl
 rw[he] at h3
 rw[h3,h2]
 have h4:0<=n%2^k:=Int.emod_nonneg _ (by have:=Kq k;omega)
 have h5:n%2^k<2^k:=Int.emod_lt_of_pos _ (Kq k)
 have h6:=SX h
 rw[Int.toNat_of_nonneg h4,Q4 (by omega) (by omega)]
theorem Zi4 (n:Int){s:Int}(h:0<s):((n.tmod s)+s).tmod s=n%s:=by
 have e:=Int.tmod_eq_emod (a:=n) (b:=s)
 have h0:0<=n%s:=Int.emod_nonneg _ (by omega)
 have hs:(s.natAbs:Int)=s:=by omega
 have h2:0<=n.tmod s+s:=by
  rw[e];split<;>omega
 rw[Int.tmod_eq_emod_of_nonneg h2,Int.add_emod_right,e]
 split
 ·simp
 ·rw[hs,Int.sub_emod,Int.emod_self,Int.sub_zero,Int.emod_emod,Int.emod_emod]
theorem Znf {n:Int}{k:Nat}(h0:0<=n)(h1:n<2^k):∃ m:Nat,n=m/\m<2^k:=by
 obtain⟨m,rfl⟩:=Int.eq_ofNat_of_zero_le h0
 refine⟨m,rfl,?_⟩
 have e:(2:Int)^k=((2^k:Nat):Int):=by simp
 rw[e] at h1;omega
theorem S6 {m:Nat}(h:m<65536):(BitVec.ofInt 64 (m:Int)).toNat=m:=by
 rw[BitVec.ofInt_natCast,BitVec.toNat_ofNat]
 exact Nat.mod_eq_of_lt (by omega)
theorem Zp8 {a b:Nat}(ha:a<65536)(hb:b<65536):YS a b=((a&&&b:Nat):Int):=by
 unfold YS
 rw[BitVec.toNat_and,S6 ha,S6 hb]
 have:a&&&b<=a:=Nat.and_le_left
 exact Q4 (by omega) (by omega)
theorem Zp5 {a b:Nat}(ha:a<65536)(hb:b<65536):Px a b=((a ||| b:Nat):Int):=by
 unfold Px
 rw[BitVec.toNat_or,S6 ha,S6 hb]
 have:a ||| b<2^16:=Nat.or_lt_two_pow ha hb
 exact Q4 (by omega) (by omega)
theorem Zox {a b:Nat}(ha:a<65536)(hb:b<65536):Pq a b=((a^^^b:Nat):Int):=by
 unfold Pq
 rw[BitVec.toNat_xor,S6 ha,S6 hb]
 have:a^^^b<2^16:=Nat.xor_lt_two_pow ha hb
 exact Q4 (by omega) (by omega)
theorem WJ {m k:Nat}(h:m<2^k):(m:Int)<2^k:=by
 have e:(2:Int)^k=((2^k:Nat):Int):=by simp
 rw[e];omega
section
variable {w:Int} (h:JP w=true) (a b:Int)
include h
theorem Pk:∃ x:Nat,Y2 w a=x/\x<2^w.toNat/\x<65536:=by
 obtain⟨x,h1,h2⟩:=Znf (Pj w a) (Z6o a h)
 have:=Z6p w a
 exact⟨x,h1,h2,by omega⟩
theorem Z6s:Y2 w (YS (Y2 w a) (Y2 w b))=YS (Y2 w a) (Y2 w b):=by
 obtain⟨x,hx,x1,x2⟩:=Pk h a
 obtain⟨y,hy,y1,y2⟩:=Pk h b
 rw[hx,hy,Zp8 x2 y2]
 exact RN h (by omega) (WJ (Nat.and_lt_two_pow _ y1))
theorem Z6r:Y2 w (Px (Y2 w a) (Y2 w b))=Px (Y2 w a) (Y2 w b):=by
 obtain⟨x,hx,x1,x2⟩:=Pk h a
 obtain⟨y,hy,y1,y2⟩:=Pk h b
 rw[hx,hy,Zp5 x2 y2]
 exact RN h (by omega) (WJ (Nat.or_lt_two_pow x1 y1))
theorem Z6q:Y2 w (Pq (Y2 w a) (Y2 w b))=Pq (Y2 w a) (Y2 w b):=by
 obtain⟨x,hx,x1,x2⟩:=Pk h a
 obtain⟨y,hy,y1,y2⟩:=Pk h b
 rw[hx,hy,Zox x2 y2]
 exact RN h (by omega) (WJ (Nat.xor_lt_two_pow x1 y1))
theorem Tx:Y2 w 0=0:=RN h (by omega) (Kq _)
theorem Z10 (n:Nat):Y2 w ((Y2 w a).fdiv (2^n))=(Y2 w a).fdiv (2^n):=by
 obtain⟨x,hx,x1,x2⟩:=Pk h a
 have e:(2:Int)^n=((2^n:Nat):Int):=by simp
 have:(Y2 w a).fdiv (2^n)=((x/2^n:Nat):Int):=by
  rw[hx,e,Int.fdiv_eq_ediv_of_nonneg _ (Int.natCast_nonneg _)];rfl
 rw[this]
 exact RN h (Int.natCast_nonneg _) (WJ (Nat.lt_of_le_of_lt (Nat.div_le_self _ _) x1))
theorem Zns (c:Bool):Y2 w (EK c)=EK c:=by
 obtain⟨h1,h2⟩:=Vz.1 h
 have h3:(1:Int)<2^w.toNat:=by
  have:2^1<=2^w.toNat:=Nat.pow_le_pow_right (by omega) (by omega)
  have e:(2:Int)^w.toNat=((2^w.toNat:Nat):Int):=by simp
  rw[e];omega
 cases c
 ·exact Tx h
 ·exact RN h (by decide) h3
end
end Go.Aug.Md
namespace Go.Aug.Mc
open Go Go.Aug
def TH:List Nat:=[11*1000+30,44*1000+79,22*1000+49,4*1000+17,44*1000+1000000,46*1000+1000000,79*1000+1000000,19*1000+1000000,20*1000+1000000,22*1000+1000000,6*1000+1000000,5*1000+1000000,4*1000+1000000,3*1000+1000000,7*1000+1000000,10*1000+1000000,153*1000+117,135*1000+117,138*1000+116,114*1000+116,110*1000+116,99999*1000+1000000,26*1000+1000000,8*1000+1000000,123*1000+1000000,76*1000+1000000,77*1000+1000000,78*1000+1000000,17*1000+1000000,68*1000+1000000,38*1000+1000000,49*1000+1000000,27*1000+1000000,30*1000+1000000,112*1000+1000000,153*1000+1000000,18*1000+1000000,38*1000+68,76*1000+120,67*1000+115,115*1000+117,65*1000+67]
attribute [go_sem] TH PA Bool.beq_eq_decide_eq bne decide_true decide_false List.mem_cons List.not_mem_nil or_false false_or or_true true_or Nat.not_lt_zero Bool.true_and Bool.false_and Bool.and_true Bool.and_false Bool.or_true Bool.or_false Bool.true_or Bool.false_or
attribute [go_sem ↓] Zqh Zqi
def PR:List Nat:=[116,117,99999,99999,99999,99999,15,99999,99999,99999,99999,99999,99999]
def NP:List DV->Option (AV×List Blk)
 | []=>some (.d (.v (.bool true)),[])
 | _=>none
structure Sur (E:Env) (fn:FuncId->Option (Env->cT->cT)):Prop extends Fns fn where
 lv:∀ f k,k<1000000->E.lives f k=SE f k
 br:∀ g,Yj g E.br=Yj g [112,113,141,142,123,31,34,33,81]
 tq:∀ f g,(Yj g E.th || HK (E.lives f (EM g)))=Yj (f*1000+g) TH
 pn:∀ g,Yj g PR=false->E.prim g=none
 pe:E.prim 116=some (KJ 8 48)
 pi:E.prim 117=some (KJ 1 8)
 bk:E.back 157=some (8,true)
variable {E:Env} {fn:FuncId->Option (Env->cT->cT)}
theorem Z2 (S:Sur E fn)(g:Nat):Yj g E.br=Yj g [112,113,141,142,123,31,34,33,81]:=S.br g
theorem Z3 (S:Sur E fn)(f g:Nat):(Yj g E.th || HK (E.lives f (EM g)))=Yj (f*1000+g) TH:=S.tq f g
theorem off (S:Sur E fn)(f k:Nat)(hk:k<1000000)(h:SE f k=none):E.lives f k=none:=by rw[S.lv f k hk];exact h
theorem on (S:Sur E fn)(f k:Nat)(l:List Nat)(hk:k<1000000)(h:SE f k=some l):E.lives f k=some l:=by rw[S.lv f k hk];exact h
theorem np (S:Sur E fn)(g:Nat)(h:Yj g PR=false):E.prim g=none:=S.pn g h
theorem U1 (S:Sur E fn){l:List Ent}(h:l.length<1073741824)(call:cT)(A:List Blk)(nb:Nat):ZH false E call 116 A nb (some ([rD l],[]))=some (.made (.d (rD l)) []):=
 Zc7 S.pe rfl l (by unfold Z5;omega) A nb
theorem U0 (S:Sur E fn){l:List Int}(h:l.length<1073741824)(call:cT)(A:List Blk)(nb:Nat):ZH false E call 117 A nb (some ([rD l],[]))=some (.made (.d (rD l)) []):=
 Zc7 S.pi rfl l (by unfold Z5;omega) A nb
theorem RC (S:Sur E fn){l:List Ent}(h:l.length<1073741824)(call:cT)(A:List Blk)(nb:Nat)(us:List Nat):ZH true E call 116 A nb (some ([rD l],us))=some (.made (YJ nb l) (Yw l)):=
 Zc4 S.pe rfl l (by unfold Z5;omega) A nb us
theorem E9 (S:Sur E fn){l:List Int}(h:l.length<1073741824)(call:cT)(A:List Blk)(nb:Nat)(us:List Nat):ZH true E call 117 A nb (some ([rD l],us))=some (.made (YJ nb l) (Yw l)):=
 Zc4 S.pi rfl l (by unfold Z5;omega) A nb us
theorem XH {α:Type}{l:List α}{k:Nat}{e:α}(h:l[k]? =some e):l.take (k+1)=l.take k++[e]:=by rw[List.take_add_one,h];rfl
theorem UJ {α:Type}{l:List α}{k:Nat}{e:α}(h:l[k]? =some e):(l.take (k+1)).reverse=e::(l.take k).reverse:=by rw[XH h,List.reverse_append];rfl
theorem JQ {α:Type}{l:List α}{k:Nat}{e:α}(h:l[k]? =some e):l.drop k=e::l.drop (k+1):=by
 obtain⟨hi,rfl⟩:=List.getElem?_eq_some_iff.1 h
 exact List.drop_eq_getElem_cons hi
theorem YX {α:Type}{l:List α}{k:Nat}(h:k<l.length):∃ e,l[k]? =some e:=⟨l[k],List.getElem?_eq_getElem h⟩
theorem wi (k:Nat)(h:k<4611686018427387904):IntKind.i64.wrap ((k:Int)+1)=((k+1:Nat):Int):=by rw[Q4 (by omega) (by omega)];omega
theorem wd (k:Nat)(h:k<4611686018427387904):IntKind.i64.wrap ((k:Int)-1)=(k:Int)-1:=by rw[Q4 (by omega) (by omega)]
theorem Z6j (i:Int)(n:Nat):min (max i 0) (n:Int)=((min i.toNat n:Nat):Int):=by omega
theorem Zby (l:List Ent)(i:Int):Md.cut l i=l.take (min i.toNat l.length):=by
 unfold Md.cut
 by_cases h:i.toNat<=l.length
 ·rw[Nat.min_eq_left h]
 ·rw[List.take_of_length_le (by omega),List.take_of_length_le (by omega)]
theorem Z9 {α:Type}(l:List α):rep l 1=l:=by simp[rep]
theorem Q5 {α:Type}(l:List α):rep l 0=[]:=rfl
theorem Zrl {g:FuncId}(h:E.prim g=some NP)(call:cT)(A:List Blk)(nb:Nat):ZH false E call g A nb (some ([],[]))=some (.made (YD true) []):=by
 simp only[ZH,JN,h,NP];rfl
theorem K1 (l:List Ent)(n:Int):(Md.cut l n).length<=l.length:=by unfold Md.cut;simp;omega
open Nat renaming reduceLT -> zN0, reduceEqDiff -> zN1, reduceAdd -> zN2, reduceMul -> zN3, reduceLeDiff -> zN4
open Int renaming reduceEq -> zI0, reduceLT -> zI1, reduceLE -> zI2, reduceNeg -> zI3
set_option linter.unusedSimpArgs false
set_option linter.unusedVariables false
set_option maxHeartbeats 40000000
variable {E:Env} {fn:FuncId->Option (Env->cT->cT)}
section
variable (S:Sur E fn)
include S
theorem Zmy:E.lives 144 7=none:=off S 144 7 (by decide) rfl
theorem Zmx:E.lives 151 7=none:=off S 151 7 (by decide) rfl
theorem Zmw:E.lives 69 7=none:=off S 69 7 (by decide) rfl
theorem Z0f:E.lives 84 7=none:=off S 84 7 (by decide) rfl
theorem Z0h:E.lives 70 7=none:=off S 70 7 (by decide) rfl
theorem VN:E.lives 156 7=none:=off S 156 7 (by decide) rfl
theorem VP:E.lives 143 7=none:=off S 143 7 (by decide) rfl
theorem Zie (dp:Nat)(w:Int):Z6 E fn (dp+1) 149 [vi w] (vb (Md.JP w)):=by
 unfold Z6
 show Zk (Z4 E fn (dp+1) 149 [.d (vi w)] [])=_
 rw[ZK,S.Z8a,ZM,Zdk,ZP _ _ _ _ _ _ _ _ rfl]
 by_cases h:1<=w<;>simp only[eG,go_sem,Z3 S,Z2 S,zN0,zN1,zN2,zN3,zN4,zI0,zI1,zI2,zI3,reduceCtorEq,ge_iff_le,h,decide_true,decide_false,Bool.true_and,Bool.false_and,Md.JP]
theorem S1 (dp:Nat)(w:Int)(A:List Blk)(nb:Nat)(us:List Nat):ZH false E (Z4 E fn (dp+1)) 149 A nb (some ([vi w],us))=some (.made (.d (vb (Md.JP w))) []):=
 Z6.flat (Zie S dp w ) (np S 149 (by decide)) (rfl) A nb us
theorem Zkr (dp:Nat)(c:Conf):Z6 E fn (dp+1) 83 [ZA c] (vb (c.end_ !=0)):=by
 unfold Z6
 show Zk (Z4 E fn (dp+1) 83 [.d (ZA c)] [])=_
 rw[ZK,S.Zb1,ZM,Zga,ZP _ _ _ _ _ _ _ _ rfl]
 simp only[eG,go_sem,Z3 S,Z2 S,zN0,zN1,zN2,zN3,zN4,zI0,zI1,zI2,zI3,reduceCtorEq]
theorem EB (dp:Nat)(c_r0 c_r1 c_r2 c_r3:Int)(c_mm c_st:List Int)(c_pc:Int)(c_bf:List Ent)(c_rb:List Int)(c_en:Int)(A:List Blk)(nb:Nat)(us:List Nat):ZH false E (Z4 E fn (dp+1)) 83 A nb (some ([.agg [vi c_r0,vi c_r1,vi c_r2,vi c_r3,rD c_mm,rD c_st,vi c_pc,rD c_bf,rD c_rb,vi c_en]],us))=some (.made (.d (vb ((⟨⟨⟨c_r0,c_r1,c_r2,c_r3⟩,c_mm,c_st,c_pc⟩,c_bf,c_rb,c_en⟩:Conf).end_ !=0))) []):=
 Z6.flat (Zkr S dp (⟨⟨⟨c_r0,c_r1,c_r2,c_r3⟩,c_mm,c_st,c_pc⟩,c_bf,c_rb,c_en⟩:Conf) ) (np S 83 (by decide)) (rfl) A nb us
theorem Zk0 (dp:Nat)(b:Bool):Z6 E fn (dp+1) 144 [vb b] (vi (Md.EK b)):=by
 unfold Z6
 show Zk (Z4 E fn (dp+1) 144 [.d (vb b)] [])=_
 rw[ZK,S.Za6,ZM,Zff,ZP _ _ _ _ _ _ _ _ rfl]
 cases b<;>simp only[eG,go_sem,Z3 S,Z2 S,zN0,zN1,zN2,zN3,zN4,zI0,zI1,zI2,zI3,reduceCtorEq,Zmy S]<;>rfl
theorem Zrz (dp:Nat)(b:Bool)(A:List Blk)(nb:Nat)(us:List Nat):ZH false E (Z4 E fn (dp+1)) 144 A nb (some ([vb b],us))=some (.made (.d (vi (Md.EK b))) []):=
 Z6.flat (Zk0 S dp b ) (np S 144 (by decide)) (rfl) A nb us
theorem Zib (dp:Nat)(b:Bool):Z6 E fn (dp+1) 151 [vb b] (vi (Md.EK b)):=by
 unfold Z6
 show Zk (Z4 E fn (dp+1) 151 [.d (vb b)] [])=_
 rw[ZK,S.Z87,ZM,Zdh,ZP _ _ _ _ _ _ _ _ rfl]
 cases b<;>simp only[eG,go_sem,Z3 S,Z2 S,zN0,zN1,zN2,zN3,zN4,zI0,zI1,zI2,zI3,reduceCtorEq,Zmx S]<;>rfl
theorem Zrg (dp:Nat)(b:Bool)(A:List Blk)(nb:Nat)(us:List Nat):ZH false E (Z4 E fn (dp+1)) 151 A nb (some ([vb b],us))=some (.made (.d (vi (Md.EK b))) []):=
 Z6.flat (Zib S dp b ) (np S 151 (by decide)) (rfl) A nb us
theorem Zj6 (dp:Nat)(b:Bool):Z6 E fn (dp+1) 69 [vb b] (vi (Md.EK b)):=by
 unfold Z6
 show Zk (Z4 E fn (dp+1) 69 [.d (vb b)] [])=_
 rw[ZK,S.Z98,ZM,Zeh,ZP _ _ _ _ _ _ _ _ rfl]
 cases b<;>simp only[eG,go_sem,Z3 S,Z2 S,zN0,zN1,zN2,zN3,zN4,zI0,zI1,zI2,zI3,reduceCtorEq,Zmw S]<;>rfl
theorem Zrv (dp:Nat)(b:Bool)(A:List Blk)(nb:Nat)(us:List Nat):ZH false E (Z4 E fn (dp+1)) 69 A nb (some ([vb b],us))=some (.made (.d (vi (Md.EK b))) []):=
 Z6.flat (Zj6 S dp b ) (np S 69 (by decide)) (rfl) A nb us
theorem Ziv (dp:Nat)(l:List Ent)(n:Int)(hl:l.length<1073741824):Z6 E fn (dp+2) 109 [rD l,vi n] (rD (Md.cut l n)):=by
 unfold Z6
 show Zk (Z4 E fn (dp+1+1) 109 [.d (rD l),.d (vi n)] [])=_
 rw[ZK,S.Z8v,ZM,Ze5,ZP _ _ _ _ _ _ _ _ rfl]
 have hc:=K1 l n
 have h2:BV l.length none (some (aI (min (max n 0) l.length))) none=some (0,(min (max n 0) (l.length:Int)).toNat,l.length):=H3 _ _ _ (by omega) (by omega)
 have h3:l.take (min (max n 0) (l.length:Int)).toNat=Md.cut l n:=by
  unfold Md.cut
  by_cases h:n.toNat<=l.length
  ·congr 1;omega
  ·rw[List.take_of_length_le (by omega),List.take_of_length_le (by omega)]
 simp only[eG,go_sem,Z3 S,Z2 S,zN0,zN1,zN2,zN3,zN4,zI0,zI1,zI2,zI3,reduceCtorEq,h2,h3,U1 S (show(Md.cut l n).length<1073741824 by omega),List.drop_zero,Nat.sub_zero]
theorem PD (dp:Nat)(l:List Ent)(n:Int)(hl:l.length<1073741824)(A:List Blk)(nb:Nat):ZH false E (Z4 E fn (dp+2)) 109 A nb (some ([rD l,vi n],[]))=some (.made (.d (rD (Md.cut l n))) []):=
 Z6.deep (Ziv S dp l n hl) (np S 109 (by decide)) A nb
theorem Ziq (dp:Nat)(p:Prog)(pc:Int):Z6 E fn (dp+1) 84 [Zw p,vi pc] (.agg (Cl.cells (Md.at_ p pc))):=by
 unfold Z6
 show Zk (Z4 E fn (dp+1) 84 [.d (Zw p),.d (vi pc)] [])=_
 rw[ZK,S.Z8q,ZM,Ze0,ZP _ _ _ _ _ _ _ _ rfl]
 by_cases h:pc<0
 ·simp only[eG,go_sem,Z3 S,Z2 S,zN0,zN1,zN2,zN3,zN4,zI0,zI1,zI2,zI3,reduceCtorEq,Z0f S,h,decide_true,Md.at_,show ¬0<=pc by omega,Md.N3]
 ·obtain ⟨i, rfl⟩ := Int.eq_ofNat_of_zero_le (show 0 <= pc by omega)
  cases hx:p.ins[i]? with
  | none=>
   have hl:(i:Int)>=p.ins.length:=by have:=List.getElem?_eq_none_iff.1 hx;omega
   simp only[eG,go_sem,Z3 S,Z2 S,zN0,zN1,zN2,zN3,zN4,zI0,zI1,zI2,zI3,reduceCtorEq,Z0f S,h,hl,decide_true,decide_false,Md.at_,Int.natCast_nonneg,Int.toNat_natCast,hx,Option.getD_none,Md.N3]
  | some e=>
   have hl:¬(i:Int)>=p.ins.length:=by have:=(List.getElem?_eq_some_iff.1 hx).1;omega
   simp only[eG,go_sem,Z3 S,Z2 S,zN0,zN1,zN2,zN3,zN4,zI0,zI1,zI2,zI3,reduceCtorEq,Z0f S,h,hl,decide_true,decide_false,Md.at_,Int.natCast_nonneg,Int.toNat_natCast,hx,Option.getD_some,Zz hx]
theorem Yx (dp:Nat)(p_w p_wn p_fu p_r0 p_r1 p_r2 p_r3:Int)(p_ms:List MemT)(p_ls:List Label)(p_is:List Ins)(pc:Int)(A:List Blk)(nb:Nat)(us:List Nat):ZH false E (Z4 E fn (dp+1)) 84 A nb (some ([.agg [vi p_w,vi p_wn,vi p_fu,vi p_r0,vi p_r1,vi p_r2,vi p_r3,rD p_ms,rD p_ls,rD p_is],vi pc],us))=some (.made (.d (.agg (Cl.cells (Md.at_ (⟨p_w,p_wn,p_fu,⟨p_r0,p_r1,p_r2,p_r3⟩,p_ms,p_ls,p_is⟩:Prog) pc)))) []):=
 Z6.flat (Ziq S dp (⟨p_w,p_wn,p_fu,⟨p_r0,p_r1,p_r2,p_r3⟩,p_ms,p_ls,p_is⟩:Prog) pc ) (np S 84 (by decide)) (rfl) A nb us
theorem Zjy (dp:Nat)(p:Prog)(pc:Int):Z6 E fn (dp+1) 70 [Zw p,vi pc] (.agg (Cl.cells (Md.at_ p pc))):=by
 unfold Z6
 show Zk (Z4 E fn (dp+1) 70 [.d (Zw p),.d (vi pc)] [])=_
 rw[ZK,S.Za4,ZM,Zfd,ZP _ _ _ _ _ _ _ _ rfl]
 by_cases h:pc<0
 ·simp only[eG,go_sem,Z3 S,Z2 S,zN0,zN1,zN2,zN3,zN4,zI0,zI1,zI2,zI3,reduceCtorEq,Z0h S,h,decide_true,Md.at_,show ¬0<=pc by omega,Md.N3]
 ·obtain ⟨i, rfl⟩ := Int.eq_ofNat_of_zero_le (show 0 <= pc by omega)
  cases hx:p.ins[i]? with
  | none=>
   have hl:(i:Int)>=p.ins.length:=by have:=List.getElem?_eq_none_iff.1 hx;omega
   simp only[eG,go_sem,Z3 S,Z2 S,zN0,zN1,zN2,zN3,zN4,zI0,zI1,zI2,zI3,reduceCtorEq,Z0h S,h,hl,decide_true,decide_false,Md.at_,Int.natCast_nonneg,Int.toNat_natCast,hx,Option.getD_none,Md.N3]
  | some e=>
   have hl:¬(i:Int)>=p.ins.length:=by have:=(List.getElem?_eq_some_iff.1 hx).1;omega
   simp only[eG,go_sem,Z3 S,Z2 S,zN0,zN1,zN2,zN3,zN4,zI0,zI1,zI2,zI3,reduceCtorEq,Z0h S,h,hl,decide_true,decide_false,Md.at_,Int.natCast_nonneg,Int.toNat_natCast,hx,Option.getD_some,Zz hx]
theorem ZV (dp:Nat)(p_w p_wn p_fu p_r0 p_r1 p_r2 p_r3:Int)(p_ms:List MemT)(p_ls:List Label)(p_is:List Ins)(pc:Int)(A:List Blk)(nb:Nat)(us:List Nat):ZH false E (Z4 E fn (dp+1)) 70 A nb (some ([.agg [vi p_w,vi p_wn,vi p_fu,vi p_r0,vi p_r1,vi p_r2,vi p_r3,rD p_ms,rD p_ls,rD p_is],vi pc],us))=some (.made (.d (.agg (Cl.cells (Md.at_ (⟨p_w,p_wn,p_fu,⟨p_r0,p_r1,p_r2,p_r3⟩,p_ms,p_ls,p_is⟩:Prog) pc)))) []):=
 Z6.flat (Zjy S dp (⟨p_w,p_wn,p_fu,⟨p_r0,p_r1,p_r2,p_r3⟩,p_ms,p_ls,p_is⟩:Prog) pc ) (np S 70 (by decide)) (rfl) A nb us
theorem Zj3 (dp:Nat)(x:Ins):Z6 E fn (dp+1) 156 [.agg (Cl.cells x)] (.tup [vi (Md.DF x),vb (Md.D5 x)]):=by
 unfold Z6
 show Zk (Z4 E fn (dp+1) 156 [.d (.agg (Cl.cells x))] [])=_
 rw[ZK,S.Z95,ZM,Zee,ZP _ _ _ _ _ _ _ _ rfl]
 by_cases h1:x.kind=1
 ·simp only[eG,go_sem,Z3 S,Z2 S,zN0,zN1,zN2,zN3,zN4,zI0,zI1,zI2,zI3,reduceCtorEq,VN S,h1,Md.DF,Md.D5]
 ·by_cases h2 : x.kind = 2
  ·simp only[eG,go_sem,Z3 S,Z2 S,zN0,zN1,zN2,zN3,zN4,zI0,zI1,zI2,zI3,reduceCtorEq,VN S,h2,Md.DF,Md.D5]
  ·by_cases h4 : x.kind = 4
   ·simp only[eG,go_sem,Z3 S,Z2 S,zN0,zN1,zN2,zN3,zN4,zI0,zI1,zI2,zI3,reduceCtorEq,VN S,h4,Md.DF,Md.D5]
   ·simp only[eG,go_sem,Z3 S,Z2 S,zN0,zN1,zN2,zN3,zN4,zI0,zI1,zI2,zI3,reduceCtorEq,VN S,h1,h2,h4,Md.DF,Md.D5]
theorem Z2f (dp:Nat)(x_k x_o x_d:Int)(x_ag:Bool)(x_an:Int)(x_bg:Bool)(x_bn:Int)(x_nm:ByteArray)(x_tg:Int)(A:List Blk)(nb:Nat)(us:List Nat):ZH false E (Z4 E fn (dp+1)) 156 A nb (some ([.agg [vi x_k,vi x_o,vi x_d,vb x_ag,vi x_an,vb x_bg,vi x_bn,vt x_nm,vi x_tg]],us))=some (.made (.d (.tup [vi (Md.DF (⟨x_k,x_o,x_d,⟨x_ag,x_an⟩,⟨x_bg,x_bn⟩,x_nm,x_tg⟩:Ins)),vb (Md.D5 (⟨x_k,x_o,x_d,⟨x_ag,x_an⟩,⟨x_bg,x_bn⟩,x_nm,x_tg⟩:Ins))])) []):=
 Z6.flat (Zj3 S dp (⟨x_k,x_o,x_d,⟨x_ag,x_an⟩,⟨x_bg,x_bn⟩,x_nm,x_tg⟩:Ins) ) (np S 156 (by decide)) (rfl) A nb us
theorem Zjo (dp:Nat)(x:Ins):Z6 E fn (dp+1) 143 [.agg (Cl.cells x)] (.tup [vi (Md.DF x),vb (Md.D5 x)]):=by
 unfold Z6
 show Zk (Z4 E fn (dp+1) 143 [.d (.agg (Cl.cells x))] [])=_
 rw[ZK,S.Z9q,ZM,Zez,ZP _ _ _ _ _ _ _ _ rfl]
 by_cases h1:x.kind=1
 ·simp only[eG,go_sem,Z3 S,Z2 S,zN0,zN1,zN2,zN3,zN4,zI0,zI1,zI2,zI3,reduceCtorEq,VP S,h1,Md.DF,Md.D5]
 ·by_cases h2 : x.kind = 2
  ·simp only[eG,go_sem,Z3 S,Z2 S,zN0,zN1,zN2,zN3,zN4,zI0,zI1,zI2,zI3,reduceCtorEq,VP S,h2,Md.DF,Md.D5]
  ·by_cases h4 : x.kind = 4
   ·simp only[eG,go_sem,Z3 S,Z2 S,zN0,zN1,zN2,zN3,zN4,zI0,zI1,zI2,zI3,reduceCtorEq,VP S,h4,Md.DF,Md.D5]
   ·simp only[eG,go_sem,Z3 S,Z2 S,zN0,zN1,zN2,zN3,zN4,zI0,zI1,zI2,zI3,reduceCtorEq,VP S,h1,h2,h4,Md.DF,Md.D5]
theorem WK (dp:Nat)(x_k x_o x_d:Int)(x_ag:Bool)(x_an:Int)(x_bg:Bool)(x_bn:Int)(x_nm:ByteArray)(x_tg:Int)(A:List Blk)(nb:Nat)(us:List Nat):ZH false E (Z4 E fn (dp+1)) 143 A nb (some ([.agg [vi x_k,vi x_o,vi x_d,vb x_ag,vi x_an,vb x_bg,vi x_bn,vt x_nm,vi x_tg]],us))=some (.made (.d (.tup [vi (Md.DF (⟨x_k,x_o,x_d,⟨x_ag,x_an⟩,⟨x_bg,x_bn⟩,x_nm,x_tg⟩:Ins)),vb (Md.D5 (⟨x_k,x_o,x_d,⟨x_ag,x_an⟩,⟨x_bg,x_bn⟩,x_nm,x_tg⟩:Ins))])) []):=
 Z6.flat (Zjo S dp (⟨x_k,x_o,x_d,⟨x_ag,x_an⟩,⟨x_bg,x_bn⟩,x_nm,x_tg⟩:Ins) ) (np S 143 (by decide)) (rfl) A nb us
end
theorem Zd2 (k:IntKind)(x y:Int):Qz .and (.d (.v (.int k x))) (.d (.v (.int k y)))=(EZ .and k x y).map fun r=>.d (.v r):=F3 _ _ _ _ (by simp) (by simp)
theorem QN (x y:Int):Qz .and (.d (.v (.int .i64 x))) (.d (.v (.int .i64 y)))=some (aI (Md.YS x y)):=Zd2 _ _ _
theorem Zd1 (x y:Int):Qz .or (.d (.v (.int .i64 x))) (.d (.v (.int .i64 y)))=some (aI (Md.Px x y)):=by rw[F3 _ _ _ _ (by simp) (by simp)];rfl
theorem Zd0 (x y:Int):Qz .xor (.d (.v (.int .i64 x))) (.d (.v (.int .i64 y)))=some (aI (Md.Pq x y)):=by rw[F3 _ _ _ _ (by simp) (by simp)];rfl
theorem Z4b {k:Nat}(h:k<=16):IntKind.i64.wrap (1*2^min k 64)=2^k:=by
 have:=Md.SX h
 have:=Md.Kq k
 rw[Nat.min_eq_left (by omega),Int.one_mul,Q4 (by omega) (by omega)]
def P6 (w op a b:Int):Int:=if b>=w then 0 else if op=6 then IntKind.i64.wrap (a*2^min b.toNat 64) else a.fdiv (2^min b.toNat 64)
theorem VY {w b:Int}(h:Md.JP w=true)(hb:¬b>=w):min b.toNat 64=b.toNat:=by
 have:=Md.Vz.1 h;omega
variable {E:Env} {fn:FuncId->Option (Env->cT->cT)}
section
variable (S:Sur E fn)
include S
theorem Z62:E.lives 152 7=none:=off S 152 7 (by decide) rfl
theorem Z0g:E.lives 82 7=none:=off S 82 7 (by decide) rfl
theorem Z64:E.lives 139 7=none:=off S 139 7 (by decide) rfl
theorem Z61:E.lives 53 9=none:=off S 53 9 (by decide) rfl
theorem Z0l:E.lives 150 7=none/\E.lives 150 11=none:=⟨off S 150 7 (by decide) rfl,off S 150 11 (by decide) rfl⟩
theorem Z66:E.lives 134 7=none/\E.lives 134 19=none/\E.lives 134 23=none/\E.lives 134 27=none/\E.lives 134 31=none/\E.lives 134 35=none/\E.lives 134 39=none/\E.lives 134 41=none/\E.lives 134 45=none/\E.lives 134 49=none/\E.lives 134 53=none:=⟨off S 134 7 (by decide) rfl,off S 134 19 (by decide) rfl,off S 134 23 (by decide) rfl,off S 134 27 (by decide) rfl,off S 134 31 (by decide) rfl,off S 134 35 (by decide) rfl,off S 134 39 (by decide) rfl,off S 134 41 (by decide) rfl,off S 134 45 (by decide) rfl,off S 134 49 (by decide) rfl,off S 134 53 (by decide) rfl⟩
theorem Z68:E.lives 122 7=none/\E.lives 122 15=none/\E.lives 122 19=none/\E.lives 122 23=none/\E.lives 122 27=none/\E.lives 122 31=none/\E.lives 122 35=none/\E.lives 122 37=none/\E.lives 122 43=none/\E.lives 122 45=none/\E.lives 122 51=none/\E.lives 122 55=none/\E.lives 122 59=none:=⟨off S 122 7 (by decide) rfl,off S 122 15 (by decide) rfl,off S 122 19 (by decide) rfl,off S 122 23 (by decide) rfl,off S 122 27 (by decide) rfl,off S 122 31 (by decide) rfl,off S 122 35 (by decide) rfl,off S 122 37 (by decide) rfl,off S 122 43 (by decide) rfl,off S 122 45 (by decide) rfl,off S 122 51 (by decide) rfl,off S 122 55 (by decide) rfl,off S 122 59 (by decide) rfl⟩
theorem Zid (dp:Nat)(w:Int):Z6 E fn (dp+2) 152 [vi w] (vi (Md.size w)):=by
 unfold Z6
 show Zk (Z4 E fn (dp+1+1) 152 [.d (vi w)] [])=_
 rw[ZK,S.Z89,ZM,Zdj,ZP _ _ _ _ _ _ _ _ rfl]
 cases h:Md.JP w with
 | true=>
  obtain⟨k,rfl,h1,h2⟩:=Md.T4 h
  simp only[eG,go_sem,Z3 S,Z2 S,zN0,zN1,zN2,zN3,zN4,zI0,zI1,zI2,zI3,reduceCtorEq,Z62 S,S1 S,h,Md.size,WX _ _ _ _ (Int.natCast_nonneg k),Int.toNat_natCast,IntKind.bits,Z4b h2]
 | false=>
  simp only[eG,go_sem,Z3 S,Z2 S,zN0,zN1,zN2,zN3,zN4,zI0,zI1,zI2,zI3,reduceCtorEq,Z62 S,S1 S,h,Md.size]
theorem Zri (dp:Nat)(w:Int)(A:List Blk)(nb:Nat)(us:List Nat):ZH false E (Z4 E fn (dp+2)) 152 A nb (some ([vi w],us))=some (.made (.d (vi (Md.size w))) []):=
 Z6.flat (Zid S dp w ) (np S 152 (by decide)) (rfl) A nb us
theorem Zk1 (dp:Nat)(w:Int):Z6 E fn (dp+1) 82 [vi w] (vi (Md.size w)):=by
 unfold Z6
 show Zk (Z4 E fn (dp+1) 82 [.d (vi w)] [])=_
 rw[ZK,S.Za7,ZM,Zfg,ZP _ _ _ _ _ _ _ _ rfl]
 by_cases h1:w<1
 ·simp only[eG,go_sem,Z3 S,Z2 S,zN0,zN1,zN2,zN3,zN4,zI0,zI1,zI2,zI3,reduceCtorEq,Z0g S,h1,Md.size,Md.JP,show ¬1<=w by omega]
 ·by_cases h2 : w > 16
  ·simp only[eG,go_sem,Z3 S,Z2 S,zN0,zN1,zN2,zN3,zN4,zI0,zI1,zI2,zI3,reduceCtorEq,Z0g S,h1,h2,Md.size,Md.JP,show ¬w<=16 by omega]
  ·obtain ⟨k, rfl⟩ := Int.eq_ofNat_of_zero_le (show 0 <= w by omega)
   have hw:IntKind.u64.wrap (k:Int)=k:=R0 (by omega) (by omega)
   simp only[eG,go_sem,Z3 S,Z2 S,zN0,zN1,zN2,zN3,zN4,zI0,zI1,zI2,zI3,reduceCtorEq,Z0g S,h1,h2,hw,Md.size,Md.JP,show 1<=(k:Int) by omega,show(k:Int)<=16 by omega,WX _ _ _ _ (Int.natCast_nonneg k),Int.toNat_natCast,IntKind.bits,Z4b (show k<=16 by omega)]
theorem WM (dp:Nat)(w:Int)(A:List Blk)(nb:Nat)(us:List Nat):ZH false E (Z4 E fn (dp+1)) 82 A nb (some ([vi w],us))=some (.made (.d (vi (Md.size w))) []):=
 Z6.flat (Zk1 S dp w ) (np S 82 (by decide)) (rfl) A nb us
theorem Zif (dp:Nat)(w m:Int):Z6 E fn (dp+3) 139 [vi w,vi m] (vi (Md.Y2 w m)):=by
 unfold Z6
 show Zk (Z4 E fn (dp+2+1) 139 [.d (vi w),.d (vi m)] [])=_
 rw[ZK,S.Z8b,ZM,Zdl,ZP _ _ _ _ _ _ _ _ rfl]
 cases h:Md.JP w with
 | true=>
  obtain⟨k,rfl,h1,h2⟩:=Md.T4 h
  have hp:=Md.Kq k
  have hq:=Md.SX h2
  have hw:IntKind.i64.wrap (2^k-1)=2^k-1:=Q4 (by omega) (by omega)
  simp only[eG,go_sem,Z3 S,Z2 S,zN0,zN1,zN2,zN3,zN4,zI0,zI1,zI2,zI3,reduceCtorEq,Z64 S,S1 S,Zri S,h,Md.size,Md.Y2,Int.toNat_natCast,hw,Zd2,Md.Zt2 m h2]
 | false=>
  simp only[eG,go_sem,Z3 S,Z2 S,zN0,zN1,zN2,zN3,zN4,zI0,zI1,zI2,zI3,reduceCtorEq,Z64 S,S1 S,h,Md.Y2]
theorem Z2d (dp:Nat)(w m:Int)(A:List Blk)(nb:Nat)(us:List Nat):ZH false E (Z4 E fn (dp+3)) 139 A nb (some ([vi w,vi m],us))=some (.made (.d (vi (Md.Y2 w m))) []):=
 Z6.flat (Zif S dp w m ) (np S 139 (by decide)) (rfl) A nb us
theorem Zk3 (dp:Nat)(w m:Int):Z6 E fn (dp+2) 53 [vi w,vi m] (vi (Md.Y2 w m)):=by
 unfold Z6
 show Zk (Z4 E fn (dp+1+1) 53 [.d (vi w),.d (vi m)] [])=_
 rw[ZK,S.Za9,ZM,Zfi,ZP _ _ _ _ _ _ _ _ rfl]
 cases h:Md.JP w with
 | true=>
  obtain⟨k,rfl,h1,h2⟩:=Md.T4 h
  have hp:=Md.Kq k
  have hq:=Md.SX h2
  have hz:(2:Int)^k≠0:=by omega
  have hr:=Int.tmod_lt_of_pos m hp
  have hr2: -(2^k)<=m.tmod (2^k):=by
   rw[Int.tmod_eq_emod]
   have:=Int.emod_nonneg m hz
   have hs:(((2:Int)^k).natAbs:Int)=2^k:=by omega
   split<;>omega
  have hw:IntKind.i64.wrap (m.tmod (2^k)+2^k)=m.tmod (2^k)+2^k:=Q4 (by omega) (by omega)
  simp only[eG,go_sem,Z3 S,Z2 S,zN0,zN1,zN2,zN3,zN4,zI0,zI1,zI2,zI3,reduceCtorEq,Z61 S,WM S,h,Md.size,Md.Y2,Int.toNat_natCast,hz,hw,Z34 _ _ _ hz,Md.Zi4 m hp]
 | false=>
  simp only[eG,go_sem,Z3 S,Z2 S,zN0,zN1,zN2,zN3,zN4,zI0,zI1,zI2,zI3,reduceCtorEq,Z61 S,WM S,h,Md.size,Md.Y2]
theorem AM (dp:Nat)(w m:Int)(A:List Blk)(nb:Nat)(us:List Nat):ZH false E (Z4 E fn (dp+2)) 53 A nb (some ([vi w,vi m],us))=some (.made (.d (vi (Md.Y2 w m))) []):=
 Z6.flat (Zk3 S dp w m ) (np S 53 (by decide)) (rfl) A nb us
theorem Zic (dp:Nat)(w op a b:Int)(hb:0<=b):Z6 E fn (dp+1) 150 [vi w,vi op,vi a,vi b] (vi (P6 w op a b)):=by
 unfold Z6
 show Zk (Z4 E fn (dp+1) 150 [.d (vi w),.d (vi op),.d (vi a),.d (vi b)] [])=_
 rw[ZK,S.Z88,ZM,Zdi,ZP _ _ _ _ _ _ _ _ rfl]
 by_cases h1:b>=w
 ·simp only[eG,go_sem,Z3 S,Z2 S,zN0,zN1,zN2,zN3,zN4,zI0,zI1,zI2,zI3,reduceCtorEq,Z0l S,h1,P6]
 ·by_cases h2 : op = 6
  ·simp only[eG,go_sem,Z3 S,Z2 S,zN0,zN1,zN2,zN3,zN4,zI0,zI1,zI2,zI3,reduceCtorEq,Z0l S,h1,h2,P6,WX _ _ _ _ hb,IntKind.bits]
  ·simp only[eG,go_sem,Z3 S,Z2 S,zN0,zN1,zN2,zN3,zN4,zI0,zI1,zI2,zI3,reduceCtorEq,Z0l S,h1,h2,P6,Z33 _ _ _ _ hb,IntKind.bits]
theorem Zrh (dp:Nat)(w op a b:Int)(hb:0<=b)(A:List Blk)(nb:Nat)(us:List Nat):ZH false E (Z4 E fn (dp+1)) 150 A nb (some ([vi w,vi op,vi a,vi b],us))=some (.made (.d (vi (P6 w op a b))) []):=
 Z6.flat (Zic S dp w op a b hb) (np S 150 (by decide)) (rfl) A nb us
theorem Zig (dp:Nat)(w op a b:Int):Z6 E fn (dp+4) 134 [vi w,vi op,vi a,vi b] (.tup [vi (Md.DP w op a b),vb (Md.M8 w op a b)]):=by
 unfold Z6
 show Zk (Z4 E fn (dp+3+1) 134 [.d (vi w),.d (vi op),.d (vi a),.d (vi b)] [])=_
 rw[ZK,S.Z8c,ZM,Zdm,ZP _ _ _ _ _ _ _ _ rfl]
 cases h:Md.JP w with
 | false=>simp only[eG,go_sem,Z3 S,Z2 S,zN0,zN1,zN2,zN3,zN4,zI0,zI1,zI2,zI3,reduceCtorEq,Z66 S,S1 S,h,Md.DP,Md.M8]
 | true=>
  have hb:=Md.Pj w b
  simp only[eG,go_sem,Z3 S,Z2 S,zN0,zN1,zN2,zN3,zN4,zI0,zI1,zI2,zI3,reduceCtorEq,Z66 S,S1 S,Z2d S,Zrh S _ _ _ _ _ hb,Zrg S,h,Md.DP,Md.M8,Md.A0,QN,Zd1,Zd0,Md.Z6s h,Md.Z6r h,Md.Z6q h,Md.Zns h]
  simp only[Bool.cond_decide,Md.T3,P6,Md.shl,Md.shr]
  by_cases h1:op=1
  ·simp only[h1,if_true];rfl
  by_cases h2:op=2
  ·simp only[h1,h2,if_true,zI0,if_false];rfl
  by_cases h3:op=3
  ·simp only[h1,h2,h3,if_true,zI0,if_false];rfl
  by_cases h4:op=4
  ·simp only[h1,h2,h3,h4,if_true,zI0,if_false];rfl
  by_cases h5:op=5
  ·simp only[h1,h2,h3,h4,h5,if_true,zI0,if_false];rfl
  by_cases h6:op=6
  ·by_cases hm : Md.Y2 w b >= w
   ·simp only[h6,hm,if_true,zI0,if_false,Md.Tx h];rfl
   ·simp only[h6,hm,if_true,zI0,if_false,Md.A0,VY h hm];rfl
  by_cases h7:op=7
  ·by_cases hm : Md.Y2 w b >= w
   ·simp only[h7,hm,if_true,zI0,if_false,Md.Tx h];rfl
   ·simp only[h7,hm,if_true,zI0,if_false,VY h hm,Md.Z10 h];rfl
  by_cases h8:op=8
  ·simp only[h8,if_true,zI0,if_false];rfl
  by_cases h9:op=9
  ·simp only[h9,if_true,zI0,if_false];rfl
  by_cases h10:op=10
  ·simp only[h10,if_true,zI0,if_false];rfl
  ·simp only[h1,h2,h3,h4,h5,h6,h7,h8,h9,h10,if_false];rfl
theorem Z2e (dp:Nat)(w op a b:Int)(A:List Blk)(nb:Nat)(us:List Nat):ZH false E (Z4 E fn (dp+4)) 134 A nb (some ([vi w,vi op,vi a,vi b],us))=some (.made (.d (.tup [vi (Md.DP w op a b),vb (Md.M8 w op a b)])) []):=
 Z6.flat (Zig S dp w op a b ) (np S 134 (by decide)) (rfl) A nb us
theorem Zk4 (dp:Nat)(w op a b:Int):Z6 E fn (dp+3) 122 [vi w,vi op,vi a,vi b] (.tup [vi (Md.DP w op a b),vb (Md.M8 w op a b)]):=by
 unfold Z6
 show Zk (Z4 E fn (dp+2+1) 122 [.d (vi w),.d (vi op),.d (vi a),.d (vi b)] [])=_
 rw[ZK,S.Zaa,ZM,Zfj,ZP _ _ _ _ _ _ _ _ rfl]
 cases h:Md.JP w with
 | false=>simp only[eG,go_sem,Z3 S,Z2 S,zN0,zN1,zN2,zN3,zN4,zI0,zI1,zI2,zI3,reduceCtorEq,Z68 S,WM S,h,Md.size,Md.DP,Md.M8]
 | true=>
  have hb:=Md.Pj w b
  have hb2:=Md.Z6p w b
  have hu:IntKind.u64.wrap (Md.Y2 w b)=Md.Y2 w b:=R0 (by omega) (by omega)
  have hz:(2:Int)^w.toNat≠0:=by have:=Md.Kq w.toNat;omega
  simp only[eG,go_sem,Z3 S,Z2 S,zN0,zN1,zN2,zN3,zN4,zI0,zI1,zI2,zI3,reduceCtorEq,Z68 S,WM S,AM S,Zrz S,h,Md.size,hz,hu,WX _ _ _ _ hb,Z33 _ _ _ _ hb,IntKind.bits,Md.DP,Md.M8,Md.A0,QN,Zd1,Zd0]
  simp only[Bool.cond_decide,Md.T3,P6,Md.shl,Md.shr]
  by_cases h1:op=1
  ·simp only[h1,if_true];rfl
  by_cases h2:op=2
  ·simp only[h1,h2,if_true,zI0,if_false];rfl
  by_cases h3:op=3
  ·simp only[h1,h2,h3,if_true,zI0,if_false];rfl
  by_cases h4:op=4
  ·simp only[h1,h2,h3,h4,if_true,zI0,if_false];rfl
  by_cases h5:op=5
  ·simp only[h1,h2,h3,h4,h5,if_true,zI0,if_false];rfl
  by_cases h6:op=6
  ·by_cases hm : Md.Y2 w b >= w
   ·simp only[h6,hm,if_true,zI0,if_false,Md.Tx h];rfl
   ·simp only[h6,hm,if_true,zI0,if_false,Md.A0,VY h hm];rfl
  by_cases h7:op=7
  ·by_cases hm : Md.Y2 w b >= w
   ·simp only[h7,hm,if_true,zI0,if_false,Md.Tx h];rfl
   ·simp only[h7,hm,if_true,zI0,if_false,VY h hm,Md.Z10 h];rfl
  by_cases h8:op=8
  ·simp only[h8,if_true,zI0,if_false];rfl
  by_cases h9:op=9
  ·simp only[h9,if_true,zI0,if_false];rfl
  by_cases h10:op=10
  ·simp only[h10,if_true,zI0,if_false];rfl
  ·simp only[h1,h2,h3,h4,h5,h6,h7,h8,h9,h10,if_false];rfl
theorem DJ (dp:Nat)(w op a b:Int)(A:List Blk)(nb:Nat)(us:List Nat):ZH false E (Z4 E fn (dp+3)) 122 A nb (some ([vi w,vi op,vi a,vi b],us))=some (.made (.d (.tup [vi (Md.DP w op a b),vb (Md.M8 w op a b)])) []):=
 Z6.flat (Zk4 S dp w op a b ) (np S 122 (by decide)) (rfl) A nb us
end
section
variable (S:Sur E fn)
include S
theorem Ej:E.lives 119 1=none/\E.lives 119 7=none/\E.lives 119 19=none/\E.lives 119 21=none:=⟨off S 119 1 (by decide) rfl,off S 119 7 (by decide) rfl,off S 119 19 (by decide) rfl,off S 119 21 (by decide) rfl⟩
theorem Zmv:E.lives 74 7=none:=off S 74 7 (by decide) rfl
theorem MM:E.lives 118 1=none/\E.lives 118 13=none:=⟨off S 118 1 (by decide) rfl,off S 118 13 (by decide) rfl⟩
theorem Fv:E.lives 73 1=none/\E.lives 73 13=none/\E.lives 73 15=none/\E.lives 73 21=none:=⟨off S 73 1 (by decide) rfl,off S 73 13 (by decide) rfl,off S 73 15 (by decide) rfl,off S 73 21 (by decide) rfl⟩
theorem Znz (dp:Nat)(p:Prog)(of:Regs)(l:List Ent)(r:Int)(hl:l.length<1073741824)(kx:Nat->K)(D:Int)
  (hx:∀ T,ZT .bot T 4=aI r->ZT .bot T 6=.ref 1 0 0->Zk (kx 0 (mk .bot 62 T) [.cells ((ZZ p).map .d) 0 false,.cells ((CX of).map .d) 0 false])=some (.tup [vi D,vb true])):
  ∀(k fuel:Nat),k<=l.length->k<fuel->Zk (PX (Zq E 119) (Z4 E fn (dp+1)) (Zj 10 PX (Zq E 119) (Z4 E fn (dp+1)) kx (ZX 0 [.tmp 10,.tmp 11]) fuel) kx (ZX 0 [.tmp 10,.tmp 11])
   (mk .bot 62 [(2,.d (rD l)),(4,aI r),(5,.ref 0 0 0),(6,.ref 1 0 0),(12,aI ((k:Int)-1))]) [.cells ((ZZ p).map .d) 0 false,.cells ((CX of).map .d) 0 false])=
   some (.tup [vi (Md.E6 p r D (l.take k).reverse).1,vb (Md.E6 p r D (l.take k).reverse).2]):=by
 intro k
 induction k with
 | zero=>
  intro fuel _ hf
  generalize Zj 10 PX _ _ kx _ fuel=KK
  rw[PX]
  simp only[eG,go_sem,Z3 S,Z2 S,zN0,zN1,zN2,zN3,zN4,zI0,zI1,zI2,zI3,reduceCtorEq,Ej S,show ¬(((0:Nat):Int)-1>=0) by omega,List.take_zero,List.reverse_nil,Md.E6]
  exact hx _ rfl rfl
 | succ k ih=>
  intro fuel hk hf
  obtain⟨e,he⟩:=YX (show k<l.length by omega)
  obtain⟨fuel,rfl⟩:∃ m,fuel=m+1:=⟨fuel-1,by omega⟩
  rw[show(((k+1:Nat):Int)-1)=(k:Int) by omega,UJ he]
  generalize hK:Zj 10 PX _ _ kx _ (fuel+1)=KK
  rw[PX]
  simp only[eG,go_sem,Z3 S,Z2 S,zN0,zN1,zN2,zN3,zN4,zI0,zI1,zI2,zI3,reduceCtorEq,Ej S,Zz he,ZV S,WK S,Int.natCast_nonneg,ge_iff_le,wd k (by omega),Md.E6]
  cases h1:Md.D5 (Md.at_ p e.pc) with
  | false=>
   simp only[eG,go_sem,Z3 S,Z2 S,zN0,zN1,zN2,zN3,zN4,zI0,zI1,zI2,zI3,reduceCtorEq,Ej S,Zz he,ZV S,WK S,Int.natCast_nonneg,ge_iff_le,wd k (by omega)]
   rw[<-hK,Z8 (on S _ _ [2,4,5,6,12] (by decide) rfl) rfl _ _ _ _ _ _ _ _ _ rfl]
   simp only[eG,go_sem,Z3 S,Z2 S,zN0,zN1,zN2,zN3,zN4,zI0,zI1,zI2,zI3,reduceCtorEq,Ej S]
   exact ih fuel (by omega) (by omega)
  | true=>
   by_cases h2:(Md.at_ p e.pc).d=r
   ·cases h3:e.done<;>simp only[eG,go_sem,Z3 S,Z2 S,zN0,zN1,zN2,zN3,zN4,zI0,zI1,zI2,zI3,reduceCtorEq,Ej S,Zz he,ZV S,WK S,Int.natCast_nonneg,ge_iff_le,wd k (by omega),h2,h3,Md.DF,h1]
   ·simp only [eG, go_sem, Z3 S, Z2 S, zN0, zN1, zN2, zN3, zN4, zI0, zI1, zI2, zI3, reduceCtorEq, Ej S, Zz he, ZV S, WK S, Int.natCast_nonneg, ge_iff_le, wd k (by omega), h2, Md.DF, h1]
    rw[<-hK,Z8 (on S _ _ [2,4,5,6,12] (by decide) rfl) rfl _ _ _ _ _ _ _ _ _ rfl]
    simp only[eG,go_sem,Z3 S,Z2 S,zN0,zN1,zN2,zN3,zN4,zI0,zI1,zI2,zI3,reduceCtorEq,Ej S]
    exact ih fuel (by omega) (by omega)
theorem Zje (dp:Nat)(p:Prog)(of:Regs)(l:List Ent)(i r:Int)(hl:l.length<1073741824):Z6 E fn (dp+2) 119 [Zw p,.agg (CX of),rD l,vi i,vi r] (.tup [vi (Md.reg p of l i r).1,vb (Md.reg p of l i r).2]):=by
 unfold Z6
 show Zk (Z4 E fn (dp+1+1) 119 [.d (Zw p),.d (.agg (CX of)),.d (rD l),.d (vi i),.d (vi r)] [])=_
 rw[ZK,S.Z9h,ZM,Zeq,ZP _ _ _ _ _ _ _ _ rfl]
 by_cases h:r<0
 ·simp only[eG,go_sem,Z3 S,Z2 S,zN0,zN1,zN2,zN3,zN4,zI0,zI1,zI2,zI3,reduceCtorEq,Ej S,h,Md.reg]
 by_cases h2:r>3
 ·simp only[eG,go_sem,Z3 S,Z2 S,zN0,zN1,zN2,zN3,zN4,zI0,zI1,zI2,zI3,reduceCtorEq,Ej S,h,h2,Md.reg,show 4<=r by omega]
 ·have e:Md.reg p of l i r=Md.E6 p r (Md.Bw of r) (l.take (min i.toNat l.length)).reverse:=by
   unfold Md.reg;rw[if_neg (by omega),Zby]
  rw[e]
  simp only[eG,go_sem,Z3 S,Z2 S,zN0,zN1,zN2,zN3,zN4,zI0,zI1,zI2,zI3,reduceCtorEq,Ej S,h,h2,Z6j,wd _ (show min i.toNat l.length<4611686018427387904 by omega)]
  rw[Y9,Z8 (on S _ _ [2,4,5,6,12] (by decide) rfl) rfl _ _ _ _ _ _ _ _ _ rfl]
  simp only[eG,go_sem,Z3 S,Z2 S,zN0,zN1,zN2,zN3,zN4,zI0,zI1,zI2,zI3,reduceCtorEq,Ej S]
  refine Znz S dp p of l r hl _ (Md.Bw of r) ?_ _ _ (Nat.min_le_right _ _) (by omega)
  intro T h4 h6
  obtain rfl | rfl | rfl | rfl:r=0∨r=1∨r=2∨r=3:=by omega
  ·simp only[eG,go_sem,Z3 S,Z2 S,zN0,zN1,zN2,zN3,zN4,zI0,zI1,zI2,zI3,reduceCtorEq,Ej S,h4,h6,zI2,zI1,Int.toNat_zero,Int.reduceToNat,Nat.zero_mul,Md.Bw];rfl
  ·simp only[eG,go_sem,Z3 S,Z2 S,zN0,zN1,zN2,zN3,zN4,zI0,zI1,zI2,zI3,reduceCtorEq,Ej S,h4,h6,zI2,zI1,Int.reduceToNat,Nat.one_mul,Md.Bw];rfl
  ·simp only[eG,go_sem,Z3 S,Z2 S,zN0,zN1,zN2,zN3,zN4,zI0,zI1,zI2,zI3,reduceCtorEq,Ej S,h4,h6,zI2,zI1,Int.reduceToNat,Md.Bw];rfl
  ·simp only[eG,go_sem,Z3 S,Z2 S,zN0,zN1,zN2,zN3,zN4,zI0,zI1,zI2,zI3,reduceCtorEq,Ej S,h4,h6,zI2,zI1,Int.reduceToNat,Md.Bw];rfl
theorem Zci (dp:Nat)(p_w p_wn p_fu p_r0 p_r1 p_r2 p_r3:Int)(p_ms:List MemT)(p_ls:List Label)(p_is:List Ins)(of_r0 of_r1 of_r2 of_r3:Int)(l:List Ent)(i r:Int)(hl:l.length<1073741824)(A:List Blk)(nb:Nat)(us:List Nat):ZH false E (Z4 E fn (dp+2)) 119 A nb (some ([.agg [vi p_w,vi p_wn,vi p_fu,vi p_r0,vi p_r1,vi p_r2,vi p_r3,rD p_ms,rD p_ls,rD p_is],.agg [vi of_r0,vi of_r1,vi of_r2,vi of_r3],rD l,vi i,vi r],us))=some (.made (.d (.tup [vi (Md.reg (⟨p_w,p_wn,p_fu,⟨p_r0,p_r1,p_r2,p_r3⟩,p_ms,p_ls,p_is⟩:Prog) (⟨of_r0,of_r1,of_r2,of_r3⟩:Regs) l i r).1,vb (Md.reg (⟨p_w,p_wn,p_fu,⟨p_r0,p_r1,p_r2,p_r3⟩,p_ms,p_ls,p_is⟩:Prog) (⟨of_r0,of_r1,of_r2,of_r3⟩:Regs) l i r).2])) []):=
 Z6.flat (Zje S dp (⟨p_w,p_wn,p_fu,⟨p_r0,p_r1,p_r2,p_r3⟩,p_ms,p_ls,p_is⟩:Prog) (⟨of_r0,of_r1,of_r2,of_r3⟩:Regs) l i r hl) (np S 119 (by decide)) (rfl) A nb us
theorem Zj9 (dp:Nat)(p:Prog)(of:Regs)(l:List Ent)(i:Int)(v:Val)(hl:l.length<1073741824):Z6 E fn (dp+3) 74 [Zw p,.agg (CX of),rD l,vi i,.agg (Cl.cells v)] (.tup [vi (Md.val p of l i v).1,vb (Md.val p of l i v).2]):=by
 unfold Z6
 show Zk (Z4 E fn (dp+2+1) 74 [.d (Zw p),.d (.agg (CX of)),.d (rD l),.d (vi i),.d (.agg (Cl.cells v))] [])=_
 rw[ZK,S.Z9c,ZM,Zel,ZP _ _ _ _ _ _ _ _ rfl]
 cases h:v.reg<;>simp only[eG,go_sem,Z3 S,Z2 S,zN0,zN1,zN2,zN3,zN4,zI0,zI1,zI2,zI3,reduceCtorEq,Zmv S,h,Md.val,Zci S,hl,AM S]
theorem Z2g (dp:Nat)(p_w p_wn p_fu p_r0 p_r1 p_r2 p_r3:Int)(p_ms:List MemT)(p_ls:List Label)(p_is:List Ins)(of_r0 of_r1 of_r2 of_r3:Int)(l:List Ent)(i:Int)(v_g:Bool)(v_n:Int)(hl:l.length<1073741824)(A:List Blk)(nb:Nat)(us:List Nat):ZH false E (Z4 E fn (dp+3)) 74 A nb (some ([.agg [vi p_w,vi p_wn,vi p_fu,vi p_r0,vi p_r1,vi p_r2,vi p_r3,rD p_ms,rD p_ls,rD p_is],.agg [vi of_r0,vi of_r1,vi of_r2,vi of_r3],rD l,vi i,.agg [vb v_g,vi v_n]],us))=some (.made (.d (.tup [vi (Md.val (⟨p_w,p_wn,p_fu,⟨p_r0,p_r1,p_r2,p_r3⟩,p_ms,p_ls,p_is⟩:Prog) (⟨of_r0,of_r1,of_r2,of_r3⟩:Regs) l i (⟨v_g,v_n⟩:Val)).1,vb (Md.val (⟨p_w,p_wn,p_fu,⟨p_r0,p_r1,p_r2,p_r3⟩,p_ms,p_ls,p_is⟩:Prog) (⟨of_r0,of_r1,of_r2,of_r3⟩:Regs) l i (⟨v_g,v_n⟩:Val)).2])) []):=
 Z6.flat (Zj9 S dp (⟨p_w,p_wn,p_fu,⟨p_r0,p_r1,p_r2,p_r3⟩,p_ms,p_ls,p_is⟩:Prog) (⟨of_r0,of_r1,of_r2,of_r3⟩:Regs) l i (⟨v_g,v_n⟩:Val) hl) (np S 74 (by decide)) (rfl) A nb us
theorem Zo3 (dp:Nat)(p:Prog)(l:List Ent)(i:Int)(hl:l.length<1073741824)(kx:Nat->K)
  (hx:∀ T,Zk (kx 0 (mk .bot 28 T) [.cells ((ZZ p).map .d) 0 false])=some (vb false)):
  ∀(m k fuel:Nat),k+m=(Md.cut l i).length->m<=fuel->Zk (PT (Zq E 118) (Z4 E fn (dp+1)) (Zj 6 PT (Zq E 118) (Z4 E fn (dp+1)) kx (ZX 0 [.tmp 6]) fuel) kx (ZX 0 [.tmp 6])
   (mk .bot 28 [(1,.d (rD l)),(2,aI i),(3,.ref 0 0 0),(7,aI k)]) [.cells ((ZZ p).map .d) 0 false])=
   some (vb (((Md.cut l i).drop k).any (Md.FJ p))):=by
 intro m
 have hcl:(Md.cut l i).length=min i.toNat l.length:=by simp[Md.cut]
 induction m with
 | zero=>
  intro k fuel hk _
  generalize Zj 6 PT _ _ kx _ fuel=KK
  rw[PT,List.drop_of_length_le (by omega)]
  by_cases h1:(k:Int)<i
  ·simp only [eG, go_sem, Z3 S, Z2 S, zN0, zN1, zN2, zN3, zN4, zI0, zI1, zI2, zI3, reduceCtorEq, MM S, h1, show ¬ (k : Int) < l.length by omega, List.any_nil]
   exact hx _
  ·simp only [eG, go_sem, Z3 S, Z2 S, zN0, zN1, zN2, zN3, zN4, zI0, zI1, zI2, zI3, reduceCtorEq, MM S, h1, List.any_nil]
   exact hx _
 | succ m ih=>
  intro k fuel hk hf
  obtain⟨e,he⟩:=YX (show k<l.length by omega)
  have hc:(Md.cut l i)[k]? =some e:=by unfold Md.cut;rw[List.getElem?_take,if_pos (by omega),he]
  obtain⟨fuel,rfl⟩:∃ m,fuel=m+1:=⟨fuel-1,by omega⟩
  generalize hK:Zj 6 PT _ _ kx _ (fuel+1)=KK
  rw[PT,JQ hc,List.any_cons]
  have h1:(k:Int)<i:=by omega
  have h2:(k:Int)<l.length:=by omega
  by_cases h3:(Md.at_ p e.pc).kind=10
  ·simp only[eG,go_sem,Z3 S,Z2 S,zN0,zN1,zN2,zN3,zN4,zI0,zI1,zI2,zI3,reduceCtorEq,MM S,Zz he,ZV S,wi k (by omega),h1,h2,h3,Md.FJ]
  ·simp only [eG, go_sem, Z3 S, Z2 S, zN0, zN1, zN2, zN3, zN4, zI0, zI1, zI2, zI3, reduceCtorEq, MM S, Zz he, ZV S, wi k (by omega), h1, h2, h3, Md.FJ]
   rw[<-hK,Z8 (on S _ _ [1,2,3,7] (by decide) rfl) rfl _ _ _ _ _ _ _ _ _ rfl]
   simp only[eG,go_sem,Z3 S,Z2 S,zN0,zN1,zN2,zN3,zN4,zI0,zI1,zI2,zI3,reduceCtorEq,MM S,Zz he,ZV S,wi k (by omega),h1,h2]
   exact ih (k+1) fuel (by omega) (by omega)
theorem Zjs (dp:Nat)(p:Prog)(l:List Ent)(i:Int)(hl:l.length<1073741824):Z6 E fn (dp+2) 118 [Zw p,rD l,vi i] (vb (Md.ND p l i)):=by
 unfold Z6
 show Zk (Z4 E fn (dp+1+1) 118 [.d (Zw p),.d (rD l),.d (vi i)] [])=_
 rw[ZK,S.Z9u,ZM,Zf3,ZP _ _ _ _ _ _ _ _ rfl]
 simp only[eG,go_sem,Z3 S,Z2 S,zN0,zN1,zN2,zN3,zN4,zI0,zI1,zI2,zI3,reduceCtorEq,MM S]
 rw[Y9,Z8 (on S _ _ [1,2,3,7] (by decide) rfl) rfl _ _ _ _ _ _ _ _ _ rfl]
 simp only[eG,go_sem,Z3 S,Z2 S,zN0,zN1,zN2,zN3,zN4,zI0,zI1,zI2,zI3,reduceCtorEq,MM S]
 refine Zo3 S dp p l i hl _ ?_ (Md.cut l i).length 0 _ (by omega) (by have:=K1 l i;omega)
 intro T
 simp only[eG,go_sem,Z3 S,Z2 S,zN0,zN1,zN2,zN3,zN4,zI0,zI1,zI2,zI3,reduceCtorEq,MM S]
theorem Zrx (dp:Nat)(p_w p_wn p_fu p_r0 p_r1 p_r2 p_r3:Int)(p_ms:List MemT)(p_ls:List Label)(p_is:List Ins)(l:List Ent)(i:Int)(hl:l.length<1073741824)(A:List Blk)(nb:Nat)(us:List Nat):ZH false E (Z4 E fn (dp+2)) 118 A nb (some ([.agg [vi p_w,vi p_wn,vi p_fu,vi p_r0,vi p_r1,vi p_r2,vi p_r3,rD p_ms,rD p_ls,rD p_is],rD l,vi i],us))=some (.made (.d (vb (Md.ND (⟨p_w,p_wn,p_fu,⟨p_r0,p_r1,p_r2,p_r3⟩,p_ms,p_ls,p_is⟩:Prog) l i))) []):=
 Z6.flat (Zjs S dp (⟨p_w,p_wn,p_fu,⟨p_r0,p_r1,p_r2,p_r3⟩,p_ms,p_ls,p_is⟩:Prog) l i hl) (np S 118 (by decide)) (rfl) A nb us
theorem Zo0 (dp:Nat)(p:Prog)(mem:List Int)(l:List Ent)(addr:Int)(hl:l.length<1073741824)(kx:Nat->K)
  (hx:∀ T,ZT .bot T 1=.d (rD mem)->ZT .bot T 4=aI addr->Zk (kx 0 (mk .bot 73 T) [.cells ((ZZ p).map .d) 0 false])=some (.tup [vi (Md.J5 p mem addr []).1,vi (Md.J5 p mem addr []).2.1,vb (Md.J5 p mem addr []).2.2])):
  ∀(k fuel:Nat),k<=l.length->k<fuel->Zk (PQ (Zq E 73) (Z4 E fn (dp+1)) (Zj 6 PQ (Zq E 73) (Z4 E fn (dp+1)) kx (ZX 0 [.tmp 10,.tmp 11,.tmp 12]) fuel) kx (ZX 0 [.tmp 10,.tmp 11,.tmp 12])
   (mk .bot 73 [(1,.d (rD mem)),(2,.d (rD l)),(4,aI addr),(5,.ref 0 0 0),(13,aI ((k:Int)-1))]) [.cells ((ZZ p).map .d) 0 false])=
   some (.tup [vi (Md.J5 p mem addr (l.take k).reverse).1,vi (Md.J5 p mem addr (l.take k).reverse).2.1,vb (Md.J5 p mem addr (l.take k).reverse).2.2]):=by
 intro k
 induction k with
 | zero=>
  intro fuel _ hf
  generalize Zj 6 PQ _ _ kx _ fuel=KK
  rw[PQ]
  simp only[eG,go_sem,Z3 S,Z2 S,zN0,zN1,zN2,zN3,zN4,zI0,zI1,zI2,zI3,reduceCtorEq,Fv S,show ¬(((0:Nat):Int)-1>=0) by omega,List.take_zero,List.reverse_nil]
  exact hx _ rfl rfl
 | succ k ih=>
  intro fuel hk hf
  obtain⟨e,he⟩:=YX (show k<l.length by omega)
  obtain⟨fuel,rfl⟩:∃ m,fuel=m+1:=⟨fuel-1,by omega⟩
  rw[show(((k+1:Nat):Int)-1)=(k:Int) by omega,UJ he]
  generalize hK:Zj 6 PQ _ _ kx _ (fuel+1)=KK
  rw[PQ]
  have hlen:(l.take k).reverse.length=k:=by simp;omega
  by_cases h1:(Md.at_ p e.pc).kind=3
  ·cases h2 : e.known with
   | true=>
    by_cases h3:e.addr=addr
    ·cases h4:e.done<;>simp only[eG,go_sem,Z3 S,Z2 S,zN0,zN1,zN2,zN3,zN4,zI0,zI1,zI2,zI3,reduceCtorEq,Fv S,Zz he,ZV S,Int.natCast_nonneg,ge_iff_le,wd k (by omega),h1,h2,h3,h4,Md.J5,Md.HN,hlen]
    ·simp only [eG, go_sem, Z3 S, Z2 S, zN0, zN1, zN2, zN3, zN4, zI0, zI1, zI2, zI3, reduceCtorEq, Fv S, Zz he, ZV S, Int.natCast_nonneg, ge_iff_le, wd k (by omega), h1, h2, h3, Md.J5, Md.HN]
     rw[<-hK,Z8 (on S _ _ [1,2,4,5,13] (by decide) rfl) rfl _ _ _ _ _ _ _ _ _ rfl]
     simp only[eG,go_sem,Z3 S,Z2 S,zN0,zN1,zN2,zN3,zN4,zI0,zI1,zI2,zI3,reduceCtorEq,Fv S,Zz he,ZV S,Int.natCast_nonneg,ge_iff_le,wd k (by omega)]
     exact ih fuel (by omega) (by omega)
   | false=>
    simp only[eG,go_sem,Z3 S,Z2 S,zN0,zN1,zN2,zN3,zN4,zI0,zI1,zI2,zI3,reduceCtorEq,Fv S,Zz he,ZV S,Int.natCast_nonneg,ge_iff_le,wd k (by omega),h1,h2,Md.J5,Md.HN]
    rw[<-hK,Z8 (on S _ _ [1,2,4,5,13] (by decide) rfl) rfl _ _ _ _ _ _ _ _ _ rfl]
    simp only[eG,go_sem,Z3 S,Z2 S,zN0,zN1,zN2,zN3,zN4,zI0,zI1,zI2,zI3,reduceCtorEq,Fv S,Zz he,ZV S,Int.natCast_nonneg,ge_iff_le,wd k (by omega)]
    exact ih fuel (by omega) (by omega)
  ·simp only [eG, go_sem, Z3 S, Z2 S, zN0, zN1, zN2, zN3, zN4, zI0, zI1, zI2, zI3, reduceCtorEq, Fv S, Zz he, ZV S, Int.natCast_nonneg, ge_iff_le, wd k (by omega), h1, Md.J5, Md.HN]
   rw[<-hK,Z8 (on S _ _ [1,2,4,5,13] (by decide) rfl) rfl _ _ _ _ _ _ _ _ _ rfl]
   simp only[eG,go_sem,Z3 S,Z2 S,zN0,zN1,zN2,zN3,zN4,zI0,zI1,zI2,zI3,reduceCtorEq,Fv S,Zz he,ZV S,Int.natCast_nonneg,ge_iff_le,wd k (by omega)]
   exact ih fuel (by omega) (by omega)
theorem Zji (dp:Nat)(p:Prog)(mem:List Int)(l:List Ent)(i addr:Int)(hl:l.length<1073741824):Z6 E fn (dp+2) 73 [Zw p,rD mem,rD l,vi i,vi addr] (.tup [vi (Md.load p mem l i addr).1,vi (Md.load p mem l i addr).2.1,vb (Md.load p mem l i addr).2.2]):=by
 unfold Z6
 show Zk (Z4 E fn (dp+1+1) 73 [.d (Zw p),.d (rD mem),.d (rD l),.d (vi i),.d (vi addr)] [])=_
 rw[ZK,S.Z9k,ZM,Zet,ZP _ _ _ _ _ _ _ _ rfl]
 have e:Md.load p mem l i addr=Md.J5 p mem addr (l.take (min i.toNat l.length)).reverse:=by unfold Md.load;rw[Zby]
 rw[e]
 simp only[eG,go_sem,Z3 S,Z2 S,zN0,zN1,zN2,zN3,zN4,zI0,zI1,zI2,zI3,reduceCtorEq,Fv S,Z6j,wd _ (show min i.toNat l.length<4611686018427387904 by omega)]
 rw[Y9,Z8 (on S _ _ [1,2,4,5,13] (by decide) rfl) rfl _ _ _ _ _ _ _ _ _ rfl]
 simp only[eG,go_sem,Z3 S,Z2 S,zN0,zN1,zN2,zN3,zN4,zI0,zI1,zI2,zI3,reduceCtorEq,Fv S]
 refine Zo0 S dp p mem l addr hl _ ?_ _ _ (Nat.min_le_right _ _) (by omega)
 intro T h1 h4
 by_cases h:addr<0
 ·simp only[eG,go_sem,Z3 S,Z2 S,zN0,zN1,zN2,zN3,zN4,zI0,zI1,zI2,zI3,reduceCtorEq,Fv S,h1,h4,h,Md.J5]
 ·by_cases h2 : (mem.length : Int) <= addr
  ·simp only[eG,go_sem,Z3 S,Z2 S,zN0,zN1,zN2,zN3,zN4,zI0,zI1,zI2,zI3,reduceCtorEq,Fv S,h1,h4,h,ge_iff_le,h2,Md.J5]
  ·obtain ⟨e, he⟩ := YX (show addr.toNat < mem.length by omega)
   simp only[eG,go_sem,Z3 S,Z2 S,zN0,zN1,zN2,zN3,zN4,zI0,zI1,zI2,zI3,reduceCtorEq,Fv S,h1,h4,h,ge_iff_le,h2,Md.J5,E5 (show 0<=addr by omega) he,he,Option.getD_some]
theorem CQ (dp:Nat)(p_w p_wn p_fu p_r0 p_r1 p_r2 p_r3:Int)(p_ms:List MemT)(p_ls:List Label)(p_is:List Ins)(mem:List Int)(l:List Ent)(i addr:Int)(hl:l.length<1073741824)(A:List Blk)(nb:Nat)(us:List Nat):ZH false E (Z4 E fn (dp+2)) 73 A nb (some ([.agg [vi p_w,vi p_wn,vi p_fu,vi p_r0,vi p_r1,vi p_r2,vi p_r3,rD p_ms,rD p_ls,rD p_is],rD mem,rD l,vi i,vi addr],us))=some (.made (.d (.tup [vi (Md.load (⟨p_w,p_wn,p_fu,⟨p_r0,p_r1,p_r2,p_r3⟩,p_ms,p_ls,p_is⟩:Prog) mem l i addr).1,vi (Md.load (⟨p_w,p_wn,p_fu,⟨p_r0,p_r1,p_r2,p_r3⟩,p_ms,p_ls,p_is⟩:Prog) mem l i addr).2.1,vb (Md.load (⟨p_w,p_wn,p_fu,⟨p_r0,p_r1,p_r2,p_r3⟩,p_ms,p_ls,p_is⟩:Prog) mem l i addr).2.2])) []):=
 Z6.flat (Zji S dp (⟨p_w,p_wn,p_fu,⟨p_r0,p_r1,p_r2,p_r3⟩,p_ms,p_ls,p_is⟩:Prog) mem l i addr hl) (np S 73 (by decide)) (rfl) A nb us
end
end Go.Aug.Mc
