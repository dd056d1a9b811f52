import Derived.Test.YtmfdoekbjkgckaaGreatEvTy
import Derived.Test.YtmfdoekbjkgckaaGreatMcP
import Derived.Test.YtmfdoekbjkgckaaGreatEvP
import Derived.Test.YtmfdoekbjkgckaaGreatEvPc
namespace Go.Aug.Md
open Go Go.Aug
def J2 (w:Int):Bool:=decide (1<=w)&&decide (w<=16)
def size (w:Int):Int:=bif J2 w then 2^w.toNat else 0
def ZR (w n:Int):Int:=bif J2 w then n%2^w.toNat else 0
def CS (b:Bool):Int:=bif b then 1 else 0
def Y9 (a b:Int):Int:=IntKind.i64.wrap (BitVec.ofInt 64 a&&&BitVec.ofInt 64 b).toNat
def Mk (a b:Int):Int:=IntKind.i64.wrap (BitVec.ofInt 64 a ||| BitVec.ofInt 64 b).toNat
def Mj (a b:Int):Int:=IntKind.i64.wrap (BitVec.ofInt 64 a^^^BitVec.ofInt 64 b).toNat
def shl (w a b:Int):Int:=if b>=w then 0 else ZR w (a*2^b.toNat)
def shr (w a b:Int):Int:=if b>=w then 0 else a.fdiv (2^b.toNat)
def N9 (w op a b:Int):Option Int:=
 if op=1 then some (ZR w (a+b)) else if op=2 then some (ZR w (a-b)) else if op=3 then some (Y9 a b) else if op=4 then some (Mk a b) else if op=5 then some (Mj a b)
 else if op=6 then some (shl w a b) else if op=7 then some (shr w a b) else if op=8 then some (ZR w (a*b)) else if op=9 then some (CS (decide (a<b))) else if op=10 then some (CS (a==b)) else none
def EJ (w op a b:Int):Int:=bif J2 w then(N9 w op (ZR w a) (ZR w b)).getD 0 else 0
def RY (w op a b:Int):Bool:=J2 w&&(N9 w op (ZR w a) (ZR w b)).isSome
def Y1 (n:Int):Int:=IntKind.i64.wrap n
def NF:Ins:=⟨12,0,0,⟨false,0⟩,⟨false,0⟩,⟨#[]⟩,0⟩
def at_ (p:Prog)(pc:Int):Ins:=if 0<=pc then(p.ins[pc.toNat]?).getD NF else NF
def cut (l:List Ent)(n:Int):List Ent:=l.take n.toNat
def BD (r:Regs)(i:Int):Int:=if i=0 then r.r0 else if i=1 then r.r1 else if i=2 then r.r2 else r.r3
def AD (r:Regs)(i n:Int):Regs:=if i=0 then { r with r0:=n } else if i=1 then { r with r1:=n } else if i=2 then { r with r2:=n } else if i=3 then { r with r3:=n } else r
def F5 (i:Ins):Bool:=i.kind==1 || i.kind==2 || i.kind==4
def Kq (i:Ins):Int:=bif F5 i then i.d else 0
def ES (p:Prog)(r d:Int):List Ent->Int×Bool
 | []=>(d,true)
 | e::l=>bif F5 (at_ p e.pc)&&(at_ p e.pc).d==r then(bif e.done then(e.val,true) else(0,false)) else ES p r d l
def reg (p:Prog)(of:Regs)(l:List Ent)(i r:Int):Int×Bool:=
 if r<0∨4<=r then(0,false) else ES p r (BD of r) (cut l i).reverse
def val (p:Prog)(of:Regs)(l:List Ent)(i:Int)(v:Val):Int×Bool:=bif v.reg then reg p of l i v.n else(ZR p.w v.n,true)
def Tk (p:Prog)(e:Ent):Bool:=(at_ p e.pc).kind==10
def X5 (p:Prog)(l:List Ent)(i:Int):Bool:=(cut l i).any (Tk p)
def Mw (p:Prog)(addr:Int)(e:Ent):Bool:=(at_ p e.pc).kind==3&&e.known&&e.addr==addr
def J6 (p:Prog)(mem:List Int)(addr:Int):List Ent->Int×Int×Bool
 | []=>if addr<0∨(mem.length:Int)<=addr then(0,-1,true) else((mem[addr.toNat]?).getD 0,-1,true)
 | e::l=>bif Mw p addr e then(bif e.done then(e.val,(l.length:Int),true) else(0,0,false)) else J6 p mem addr l
def load (p:Prog)(mem:List Int)(l:List Ent)(i addr:Int):Int×Int×Bool:=J6 p mem addr (cut l i).reverse
def K4 (p:Prog)(i addr:Int)(e:Ent):Bool:=(at_ p e.pc).kind==2&&e.known&&e.addr==addr&&decide (e.frm<i)
def AP (p:Prog)(i addr:Int):Nat->List Ent->Int×Bool
 | _,[]=>(0,false)
 | k,e::l=>bif K4 p i addr e then((k:Int),true) else AP p i addr (k+1) l
def D6 (l:List Ent)(i:Int):Nat:=(min i l.length+1).toNat
def JH (p:Prog)(l:List Ent)(i addr:Int):Int×Bool:=AP p i addr (D6 l i) (l.drop (D6 l i))
def QV (p:Prog):List Ent->List Int->Option (List Int)
 | [],out=>some out
 | e::l,out=>
  if(at_ p e.pc).kind=8 then(if 4<=out.length then none else QV p l (out++[Y1 (e.pc+1)]))
  else if(at_ p e.pc).kind=9 then(if out.length=0 then none else QV p l out.dropLast)
  else QV p l out
def real (p:Prog)(st:List Int)(l:List Ent)(i:Int):Option (List Int):=QV p (cut l i) st
def push (l:List Int)(pc:Int):List Int:=(l++[pc]).drop (l.length-1)
end Go.Aug.Md
namespace Go.Aug.Md
open Go Go.Aug
theorem V3 {w:Int}:J2 w=true↔1<=w/\w<=16:=by simp[J2]
theorem V2 {w:Int}(h:J2 w=true):∃ k:Nat,w=k/\1<=k/\k<=16:=by
 obtain⟨h1,h2⟩:=V3.1 h
 exact⟨w.toNat,by omega,by omega,by omega⟩
theorem UX {k:Nat}(h:k<=16):(2:Int)^k<=65536:=by
 have:(2:Nat)^k<=2^16:=Nat.pow_le_pow_right (by omega) h
 have e:(2:Int)^k=((2^k:Nat):Int):=by simp
 rw[e];omega
theorem N5 (k:Nat):(0:Int)<2^k:=by
 have:=Nat.two_pow_pos k
 have e:(2:Int)^k=((2^k:Nat):Int):=by simp
 rw[e];omega
theorem Zcs {k:Nat}(h:k<=16):(2:Int)^k ∣ 18446744073709551616:=by
 have:(2:Nat)^k ∣ 2^64:=Nat.pow_dvd_pow 2 (by omega)
 have e:(2:Int)^k=((2^k:Nat):Int):=by simp
 rw[e]
 exact Int.natCast_dvd_natCast.2 this
theorem EW (w n:Int):0<=ZR w n:=by
 unfold ZR
 cases h:J2 w with
 | true=>exact Int.emod_nonneg _ (by have:=N5 w.toNat;omega)
 | false=>exact Int.le_refl _
theorem Z2p {w:Int}(n:Int)(h:J2 w=true):ZR w n<2^w.toNat:=by
 unfold ZR;rw[h]
 exact Int.emod_lt_of_pos _ (N5 _)
theorem Z2q (w n:Int):ZR w n<=65535:=by
 cases h:J2 w with
 | true=>
  have h1:=Z2p n h
  obtain⟨k,rfl,h2,h3⟩:=V2 h
  have:=UX h3
  rw[Int.toNat_natCast] at h1
  omega
 | false=>unfold ZR;rw[h];show(0:Int)<=65535;omega
theorem PX {w n:Int}(h:J2 w=true)(h0:0<=n)(h1:n<2^w.toNat):ZR w n=n:=by
 unfold ZR;rw[h]
 exact Int.emod_eq_of_lt h0 h1
theorem Z91 (n:Int):(IntKind.i64.wrap n)%18446744073709551616=n%18446744073709551616:=by
 simp[IntKind.wrap,IntKind.bits,IntKind.signed];omega
theorem Jx (w n:Int):ZR w (IntKind.i64.wrap n)=ZR w n:=by
 unfold ZR
 cases h:J2 w with
 | true=>
  obtain⟨k,rfl,_,h3⟩:=V2 h
  have hd:=Zcs h3
  rw[Int.toNat_natCast]
  show IntKind.i64.wrap n%2^k=n%2^k
  rw[<-Int.emod_emod_of_dvd _ hd,Z91,Int.emod_emod_of_dvd _ hd]
 | false=>rfl
theorem Zaf (n:Int){s:Int}(h:0<s):((n.tmod s)+s).tmod s=n%s:=by
 have e:=Int.tmod_eq_emod (a:=n) (b:=s)
 have h0:0<=n%s:=Int.emod_nonneg _ (by omega)
 have hs:(s.natAbs:Int)=s:=by omega
 have h2:0<=n.tmod s+s:=by
  rw[e];split<;>omega
 rw[Int.tmod_eq_emod_of_nonneg h2,Int.add_emod_right,e]
 split
 ·simp
 ·rw[hs,Int.sub_emod,Int.emod_self,Int.sub_zero,Int.emod_emod,Int.emod_emod]
theorem Ze2 {n:Int}{k:Nat}(h0:0<=n)(h1:n<2^k):∃ m:Nat,n=m/\m<2^k:=by
 obtain⟨m,rfl⟩:=Int.eq_ofNat_of_zero_le h0
 refine⟨m,rfl,?_⟩
 have e:(2:Int)^k=((2^k:Nat):Int):=by simp
 rw[e] at h1;omega
theorem NR {m:Nat}(h:m<65536):(BitVec.ofInt 64 (m:Int)).toNat=m:=by
 rw[BitVec.ofInt_natCast,BitVec.toNat_ofNat]
 exact Nat.mod_eq_of_lt (by omega)
theorem Zfo {a b:Nat}(ha:a<65536)(hb:b<65536):Y9 a b=((a&&&b:Nat):Int):=by
 unfold Y9
 rw[BitVec.toNat_and,NR ha,NR hb]
 have:a&&&b<=a:=Nat.and_le_left
 exact YM (by omega) (by omega)
theorem Zfl {a b:Nat}(ha:a<65536)(hb:b<65536):Mk a b=((a ||| b:Nat):Int):=by
 unfold Mk
 rw[BitVec.toNat_or,NR ha,NR hb]
 have:a ||| b<2^16:=Nat.or_lt_two_pow ha hb
 exact YM (by omega) (by omega)
theorem Zfa {a b:Nat}(ha:a<65536)(hb:b<65536):Mj a b=((a^^^b:Nat):Int):=by
 unfold Mj
 rw[BitVec.toNat_xor,NR ha,NR hb]
 have:a^^^b<2^16:=Nat.xor_lt_two_pow ha hb
 exact YM (by omega) (by omega)
theorem TP {m k:Nat}(h:m<2^k):(m:Int)<2^k:=by
 have e:(2:Int)^k=((2^k:Nat):Int):=by simp
 rw[e];omega
section
variable {w:Int} (h:J2 w=true) (a b:Int)
include h
theorem M9:∃ x:Nat,ZR w a=x/\x<2^w.toNat/\x<65536:=by
 obtain⟨x,h1,h2⟩:=Ze2 (EW w a) (Z2p a h)
 have:=Z2q w a
 exact⟨x,h1,h2,by omega⟩
theorem Zeh:ZR w (Y9 (ZR w a) (ZR w b))=Y9 (ZR w a) (ZR w b):=by
 obtain⟨x,hx,x1,x2⟩:=M9 h a
 obtain⟨y,hy,y1,y2⟩:=M9 h b
 rw[hx,hy,Zfo x2 y2]
 exact PX h (by omega) (TP (Nat.and_lt_two_pow _ y1))
theorem Zeg:ZR w (Mk (ZR w a) (ZR w b))=Mk (ZR w a) (ZR w b):=by
 obtain⟨x,hx,x1,x2⟩:=M9 h a
 obtain⟨y,hy,y1,y2⟩:=M9 h b
 rw[hx,hy,Zfl x2 y2]
 exact PX h (by omega) (TP (Nat.or_lt_two_pow x1 y1))
theorem Zef:ZR w (Mj (ZR w a) (ZR w b))=Mj (ZR w a) (ZR w b):=by
 obtain⟨x,hx,x1,x2⟩:=M9 h a
 obtain⟨y,hy,y1,y2⟩:=M9 h b
 rw[hx,hy,Zfa x2 y2]
 exact PX h (by omega) (TP (Nat.xor_lt_two_pow x1 y1))
theorem Z2m:ZR w 0=0:=PX h (by omega) (N5 _)
theorem Z2n (n:Nat):ZR w ((ZR w a).fdiv (2^n))=(ZR w a).fdiv (2^n):=by
 obtain⟨x,hx,x1,x2⟩:=M9 h a
 have e:(2:Int)^n=((2^n:Nat):Int):=by simp
 have:(ZR w a).fdiv (2^n)=((x/2^n:Nat):Int):=by
  rw[hx,e,Int.fdiv_eq_ediv_of_nonneg _ (Int.natCast_nonneg _)];rfl
 rw[this]
 exact PX h (Int.natCast_nonneg _) (TP (Nat.lt_of_le_of_lt (Nat.div_le_self _ _) x1))
end
end Go.Aug.Md
namespace Go.Aug.Mc
open Go Go.Aug
def TH:List Nat:=[11*1000+30,44*1000+79,22*1000+49,4*1000+17,44*1000+1000000,46*1000+1000000,79*1000+1000000,19*1000+1000000,20*1000+1000000,22*1000+1000000,6*1000+1000000,5*1000+1000000,4*1000+1000000,3*1000+1000000,7*1000+1000000,10*1000+1000000,153*1000+117,135*1000+117,138*1000+116,114*1000+116,110*1000+116,99999*1000+1000000,26*1000+1000000,8*1000+1000000,123*1000+1000000,76*1000+1000000,77*1000+1000000,78*1000+1000000,17*1000+1000000,68*1000+1000000,38*1000+1000000,49*1000+1000000,27*1000+1000000,30*1000+1000000,112*1000+1000000,153*1000+1000000,18*1000+1000000,38*1000+68,76*1000+120,67*1000+115,115*1000+117,65*1000+67]
attribute [go_sem] TH Mv Bool.beq_eq_decide_eq bne decide_true decide_false List.mem_cons List.not_mem_nil or_false false_or or_true true_or Nat.not_lt_zero Bool.true_and Bool.false_and Bool.and_true Bool.and_false Bool.or_true Bool.or_false Bool.true_or Bool.false_or
attribute [go_sem ↓] Zh1 Zh2
def PR:List Nat:=[116,117,99999,99999,99999,99999,15,99999,99999,99999,99999,99999,99999]
def KT:List DV->Option (AV×List Blk)
 | []=>some (.d (.v (.bool true)),[])
 | _=>none
structure Sur (E:Env) (fn:FuncId->Option (Env->cT->cT)):Prop extends Fns fn where
 lv:∀ f k,k<1000000->E.lives f k=P7 f k
 br:∀ g,ZW g E.br=ZW g [112,113,141,142,123,31,34,33,81]
 tq:∀ f g,(ZW g E.th || G3 (E.lives f (CU g)))=ZW (f*1000+g) TH
 pn:∀ g,ZW g PR=false->E.prim g=none
 pe:E.prim 116=some (NP 8 48)
 pi:E.prim 117=some (NP 1 8)
 bk:E.back 157=some (8,true)
variable {E:Env} {fn:FuncId->Option (Env->cT->cT)}
theorem Z1 (S:Sur E fn)(g:Nat):ZW g E.br=ZW g [112,113,141,142,123,31,34,33,81]:=S.br g
theorem Z2 (S:Sur E fn)(f g:Nat):(ZW g E.th || G3 (E.lives f (CU g)))=ZW (f*1000+g) TH:=S.tq f g
theorem off (S:Sur E fn)(f k:Nat)(hk:k<1000000)(h:P7 f k=none):E.lives f k=none:=by rw[S.lv f k hk];exact h
theorem on (S:Sur E fn)(f k:Nat)(l:List Nat)(hk:k<1000000)(h:P7 f k=some l):E.lives f k=some l:=by rw[S.lv f k hk];exact h
theorem np (S:Sur E fn)(g:Nat)(h:ZW g PR=false):E.prim g=none:=S.pn g h
theorem Z03 {α:Type}{l:List α}{k:Nat}{e:α}(h:l[k]? =some e):l.take (k+1)=l.take k++[e]:=by rw[List.take_add_one,h];rfl
theorem Z01 {α:Type}{l:List α}{k:Nat}{e:α}(h:l[k]? =some e):(l.take (k+1)).reverse=e::(l.take k).reverse:=by rw[Z03 h,List.reverse_append];rfl
theorem E9 {α:Type}{l:List α}{k:Nat}{e:α}(h:l[k]? =some e):l.drop k=e::l.drop (k+1):=by
 obtain⟨hi,rfl⟩:=List.getElem?_eq_some_iff.1 h
 exact List.drop_eq_getElem_cons hi
theorem QB {α:Type}{l:List α}{k:Nat}(h:k<l.length):∃ e,l[k]? =some e:=⟨l[k],List.getElem?_eq_getElem h⟩
theorem wi (k:Nat)(h:k<4611686018427387904):IntKind.i64.wrap ((k:Int)+1)=((k+1:Nat):Int):=by rw[YM (by omega) (by omega)];omega
theorem wd (k:Nat)(h:k<4611686018427387904):IntKind.i64.wrap ((k:Int)-1)=(k:Int)-1:=by rw[YM (by omega) (by omega)]
theorem Z2i (i:Int)(n:Nat):min (max i 0) (n:Int)=((min i.toNat n:Nat):Int):=by omega
theorem Z68 (l:List Ent)(i:Int):Md.cut l i=l.take (min i.toNat l.length):=by
 unfold Md.cut
 by_cases h:i.toNat<=l.length
 ·rw[Nat.min_eq_left h]
 ·rw[List.take_of_length_le (by omega),List.take_of_length_le (by omega)]
theorem Zq {α:Type}(l:List α):rep l 1=l:=by simp[rep]
theorem YE {α:Type}(l:List α):rep l 0=[]:=rfl
theorem Zi0 {g:FuncId}(h:E.prim g=some KT)(call:cT)(A:List Blk)(nb:Nat):ZX false E call g A nb (some ([],[]))=some (.made (ZZ true) []):=by
 simp only[ZX,Jz,h,KT];rfl
theorem Rk (l:List Ent)(n:Int):(Md.cut l n).length<=l.length:=by unfold Md.cut;simp;omega
open Nat renaming reduceLT -> zN0, reduceEqDiff -> zN1, reduceAdd -> zN2, reduceMul -> zN3, reduceLeDiff -> zN4
open Int renaming reduceEq -> zI0, reduceLT -> zI1, reduceLE -> zI2, reduceNeg -> zI3
set_option linter.unusedSimpArgs false
set_option linter.unusedVariables false
set_option maxHeartbeats 40000000
variable {E:Env} {fn:FuncId->Option (Env->cT->cT)}
section
variable (S:Sur E fn)
include S
theorem Zdq:E.lives 144 7=none:=off S 144 7 (by decide) rfl
theorem Zdp:E.lives 69 7=none:=off S 69 7 (by decide) rfl
theorem Vk:E.lives 70 7=none:=off S 70 7 (by decide) rfl
theorem T0:E.lives 143 7=none:=off S 143 7 (by decide) rfl
theorem Zbj (dp:Nat)(b:Bool):Z7 E fn (dp+1) 144 [vb b] (vi (Md.CS b)):=by
 unfold Z7
 show Zz (Z5 E fn (dp+1) 144 [.d (vb b)] [])=_
 rw[Yx,S.Z56,Yw,Z8r,Yq _ _ _ _ _ _ _ _ rfl]
 cases b<;>simp only[eG,go_sem,Z2 S,Z1 S,zN0,zN1,zN2,zN3,zN4,zI0,zI1,zI2,zI3,reduceCtorEq,Zdq S]<;>rfl
theorem Zi6 (dp:Nat)(b:Bool)(A:List Blk)(nb:Nat)(us:List Nat):ZX false E (Z5 E fn (dp+1)) 144 A nb (some ([vb b],us))=some (.made (.d (vi (Md.CS b))) []):=
 Z7.flat (Zbj S dp b ) (np S 144 (by decide)) (rfl) A nb us
theorem Zaq (dp:Nat)(b:Bool):Z7 E fn (dp+1) 69 [vb b] (vi (Md.CS b)):=by
 unfold Z7
 show Zz (Z5 E fn (dp+1) 69 [.d (vb b)] [])=_
 rw[Yx,S.Z4a,Yw,Z7v,Yq _ _ _ _ _ _ _ _ rfl]
 cases b<;>simp only[eG,go_sem,Z2 S,Z1 S,zN0,zN1,zN2,zN3,zN4,zI0,zI1,zI2,zI3,reduceCtorEq,Zdp S]<;>rfl
theorem Zi1 (dp:Nat)(b:Bool)(A:List Blk)(nb:Nat)(us:List Nat):ZX false E (Z5 E fn (dp+1)) 69 A nb (some ([vb b],us))=some (.made (.d (vi (Md.CS b))) []):=
 Z7.flat (Zaq S dp b ) (np S 69 (by decide)) (rfl) A nb us
theorem Zbh (dp:Nat)(p:Prog)(pc:Int):Z7 E fn (dp+1) 70 [ZP p,vi pc] (.agg (Cl.cells (Md.at_ p pc))):=by
 unfold Z7
 show Zz (Z5 E fn (dp+1) 70 [.d (ZP p),.d (vi pc)] [])=_
 rw[Yx,S.Z54,Yw,Z8p,Yq _ _ _ _ _ _ _ _ rfl]
 by_cases h:pc<0
 ·simp only[eG,go_sem,Z2 S,Z1 S,zN0,zN1,zN2,zN3,zN4,zI0,zI1,zI2,zI3,reduceCtorEq,Vk S,h,decide_true,Md.at_,show ¬0<=pc by omega,Md.NF]
 ·obtain ⟨i, rfl⟩ := Int.eq_ofNat_of_zero_le (show 0 <= pc by omega)
  cases hx:p.ins[i]? with
  | none=>
   have hl:(i:Int)>=p.ins.length:=by have:=List.getElem?_eq_none_iff.1 hx;omega
   simp only[eG,go_sem,Z2 S,Z1 S,zN0,zN1,zN2,zN3,zN4,zI0,zI1,zI2,zI3,reduceCtorEq,Vk S,h,hl,decide_true,decide_false,Md.at_,Int.natCast_nonneg,Int.toNat_natCast,hx,Option.getD_none,Md.NF]
  | some e=>
   have hl:¬(i:Int)>=p.ins.length:=by have:=(List.getElem?_eq_some_iff.1 hx).1;omega
   simp only[eG,go_sem,Z2 S,Z1 S,zN0,zN1,zN2,zN3,zN4,zI0,zI1,zI2,zI3,reduceCtorEq,Vk S,h,hl,decide_true,decide_false,Md.at_,Int.natCast_nonneg,Int.toNat_natCast,hx,Option.getD_some,ZF hx]
theorem Zv (dp:Nat)(p_w p_wn p_fu p_r0 p_r1 p_r2 p_r3:Int)(p_ms:List MemT)(p_ls:List Label)(p_is:List Ins)(pc:Int)(A:List Blk)(nb:Nat)(us:List Nat):ZX false E (Z5 E fn (dp+1)) 70 A nb (some ([.agg [vi p_w,vi p_wn,vi p_fu,vi p_r0,vi p_r1,vi p_r2,vi p_r3,rD p_ms,rD p_ls,rD p_is],vi pc],us))=some (.made (.d (.agg (Cl.cells (Md.at_ (⟨p_w,p_wn,p_fu,⟨p_r0,p_r1,p_r2,p_r3⟩,p_ms,p_ls,p_is⟩:Prog) pc)))) []):=
 Z7.flat (Zbh S dp (⟨p_w,p_wn,p_fu,⟨p_r0,p_r1,p_r2,p_r3⟩,p_ms,p_ls,p_is⟩:Prog) pc ) (np S 70 (by decide)) (rfl) A nb us
theorem Zb7 (dp:Nat)(x:Ins):Z7 E fn (dp+1) 143 [.agg (Cl.cells x)] (.tup [vi (Md.Kq x),vb (Md.F5 x)]):=by
 unfold Z7
 show Zz (Z5 E fn (dp+1) 143 [.d (.agg (Cl.cells x))] [])=_
 rw[Yx,S.Z4r,Yw,Z8c,Yq _ _ _ _ _ _ _ _ rfl]
 by_cases h1:x.kind=1
 ·simp only[eG,go_sem,Z2 S,Z1 S,zN0,zN1,zN2,zN3,zN4,zI0,zI1,zI2,zI3,reduceCtorEq,T0 S,h1,Md.Kq,Md.F5]
 ·by_cases h2 : x.kind = 2
  ·simp only[eG,go_sem,Z2 S,Z1 S,zN0,zN1,zN2,zN3,zN4,zI0,zI1,zI2,zI3,reduceCtorEq,T0 S,h2,Md.Kq,Md.F5]
  ·by_cases h4 : x.kind = 4
   ·simp only[eG,go_sem,Z2 S,Z1 S,zN0,zN1,zN2,zN3,zN4,zI0,zI1,zI2,zI3,reduceCtorEq,T0 S,h4,Md.Kq,Md.F5]
   ·simp only[eG,go_sem,Z2 S,Z1 S,zN0,zN1,zN2,zN3,zN4,zI0,zI1,zI2,zI3,reduceCtorEq,T0 S,h1,h2,h4,Md.Kq,Md.F5]
theorem TQ (dp:Nat)(x_k x_o x_d:Int)(x_ag:Bool)(x_an:Int)(x_bg:Bool)(x_bn:Int)(x_nm:ByteArray)(x_tg:Int)(A:List Blk)(nb:Nat)(us:List Nat):ZX false E (Z5 E fn (dp+1)) 143 A nb (some ([.agg [vi x_k,vi x_o,vi x_d,vb x_ag,vi x_an,vb x_bg,vi x_bn,vt x_nm,vi x_tg]],us))=some (.made (.d (.tup [vi (Md.Kq (⟨x_k,x_o,x_d,⟨x_ag,x_an⟩,⟨x_bg,x_bn⟩,x_nm,x_tg⟩:Ins)),vb (Md.F5 (⟨x_k,x_o,x_d,⟨x_ag,x_an⟩,⟨x_bg,x_bn⟩,x_nm,x_tg⟩:Ins))])) []):=
 Z7.flat (Zb7 S dp (⟨x_k,x_o,x_d,⟨x_ag,x_an⟩,⟨x_bg,x_bn⟩,x_nm,x_tg⟩:Ins) ) (np S 143 (by decide)) (rfl) A nb us
end
theorem Z64 (k:K)(tm:List AV)(A:List Blk):Gj [] k tm A=k tm A:=id rfl
variable {E:Env} {fn:FuncId->Option (Env->cT->cT)}
section
variable (S:Sur E fn)
include S
theorem HS:E.lives 37 1=none/\E.lives 37 7=none/\E.lives 37 17=none:=⟨off S 37 1 (by decide) rfl,off S 37 7 (by decide) rfl,off S 37 17 (by decide) rfl⟩
theorem Zes (dp:Nat)(a b:List Int)(hl:a.length<1073741824)(hab:a.length=b.length)(kx:Nat->K)(hx:∀ T,Zz (kx 0 (mk .bot 26 T) [])=some (vb true)):∀ m k f,k+m=a.length->m<=f->
  Zz (MU (Zj E 37) (Z5 E fn dp) (Z9 10 MU (Zj E 37) (Z5 E fn dp) kx (YD 0 [.tmp 4]) f) kx (YD 0 [.tmp 4]) (mk .bot 26 [(0,.d (rD a)),(1,.d (rD b)),(5,aI k)]) [])=
  some (vb (decide (a.drop k=b.drop k))):=by
 intro m
 induction m with
 | zero=>
  intro k f hk _
  obtain rfl:k=a.length:=by omega
  generalize Z9 10 MU _ _ kx _ f=KK
  rw[MU,show a.drop a.length=[] from List.drop_length,show b.drop a.length=[] by rw[hab];exact List.drop_length]
  simp only[eG,go_sem,Z2 S,Z1 S,zN0,zN1,zN2,zN3,zN4,zI0,zI1,zI2,zI3,reduceCtorEq,HS S,Int.lt_irrefl]
  exact hx _
 | succ m ih=>
  intro k f hk hf
  obtain⟨e,he⟩:=QB (show k<a.length by omega)
  obtain⟨e',he'⟩:=QB (show k<b.length by omega)
  obtain⟨f,rfl⟩:∃ g,f=g+1:=⟨f-1,by omega⟩
  generalize hK:Z9 10 MU _ _ kx _ (f+1)=KK
  rw[MU,E9 he,E9 he']
  by_cases h:e=e'
  ·subst h
   simp only[eG,go_sem,Z2 S,Z1 S,zN0,zN1,zN2,zN3,zN4,zI0,zI1,zI2,zI3,reduceCtorEq,HS S,show(k:Int)<a.length by omega,ZF he,ZF he',wi k (by omega),Z64]
   rw[<-hK,Z6 (on S _ _ [0,1,5] (by decide) rfl) rfl _ _ _ _ _ _ _ _ _ rfl]
   simp only[eG,go_sem,Z2 S,Z1 S,zN0,zN1,zN2,zN3,zN4,zI0,zI1,zI2,zI3,reduceCtorEq,HS S]
   have:=ih (k+1) f (by omega) (by omega)
   simp only[List.cons.injEq,true_and]
   exact this
  ·simp only [eG, go_sem, Z2 S, Z1 S, zN0, zN1, zN2, zN3, zN4, zI0, zI1, zI2, zI3, reduceCtorEq, HS S, show (k : Int) < a.length by omega, ZF he, ZF he', wi k (by omega), Z64, eq_false h]
   simp[h]
theorem Zbl (dp:Nat)(a b:List Int)(hl:a.length<1073741824):Z7 E fn (dp+1) 37 [rD a,rD b] (vb (decide (a=b))):=by
 unfold Z7
 show Zz (Z5 E fn (dp+1) 37 [.d (rD a),.d (rD b)] [])=_
 rw[Yx,S.Z58,Yw,Z8t,Yq _ _ _ _ _ _ _ _ rfl]
 by_cases hab:a.length=b.length
 ·simp only [eG, go_sem, Z2 S, Z1 S, zN0, zN1, zN2, zN3, zN4, zI0, zI1, zI2, zI3, reduceCtorEq, HS S, hab, not_true_eq_false]
  rw[ZU,Z6 (on S _ _ [0,1,5] (by decide) rfl) rfl _ _ _ _ _ _ _ _ _ rfl]
  simp only[eG,go_sem,Z2 S,Z1 S,zN0,zN1,zN2,zN3,zN4,zI0,zI1,zI2,zI3,reduceCtorEq,HS S]
  refine Zes S dp a b hl hab _ ?_ a.length 0 _ (by omega) (by omega)
  intro T
  simp only[eG,go_sem,Z2 S,Z1 S,zN0,zN1,zN2,zN3,zN4,zI0,zI1,zI2,zI3,reduceCtorEq,HS S]
 ·have hne : ¬ a = b := fun e => hab (by rw [e])
  simp only[eG,go_sem,Z2 S,Z1 S,zN0,zN1,zN2,zN3,zN4,zI0,zI1,zI2,zI3,reduceCtorEq,HS S,show ¬((a.length:Int)=b.length) by omega,not_false_eq_true,eq_false hne]
theorem Zi7 (dp:Nat)(a b:List Int)(hl:a.length<1073741824)(A:List Blk)(nb:Nat)(us:List Nat):ZX false E (Z5 E fn (dp+1)) 37 A nb (some ([rD a,rD b],us))=some (.made (.d (vb (decide (a=b)))) []):=
 Z7.flat (Zbl S dp a b hl) (np S 37 (by decide)) (rfl) A nb us
end
end Go.Aug.Mc
namespace Go.Aug
open Go
set_option linter.unusedSimpArgs false
theorem EU (E:Env)(l:Nat->Option (List Nat))(m:Nat)(call:cT)(tm:List AV)(A:List Blk)(nb:Nat)(g:FuncId)(args:List Opd)(h:ZW g E.br=true):
  oK (.f g) args { br:=E.br,th:=E.th,prim:=E.prim,back:=E.back,lives:=E.lives,live:=l,nb0:=m } call tm A nb=ME call g (args.map (look tm)) A (Q1 A 0 100000 ((args.map (look tm)).flatMap (YT 8)) []):=by
 show Gz { br:=E.br,th:=E.th,prim:=E.prim,back:=E.back,lives:=E.lives,live:=l,nb0:=m } call A nb (some (g,args.map (look tm)++[]))=_
 rw[List.append_nil]
 show DS { br:=E.br,th:=E.th,prim:=E.prim,back:=E.back,lives:=E.lives,live:=l,nb0:=m } call g (args.map (look tm)) A nb=_
 unfold DS
 show(bif ZW g E.br then _ else _)=_
 rw[h,cond_true]
theorem F9 (call:cT)(f:FuncId)(args:List AV)(A:List Blk)(ids:List Nat):ME call f args A ids=H5 A ids (Y4 A ids) (call f (args.map (YA A 0 ids 8)) (ZV A 0 ids)):=id rfl
theorem Fj (A:List Blk)(ids vs:List Nat)(x:AV)(B:List Blk):H5 A ids vs (some (x,B))=bif Nat.ble ids.length B.length&&DT vs B then some (.turned (Qj ids vs A.length 8 x) (Bx ids vs A.length A ids vs B++(B.drop ids.length).map (Jk ids vs A.length 0))) else none:=id rfl
theorem GC (A:List Blk)(ids vs:List Nat)(b:Bool)(x y:Option (AV×List Blk)):H5 A ids vs (bif b then x else y)=bif b then H5 A ids vs x else H5 A ids vs y:=by cases b<;>rfl
def XK:Option Blk->Nat
 | some (.cells _ v _)=>v
 | _=>0
theorem Fq (cs:List AV)(v:Nat)(ro:Bool):XK (some (.cells cs v ro))=v:=id rfl
theorem Fz (A:List Blk):Y4 A []=[]:=id rfl
theorem Fw (A:List Blk)(i:Nat)(l:List Nat):Y4 A (i::l)=XK A[i]? ::Y4 A l:=by
 show(Q4 A i).getD 0::Y4 A l=_
 unfold Q4
 cases A[i]? with
 | none=>rfl
 | some b=>cases b<;>rfl
theorem FT (B:List Blk):DT [] B=true:=id rfl
theorem FU (v:Nat)(vs:List Nat)(cs:List AV)(w:Nat)(ro:Bool)(bs:List Blk):DT (v::vs) (.cells cs w ro::bs)=DT vs bs:=id rfl
theorem FE (ids vs:List Nat)(nb n:Nat)(y:DV):Qj ids vs nb (n+1) (.d y)=.d y:=id rfl
theorem FF (ids vs:List Nat)(nb n:Nat)(cs:List AV):Qj ids vs nb (n+1) (.agg cs)=.agg (cs.map (Qj ids vs nb n)):=id rfl
theorem FC (ids vs:List Nat)(nb n:Nat)(cs:List AV):Qj ids vs nb (n+1) (.tup cs)=.tup (cs.map (Qj ids vs nb n)):=id rfl
def Ux (o len sz:Nat)(k:Option Nat)(v0 v nb:Nat):Option Nat->AV
 | some i=>.sref i v0 o len sz k
 | none=>.sref nb v o len sz k
theorem FG (o len sz:Nat)(k:Option Nat)(v0 v nb i:Nat):Ux o len sz k v0 v nb (some i)=.sref i v0 o len sz k:=id rfl
theorem FH (o len sz:Nat)(k:Option Nat)(v0 v nb:Nat):Ux o len sz k v0 v nb none=.sref nb v o len sz k:=id rfl
theorem FD (ids vs:List Nat)(nb n m v o len sz:Nat)(k:Option Nat):Qj ids vs nb (n+1) (.sref m v o len sz k)=Ux o len sz k (vs.getD m 0+v) v (nb+(m-ids.length)) ids[m]? :=by
 show(match ids[m]? with | some i=>AV.sref i (vs.getD m 0+v) o len sz k | none=>.sref (nb+(m-ids.length)) v o len sz k)=_
 cases ids[m]? <;>rfl
theorem EN (ids vs:List Nat)(nb n:Nat):(Qj ids vs nb (n+1)) ∘ AV.d=AV.d:=rfl
theorem EM (ids vs:List Nat)(nb n:Nat)(l:List DV):(l.map AV.d).map (Qj ids vs nb (n+1))=l.map AV.d:=by rw[List.map_map,EN]
theorem EP (ids vs:List Nat)(nb dv:Nat)(cs:List AV)(v:Nat)(ro:Bool):Jk ids vs nb dv (.cells cs v ro)=.cells (cs.map (Qj ids vs nb 8)) (dv+v) ro:=id rfl
theorem FQ (ids vs:List Nat)(nb:Nat)(A:List Blk)(us:List Nat)(bs:List Blk):Bx ids vs nb A [] us bs=A:=by cases us<;>cases bs<;>rfl
theorem FR (ids vs:List Nat)(nb:Nat)(A:List Blk)(i:Nat)(is:List Nat)(v:Nat)(us:List Nat)(b:Blk)(bs:List Blk):Bx ids vs nb A (i::is) (v::us) (b::bs)=Bx ids vs nb (A.set i (Jk ids vs nb v b)) is us bs:=id rfl
theorem Z5q (n0:Nat)(x:AV)(A:List Blk):Cj n0 (some (x,A))=some (YA A n0 (Q1 A n0 100000 (YT 8 x++(A.take n0).flatMap fun b=>DC (some b)) []) 8 x,ZV A n0 (Q1 A n0 100000 (YT 8 x++(A.take n0).flatMap fun b=>DC (some b)) [])):=id rfl
def Z0d (n0 v:Nat):Option Blk->Option Nat->Option (Nat×Nat)
 | some (.cells _ v' _),some m=>if v'=v then some (n0+m,0) else none
 | some (.iter _ _),some m=>if 0=v then some (n0+m,0) else none
 | _,_=>none
theorem Z0c (n0 v v':Nat)(cs:List AV)(ro:Bool)(m:Nat):Z0d n0 v (some (.cells cs v' ro)) (some m)=if v'=v then some (n0+m,0) else none:=id rfl
theorem Z73 {α:Type}(a b:Nat)(x y:α):(bif Nat.beq a b then x else y)=if a=b then x else y:=by
 by_cases h:a=b
 ·subst h;simp
 ·have:Nat.beq a b=false:=by
   cases hb:Nat.beq a b with
   | false=>rfl
   | true=>exact absurd (Nat.eq_of_beq_eq_true hb) h
  rw[this,if_neg h];rfl
theorem Z0b (A:List Blk)(n0:Nat)(ids:List Nat)(i v:Nat):spot A n0 ids i v=if i<n0 then some (i,v) else Z0d n0 v A[i]? (Q8 ids i):=by
 show(bif Nat.blt i n0 then _ else _)=_
 by_cases h:i<n0
 ·rw[show Nat.blt i n0=true from Nat.ble_eq_true_of_le h,if_pos h];rfl
 ·have hb:Nat.blt i n0=false:=by
   cases hq:Nat.blt i n0 with
   | false=>rfl
   | true=>exact absurd (Nat.le_of_ble_eq_true hq) h
  rw[hb,cond_false,if_neg h]
  unfold Q4
  cases A[i]? with
  | none=>rfl
  | some b=>
   cases b with
   | cells cs v' ro=>
    cases Q8 ids i with
    | none=>rfl
    | some m=>exact Z73 _ _ _ _
   | iter s p=>
    cases Q8 ids i with
    | none=>rfl
    | some m=>exact Z73 _ _ _ _
   | free=>rfl
theorem Z1g (A:List Blk)(n0:Nat)(ids:List Nat):ZV A n0 ids=(A.take n0).map (AE A n0 ids true)++ids.map fun i=>AE A n0 ids false (A.getD i .free):=id rfl
theorem Z1h (A:List Blk)(n0:Nat)(ids:List Nat)(keep:Bool)(cs:List AV)(v:Nat)(ro:Bool):AE A n0 ids keep (.cells cs v ro)=.cells (cs.map (YA A n0 ids 8)) (bif keep then v else 0) ro:=id rfl
theorem ZB (len s nb:Nat)(cs:List AV):GU true len s nb (some cs)=M6 len s nb cs (CM cs):=id rfl
theorem ZC (len s nb:Nat)(cs:List AV)(ds:List DV):M6 len s nb cs (some ds)=some (.made (.d (.lst ds len (some len))) []):=id rfl
theorem ZD:CM []=some []:=id rfl
theorem ZE (x:DV)(l:List AV):CM (.d x::l)=(CM l).map (x:: ·):=id rfl
section
variable {l:List Ent} {k:Nat} {e:Ent}
theorem Zg3 (h:k<l.length):(l.set k e)[k]? =some e:=by rw[List.getElem?_set_self h]
theorem WE (h:k<l.length)(j:Nat)(hj:j<=8):((rC (l.set k e)).map AV.d).drop (k*8+j)=((Cl.cells e).map AV.d).drop j++((rC (l.drop (k+1))).map AV.d):=by
 have e2:l.set k e=l.take k++e::l.drop (k+1):=List.set_eq_take_append_cons_drop.trans (if_pos h)
 have e3:rC (l.set k e)=rC (l.take k)++(Cl.cells e++rC (l.drop (k+1))):=by rw[e2,DB];rfl
 have hl:(rC (l.take k)).length=k*8:=by rw[QH,List.length_take,Nat.min_eq_left (by omega)];rfl
 have hl':((rC (l.take k)).map AV.d).length=k*8:=by rw[List.length_map,hl]
 rw[e3]
 simp only[List.map_append]
 rw[<-hl',<-List.drop_drop,List.drop_left,List.drop_append_of_le_length (by simpa [Z6k] using hj)]
section
variable (h:k<l.length)
include h
theorem B1:AY false 1 (((rC (l.set k e)).map AV.d).drop (k*8))=some (.d (vi e.pc)):=by
 have:=WE (e:=e) h 0 (by decide)
 rw[Nat.add_zero] at this;rw[this];rfl
theorem JU:AY false 1 (((rC (l.set k e)).map AV.d).drop (k*8+2))=some (.d (vi e.addr)):=by rw[WE h 2 (by decide)];rfl
theorem Z36:AY false 1 (((rC (l.set k e)).map AV.d).drop (k*8+4))=some (.d (vi e.next)):=by rw[WE h 4 (by decide)];rfl
theorem wr (i v o:Nat)(A:List Blk)(e':Ent)(x:DV)(h1:AV.one (.d x)=true)(ho:o<8)(hs:splice (Cl.cells e) o [x]=Cl.cells e'):
  storeAt A i v (k*8+o) [.d x] 1 (some (.cells ((rC (l.set k e)).map .d) v false))=some (A.set i (.cells ((rC (l.set k e')).map .d) v false)):=by
 have:=MX (A:=A) (i:=i) (v:=v) (o:=o) (n:=1) (e':=e') (xs:=[.d x]) [x] (Zg3 (e:=e) h) rfl rfl (by simp[h1]) hs (by simp;exact ho) 8 rfl (k*8+o) rfl
 rw[this,List.set_set]
theorem BN (i v:Nat)(A:List Blk)(n:Int):storeAt A i v (k*8+1) [.d (vi n)] 1 (some (.cells ((rC (l.set k e)).map .d) v false))=some (A.set i (.cells ((rC (l.set k { e with val:=n })).map .d) v false)):=wr h i v 1 A _ _ rfl (by decide) rfl
theorem BM (i v:Nat)(A:List Blk)(n:Int):storeAt A i v (k*8+2) [.d (vi n)] 1 (some (.cells ((rC (l.set k e)).map .d) v false))=some (A.set i (.cells ((rC (l.set k { e with addr:=n })).map .d) v false)):=wr h i v 2 A _ _ rfl (by decide) rfl
theorem BK (i v:Nat)(A:List Blk)(n:Int):storeAt A i v (k*8+3) [.d (vi n)] 1 (some (.cells ((rC (l.set k e)).map .d) v false))=some (A.set i (.cells ((rC (l.set k { e with frm:=n })).map .d) v false)):=wr h i v 3 A _ _ rfl (by decide) rfl
theorem Z93 (i v:Nat)(A:List Blk)(n:Int):storeAt A i v (k*8+4) [.d (vi n)] 1 (some (.cells ((rC (l.set k e)).map .d) v false))=some (A.set i (.cells ((rC (l.set k { e with next:=n })).map .d) v false)):=wr h i v 4 A _ _ rfl (by decide) rfl
theorem Az (i v:Nat)(A:List Blk)(b:Bool):storeAt A i v (k*8+6) [.d (vb b)] 1 (some (.cells ((rC (l.set k e)).map .d) v false))=some (A.set i (.cells ((rC (l.set k { e with known:=b })).map .d) v false)):=wr h i v 6 A _ _ rfl (by decide) rfl
theorem Ax (i v:Nat)(A:List Blk)(b:Bool):storeAt A i v (k*8+7) [.d (vb b)] 1 (some (.cells ((rC (l.set k e)).map .d) v false))=some (A.set i (.cells ((rC (l.set k { e with fault:=b })).map .d) v false)):=wr h i v 7 A _ _ rfl (by decide) rfl
end
theorem JK (n:Nat)(hn:n<=l.length):n*8<=((rC l).map AV.d).length:=by
 rw[List.length_map,QH];exact Nat.mul_le_mul_right _ hn
theorem JY (A:List Blk)(m n:Nat):Y8 (deep A (m+1)) (((rC l).map AV.d).take (n*8))=some (rC (l.take n),[]):=by
 rw[<-List.map_take,show n*8=n*Cl.n Ent from rfl,Px,FY]
theorem JQ:DV.lst (rC (l.set k e)) l.length none=rD (l.set k e):=by
 unfold rD;rw[List.length_set]
theorem JR (n:Nat)(hn:n=l.length):(l.set k e).take n=l.set k e:=List.take_of_length_le (by rw[List.length_set];omega)
end
end Go.Aug
