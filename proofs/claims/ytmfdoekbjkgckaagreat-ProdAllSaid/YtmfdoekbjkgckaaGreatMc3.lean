import Derived.Test.YtmfdoekbjkgckaaGreatEvTy
import Derived.Test.YtmfdoekbjkgckaaGreatMcP
import Derived.Test.YtmfdoekbjkgckaaGreatEvP
import Derived.Test.YtmfdoekbjkgckaaGreatEvPc
namespace Go.Aug.Md
open Go Go.Aug
def JB (w:Int):Bool:=decide (1<=w)&&decide (w<=16)
def size (w:Int):Int:=bif JB w then 2^w.toNat else 0
def Y4 (w n:Int):Int:=bif JB w then n%2^w.toNat else 0
def R7 (b:Bool):Int:=bif b then 1 else 0
def YK (a b:Int):Int:=IntKind.i64.wrap (BitVec.ofInt 64 a&&&BitVec.ofInt 64 b).toNat
def N9 (a b:Int):Int:=IntKind.i64.wrap (BitVec.ofInt 64 a ||| BitVec.ofInt 64 b).toNat
def N8 (a b:Int):Int:=IntKind.i64.wrap (BitVec.ofInt 64 a^^^BitVec.ofInt 64 b).toNat
def shl (w a b:Int):Int:=if b>=w then 0 else Y4 w (a*2^b.toNat)
def shr (w a b:Int):Int:=if b>=w then 0 else a.fdiv (2^b.toNat)
def TV (w op a b:Int):Option Int:=
 if op=1 then some (Y4 w (a+b)) else if op=2 then some (Y4 w (a-b)) else if op=3 then some (YK a b) else if op=4 then some (N9 a b) else if op=5 then some (N8 a b)
 else if op=6 then some (shl w a b) else if op=7 then some (shr w a b) else if op=8 then some (Y4 w (a*b)) else if op=9 then some (R7 (decide (a<b))) else if op=10 then some (R7 (a==b)) else none
def Hq (w op a b:Int):Int:=bif JB w then(TV w op (Y4 w a) (Y4 w b)).getD 0 else 0
def T4 (w op a b:Int):Bool:=JB w&&(TV w op (Y4 w a) (Y4 w b)).isSome
def YC (n:Int):Int:=IntKind.i64.wrap n
def M3:Ins:=⟨12,0,0,⟨false,0⟩,⟨false,0⟩,⟨#[]⟩,0⟩
def at_ (p:Prog)(pc:Int):Ins:=if 0<=pc then(p.ins[pc.toNat]?).getD M3 else M3
def cut (l:List Ent)(n:Int):List Ent:=l.take n.toNat
def Av (r:Regs)(i:Int):Int:=if i=0 then r.r0 else if i=1 then r.r1 else if i=2 then r.r2 else r.r3
def CW (r:Regs)(i n:Int):Regs:=if i=0 then { r with r0:=n } else if i=1 then { r with r1:=n } else if i=2 then { r with r2:=n } else if i=3 then { r with r3:=n } else r
def BZ (i:Ins):Bool:=i.kind==1 || i.kind==2 || i.kind==4
def Ck (i:Ins):Int:=bif BZ i then i.d else 0
def CY (p:Prog)(r d:Int):List Ent->Int×Bool
 | []=>(d,true)
 | e::l=>bif BZ (at_ p e.pc)&&(at_ p e.pc).d==r then(bif e.done then(e.val,true) else(0,false)) else CY p r d l
def reg (p:Prog)(of:Regs)(l:List Ent)(i r:Int):Int×Bool:=
 if r<0∨4<=r then(0,false) else CY p r (Av of r) (cut l i).reverse
def val (p:Prog)(of:Regs)(l:List Ent)(i:Int)(v:Val):Int×Bool:=bif v.reg then reg p of l i v.n else(Y4 p.w v.n,true)
def Ev (p:Prog)(e:Ent):Bool:=(at_ p e.pc).kind==10
def K0 (p:Prog)(l:List Ent)(i:Int):Bool:=(cut l i).any (Ev p)
def GN (p:Prog)(addr:Int)(e:Ent):Bool:=(at_ p e.pc).kind==3&&e.known&&e.addr==addr
def QK (p:Prog)(mem:List Int)(addr:Int):List Ent->Int×Int×Bool
 | []=>if addr<0∨(mem.length:Int)<=addr then(0,-1,true) else((mem[addr.toNat]?).getD 0,-1,true)
 | e::l=>bif GN p addr e then(bif e.done then(e.val,(l.length:Int),true) else(0,0,false)) else QK p mem addr l
def load (p:Prog)(mem:List Int)(l:List Ent)(i addr:Int):Int×Int×Bool:=QK p mem addr (cut l i).reverse
def M1 (p:Prog)(i addr:Int)(e:Ent):Bool:=(at_ p e.pc).kind==2&&e.known&&e.addr==addr&&decide (e.frm<i)
def Bx (p:Prog)(i addr:Int):Nat->List Ent->Int×Bool
 | _,[]=>(0,false)
 | k,e::l=>bif M1 p i addr e then((k:Int),true) else Bx p i addr (k+1) l
def DF (l:List Ent)(i:Int):Nat:=(min i l.length+1).toNat
def A6 (p:Prog)(l:List Ent)(i addr:Int):Int×Bool:=Bx p i addr (DF l i) (l.drop (DF l i))
def JC (p:Prog):List Ent->List Int->Option (List Int)
 | [],out=>some out
 | e::l,out=>
  if(at_ p e.pc).kind=8 then(if 4<=out.length then none else JC p l (out++[YC (e.pc+1)]))
  else if(at_ p e.pc).kind=9 then(if out.length=0 then none else JC p l out.dropLast)
  else JC p l out
def real (p:Prog)(st:List Int)(l:List Ent)(i:Int):Option (List Int):=JC p (cut l i) st
def push (l:List Int)(pc:Int):List Int:=(l++[pc]).drop (l.length-1)
end Go.Aug.Md
namespace Go.Aug.Md
open Go Go.Aug
theorem WP {w:Int}:JB w=true↔1<=w/\w<=16:=by simp[JB]
theorem RS {w:Int}(h:JB w=true):∃ k:Nat,w=k/\1<=k/\k<=16:=by
 obtain⟨h1,h2⟩:=WP.1 h
 exact⟨w.toNat,by omega,by omega,by omega⟩
theorem RK {k:Nat}(h:k<=16):(2:Int)^k<=65536:=by
 have:(2:Nat)^k<=2^16:=Nat.pow_le_pow_right (by omega) h
 have e:(2:Int)^k=((2^k:Nat):Int):=by simp
 rw[e];omega
theorem HD (k:Nat):(0:Int)<2^k:=by
 have:=Nat.two_pow_pos k
 have e:(2:Int)^k=((2^k:Nat):Int):=by simp
 rw[e];omega
theorem Z3g {k:Nat}(h:k<=16):(2:Int)^k ∣ 18446744073709551616:=by
 have:(2:Nat)^k ∣ 2^64:=Nat.pow_dvd_pow 2 (by omega)
 have e:(2:Int)^k=((2^k:Nat):Int):=by simp
 rw[e]
 exact Int.natCast_dvd_natCast.2 this
theorem Px (w n:Int):0<=Y4 w n:=by
 unfold Y4
 cases h:JB w with
 | true=>exact Int.emod_nonneg _ (by have:=HD w.toNat;omega)
 | false=>exact Int.le_refl _
theorem Z4k {w:Int}(n:Int)(h:JB w=true):Y4 w n<2^w.toNat:=by
 unfold Y4;rw[h]
 exact Int.emod_lt_of_pos _ (HD _)
theorem Z4l (w n:Int):Y4 w n<=65535:=by
 cases h:JB w with
 | true=>
  have h1:=Z4k n h
  obtain⟨k,rfl,h2,h3⟩:=RS h
  have:=RK h3
  rw[Int.toNat_natCast] at h1
  omega
 | false=>unfold Y4;rw[h];show(0:Int)<=65535;omega
theorem S0 {w n:Int}(h:JB w=true)(h0:0<=n)(h1:n<2^w.toNat):Y4 w n=n:=by
 unfold Y4;rw[h]
 exact Int.emod_eq_of_lt h0 h1
theorem Zc6 (n:Int):(IntKind.i64.wrap n)%18446744073709551616=n%18446744073709551616:=by
 simp[IntKind.wrap,IntKind.bits,IntKind.signed];omega
theorem JS (w n:Int):Y4 w (IntKind.i64.wrap n)=Y4 w n:=by
 unfold Y4
 cases h:JB w with
 | true=>
  obtain⟨k,rfl,_,h3⟩:=RS h
  have hd:=Z3g h3
  rw[Int.toNat_natCast]
  show IntKind.i64.wrap n%2^k=n%2^k
  rw[<-Int.emod_emod_of_dvd _ hd,Zc6,Int.emod_emod_of_dvd _ hd]
 | false=>rfl
theorem Zni {k:Nat}(n:Int)(h:k<=16):DJ .and .i64 n ((2^k:Int)-1)=some (.int .i64 (n%2^k)):=by
 have e1:((2^k:Int)-1)=((2^k-1:Nat):Int):=by
  have:=Nat.two_pow_pos k
  have e:(2:Int)^k=((2^k:Nat):Int):=by simp
  rw[e];omega
 obtain⟨r,hr,he⟩:=Z4i n k (by omega)
 rw[e1,he]
 have h2:(BitVec.ofInt 64 n&&&BitVec.ofInt 64 ((2^k-1:Nat):Int)).toNat=(n%2^k).toNat:=by
  have hp:2^k<=2^62:=Nat.pow_le_pow_right (by omega) (by omega)
  rw[BitVec.toNat_and]
  have:(BitVec.ofInt 64 ((2^k-1:Nat):Int)).toNat=2^k-1:=by
   rw[BitVec.ofInt_natCast,BitVec.toNat_ofNat]
   exact Nat.mod_eq_of_lt (by omega)
  rw[this,Nat.and_two_pow_sub_one_eq_mod,BitVec.toNat_ofInt]
  have hd:=Z3g h
  have e3:((n%(2^64:Nat)).toNat%2^k:Nat)=((n%(2^64:Nat))%(2^k:Int)).toNat:=by
   have h0:0<=n%(2^64:Nat):=Int.emod_nonneg _ (by omega)
   obtain⟨m,hm⟩:=Int.eq_ofNat_of_zero_le h0
   rw[hm]
   have e:(2:Int)^k=((2^k:Nat):Int):=by simp
   rw[e,Int.toNat_natCast,<-Int.natCast_emod,Int.toNat_natCast]
  rw[e3]
  congr 1
  exact Int.emod_emod_of_dvd _ hd
 have h3:DJ .and .i64 n ((2^k-1:Nat):Int)=some (.int .i64 (IntKind.i64.wrap ((BitVec.ofInt 64 n&&&BitVec.ofInt 64 ((2^k-1:Nat):Int)).toNat:Nat))):=rfl
 rw[he] at h3
 rw[h3,h2]
 have h4:0<=n%2^k:=Int.emod_nonneg _ (by have:=HD k;omega)
 have h5:n%2^k<2^k:=Int.emod_lt_of_pos _ (HD k)
 have h6:=RK h
 rw[Int.toNat_of_nonneg h4,YX (by omega) (by omega)]
theorem Zdv (n:Int){s:Int}(h:0<s):((n.tmod s)+s).tmod s=n%s:=by
 have e:=Int.tmod_eq_emod (a:=n) (b:=s)
 have h0:0<=n%s:=Int.emod_nonneg _ (by omega)
 have hs:(s.natAbs:Int)=s:=by omega
 have h2:0<=n.tmod s+s:=by
  rw[e];split<;>omega
 rw[Int.tmod_eq_emod_of_nonneg h2,Int.add_emod_right,e]
 split
 ·simp
 ·rw[hs,Int.sub_emod,Int.emod_self,Int.sub_zero,Int.emod_emod,Int.emod_emod]
theorem Zi6 {n:Int}{k:Nat}(h0:0<=n)(h1:n<2^k):∃ m:Nat,n=m/\m<2^k:=by
 obtain⟨m,rfl⟩:=Int.eq_ofNat_of_zero_le h0
 refine⟨m,rfl,?_⟩
 have e:(2:Int)^k=((2^k:Nat):Int):=by simp
 rw[e] at h1;omega
theorem PS {m:Nat}(h:m<65536):(BitVec.ofInt 64 (m:Int)).toNat=m:=by
 rw[BitVec.ofInt_natCast,BitVec.toNat_ofNat]
 exact Nat.mod_eq_of_lt (by omega)
theorem Zjw {a b:Nat}(ha:a<65536)(hb:b<65536):YK a b=((a&&&b:Nat):Int):=by
 unfold YK
 rw[BitVec.toNat_and,PS ha,PS hb]
 have:a&&&b<=a:=Nat.and_le_left
 exact YX (by omega) (by omega)
theorem Zju {a b:Nat}(ha:a<65536)(hb:b<65536):N9 a b=((a ||| b:Nat):Int):=by
 unfold N9
 rw[BitVec.toNat_or,PS ha,PS hb]
 have:a ||| b<2^16:=Nat.or_lt_two_pow ha hb
 exact YX (by omega) (by omega)
theorem Zjm {a b:Nat}(ha:a<65536)(hb:b<65536):N8 a b=((a^^^b:Nat):Int):=by
 unfold N8
 rw[BitVec.toNat_xor,PS ha,PS hb]
 have:a^^^b<2^16:=Nat.xor_lt_two_pow ha hb
 exact YX (by omega) (by omega)
theorem V0 {m k:Nat}(h:m<2^k):(m:Int)<2^k:=by
 have e:(2:Int)^k=((2^k:Nat):Int):=by simp
 rw[e];omega
section
variable {w:Int} (h:JB w=true) (a b:Int)
include h
theorem N7:∃ x:Nat,Y4 w a=x/\x<2^w.toNat/\x<65536:=by
 obtain⟨x,h1,h2⟩:=Zi6 (Px w a) (Z4k a h)
 have:=Z4l w a
 exact⟨x,h1,h2,by omega⟩
theorem Zin:Y4 w (YK (Y4 w a) (Y4 w b))=YK (Y4 w a) (Y4 w b):=by
 obtain⟨x,hx,x1,x2⟩:=N7 h a
 obtain⟨y,hy,y1,y2⟩:=N7 h b
 rw[hx,hy,Zjw x2 y2]
 exact S0 h (by omega) (V0 (Nat.and_lt_two_pow _ y1))
theorem Zim:Y4 w (N9 (Y4 w a) (Y4 w b))=N9 (Y4 w a) (Y4 w b):=by
 obtain⟨x,hx,x1,x2⟩:=N7 h a
 obtain⟨y,hy,y1,y2⟩:=N7 h b
 rw[hx,hy,Zju x2 y2]
 exact S0 h (by omega) (V0 (Nat.or_lt_two_pow x1 y1))
theorem Zil:Y4 w (N8 (Y4 w a) (Y4 w b))=N8 (Y4 w a) (Y4 w b):=by
 obtain⟨x,hx,x1,x2⟩:=N7 h a
 obtain⟨y,hy,y1,y2⟩:=N7 h b
 rw[hx,hy,Zjm x2 y2]
 exact S0 h (by omega) (V0 (Nat.xor_lt_two_pow x1 y1))
theorem Z4g:Y4 w 0=0:=S0 h (by omega) (HD _)
theorem Z4h (n:Nat):Y4 w ((Y4 w a).fdiv (2^n))=(Y4 w a).fdiv (2^n):=by
 obtain⟨x,hx,x1,x2⟩:=N7 h a
 have e:(2:Int)^n=((2^n:Nat):Int):=by simp
 have:(Y4 w a).fdiv (2^n)=((x/2^n:Nat):Int):=by
  rw[hx,e,Int.fdiv_eq_ediv_of_nonneg _ (Int.natCast_nonneg _)];rfl
 rw[this]
 exact S0 h (Int.natCast_nonneg _) (V0 (Nat.lt_of_le_of_lt (Nat.div_le_self _ _) x1))
end
end Go.Aug.Md
namespace Go.Aug.Mc
open Go Go.Aug
def TH:List Nat:=[11*1000+30,44*1000+79,22*1000+49,4*1000+17,44*1000+1000000,46*1000+1000000,79*1000+1000000,19*1000+1000000,20*1000+1000000,22*1000+1000000,6*1000+1000000,5*1000+1000000,4*1000+1000000,3*1000+1000000,7*1000+1000000,10*1000+1000000,153*1000+117,135*1000+117,138*1000+116,114*1000+116,110*1000+116,99999*1000+1000000,26*1000+1000000,8*1000+1000000,123*1000+1000000,76*1000+1000000,77*1000+1000000,78*1000+1000000,17*1000+1000000,68*1000+1000000,38*1000+1000000,49*1000+1000000,27*1000+1000000,30*1000+1000000,112*1000+1000000,153*1000+1000000,18*1000+1000000,38*1000+68,76*1000+120,67*1000+115,115*1000+117,65*1000+67]
attribute [go_sem] TH Nx Bool.beq_eq_decide_eq bne decide_true decide_false List.mem_cons List.not_mem_nil or_false false_or or_true true_or Nat.not_lt_zero Bool.true_and Bool.false_and Bool.and_true Bool.and_false Bool.or_true Bool.or_false Bool.true_or Bool.false_or
attribute [go_sem ↓] Zl4 Zl5
def PR:List Nat:=[116,117,99999,99999,99999,99999,15,99999,99999,99999,99999,99999,99999]
def MM:List DV->Option (AV×List Blk)
 | []=>some (.d (.v (.bool true)),[])
 | _=>none
structure Sur (E:Env) (fn:FuncId->Option (Env->cT->cT)):Prop extends Fns fn where
 lv:∀ f k,k<1000000->E.lives f k=R8 f k
 br:∀ g,Yv g E.br=Yv g [112,113,141,142,123,31,34,33,81]
 tq:∀ f g,(Yv g E.th || GK (E.lives f (Dx g)))=Yv (f*1000+g) TH
 pn:∀ g,Yv g PR=false->E.prim g=none
 pe:E.prim 116=some (Mj 8 48)
 pi:E.prim 117=some (Mj 1 8)
 bk:E.back 157=some (8,true)
variable {E:Env} {fn:FuncId->Option (Env->cT->cT)}
theorem Z1 (S:Sur E fn)(g:Nat):Yv g E.br=Yv g [112,113,141,142,123,31,34,33,81]:=S.br g
theorem Z2 (S:Sur E fn)(f g:Nat):(Yv g E.th || GK (E.lives f (Dx g)))=Yv (f*1000+g) TH:=S.tq f g
theorem off (S:Sur E fn)(f k:Nat)(hk:k<1000000)(h:R8 f k=none):E.lives f k=none:=by rw[S.lv f k hk];exact h
theorem on (S:Sur E fn)(f k:Nat)(l:List Nat)(hk:k<1000000)(h:R8 f k=some l):E.lives f k=some l:=by rw[S.lv f k hk];exact h
theorem np (S:Sur E fn)(g:Nat)(h:Yv g PR=false):E.prim g=none:=S.pn g h
theorem Zml (S:Sur E fn){l:List Ent}(h:l.length<1073741824)(call:cT)(A:List Blk)(nb:Nat):Y1 false E call 116 A nb (some ([rD l],[]))=some (.made (.d (rD l)) []):=
 Zls S.pe rfl l (by unfold Z4;omega) A nb
theorem Z21 {α:Type}{l:List α}{k:Nat}{e:α}(h:l[k]? =some e):l.take (k+1)=l.take k++[e]:=by rw[List.take_add_one,h];rfl
theorem Tk {α:Type}{l:List α}{k:Nat}{e:α}(h:l[k]? =some e):(l.take (k+1)).reverse=e::(l.take k).reverse:=by rw[Z21 h,List.reverse_append];rfl
theorem BK {α:Type}{l:List α}{k:Nat}{e:α}(h:l[k]? =some e):l.drop k=e::l.drop (k+1):=by
 obtain⟨hi,rfl⟩:=List.getElem?_eq_some_iff.1 h
 exact List.drop_eq_getElem_cons hi
theorem QB {α:Type}{l:List α}{k:Nat}(h:k<l.length):∃ e,l[k]? =some e:=⟨l[k],List.getElem?_eq_getElem h⟩
theorem wi (k:Nat)(h:k<4611686018427387904):IntKind.i64.wrap ((k:Int)+1)=((k+1:Nat):Int):=by rw[YX (by omega) (by omega)];omega
theorem wd (k:Nat)(h:k<4611686018427387904):IntKind.i64.wrap ((k:Int)-1)=(k:Int)-1:=by rw[YX (by omega) (by omega)]
theorem Z4c (i:Int)(n:Nat):min (max i 0) (n:Int)=((min i.toNat n:Nat):Int):=by omega
theorem Z8q (l:List Ent)(i:Int):Md.cut l i=l.take (min i.toNat l.length):=by
 unfold Md.cut
 by_cases h:i.toNat<=l.length
 ·rw[Nat.min_eq_left h]
 ·rw[List.take_of_length_le (by omega),List.take_of_length_le (by omega)]
theorem Z8 {α:Type}(l:List α):rep l 1=l:=by simp[rep]
theorem YW {α:Type}(l:List α):rep l 0=[]:=rfl
theorem V3 {g:FuncId}(h:E.prim g=some MM)(call:cT)(A:List Blk)(nb:Nat):Y1 false E call g A nb (some ([],[]))=some (.made (YB true) []):=by
 simp only[Y1,JZ,h,MM];rfl
theorem HU (l:List Ent)(n:Int):(Md.cut l n).length<=l.length:=by unfold Md.cut;simp;omega
open Nat renaming reduceLT -> zN0, reduceEqDiff -> zN1, reduceAdd -> zN2, reduceMul -> zN3, reduceLeDiff -> zN4
open Int renaming reduceEq -> zI0, reduceLT -> zI1, reduceLE -> zI2, reduceNeg -> zI3
set_option linter.unusedSimpArgs false
set_option linter.unusedVariables false
set_option maxHeartbeats 40000000
variable {E:Env} {fn:FuncId->Option (Env->cT->cT)}
section
variable (S:Sur E fn)
include S
theorem Zhr:E.lives 144 7=none:=off S 144 7 (by decide) rfl
theorem WW:E.lives 84 7=none:=off S 84 7 (by decide) rfl
theorem WY:E.lives 70 7=none:=off S 70 7 (by decide) rfl
theorem U8:E.lives 156 7=none:=off S 156 7 (by decide) rfl
theorem U9:E.lives 143 7=none:=off S 143 7 (by decide) rfl
theorem Ze3 (dp:Nat)(w:Int):Z6 E fn (dp+1) 149 [vi w] (vb (Md.JB w)):=by
 unfold Z6
 show Zw (Z5 E fn (dp+1) 149 [.d (vi w)] [])=_
 rw[ZU,S.Z5z,ZW,Za7,ZY _ _ _ _ _ _ _ _ rfl]
 by_cases h:1<=w<;>simp only[eG,go_sem,Z2 S,Z1 S,zN0,zN1,zN2,zN3,zN4,zI0,zI1,zI2,zI3,reduceCtorEq,ge_iff_le,h,decide_true,decide_false,Bool.true_and,Bool.false_and,Md.JB]
theorem V2 (dp:Nat)(w:Int)(A:List Blk)(nb:Nat)(us:List Nat):Y1 false E (Z5 E fn (dp+1)) 149 A nb (some ([vi w],us))=some (.made (.d (vb (Md.JB w))) []):=
 Z6.flat (Ze3 S dp w ) (np S 149 (by decide)) (rfl) A nb us
theorem Zfq (dp:Nat)(c:Conf):Z6 E fn (dp+1) 83 [ZV c] (vb (c.end_ !=0)):=by
 unfold Z6
 show Zw (Z5 E fn (dp+1) 83 [.d (ZV c)] [])=_
 rw[ZU,S.Z7t,ZW,Zc1,ZY _ _ _ _ _ _ _ _ rfl]
 simp only[eG,go_sem,Z2 S,Z1 S,zN0,zN1,zN2,zN3,zN4,zI0,zI1,zI2,zI3,reduceCtorEq]
theorem D9 (dp:Nat)(c_r0 c_r1 c_r2 c_r3:Int)(c_mm c_st:List Int)(c_pc:Int)(c_bf:List Ent)(c_rb:List Int)(c_en:Int)(A:List Blk)(nb:Nat)(us:List Nat):Y1 false E (Z5 E fn (dp+1)) 83 A nb (some ([.agg [vi c_r0,vi c_r1,vi c_r2,vi c_r3,rD c_mm,rD c_st,vi c_pc,rD c_bf,rD c_rb,vi c_en]],us))=some (.made (.d (vb ((⟨⟨⟨c_r0,c_r1,c_r2,c_r3⟩,c_mm,c_st,c_pc⟩,c_bf,c_rb,c_en⟩:Conf).end_ !=0))) []):=
 Z6.flat (Zfq S dp (⟨⟨⟨c_r0,c_r1,c_r2,c_r3⟩,c_mm,c_st,c_pc⟩,c_bf,c_rb,c_en⟩:Conf) ) (np S 83 (by decide)) (rfl) A nb us
theorem Zfa (dp:Nat)(b:Bool):Z6 E fn (dp+1) 144 [vb b] (vi (Md.R7 b)):=by
 unfold Z6
 show Zw (Z5 E fn (dp+1) 144 [.d (vb b)] [])=_
 rw[ZU,S.Z7d,ZW,Zbl,ZY _ _ _ _ _ _ _ _ rfl]
 cases b<;>simp only[eG,go_sem,Z2 S,Z1 S,zN0,zN1,zN2,zN3,zN4,zI0,zI1,zI2,zI3,reduceCtorEq,Zhr S]<;>rfl
theorem Zmf (dp:Nat)(b:Bool)(A:List Blk)(nb:Nat)(us:List Nat):Y1 false E (Z5 E fn (dp+1)) 144 A nb (some ([vb b],us))=some (.made (.d (vi (Md.R7 b))) []):=
 Z6.flat (Zfa S dp b ) (np S 144 (by decide)) (rfl) A nb us
theorem Zed (dp:Nat)(l:List Ent)(n:Int)(hl:l.length<1073741824):Z6 E fn (dp+2) 109 [rD l,vi n] (rD (Md.cut l n)):=by
 unfold Z6
 show Zw (Z5 E fn (dp+1+1) 109 [.d (rD l),.d (vi n)] [])=_
 rw[ZU,S.Z6e,ZW,Zam,ZY _ _ _ _ _ _ _ _ rfl]
 have hc:=HU l n
 have h2:AX l.length none (some (aI (min (max n 0) l.length))) none=some (0,(min (max n 0) (l.length:Int)).toNat,l.length):=HZ _ _ _ (by omega) (by omega)
 have h3:l.take (min (max n 0) (l.length:Int)).toNat=Md.cut l n:=by
  unfold Md.cut
  by_cases h:n.toNat<=l.length
  ·congr 1;omega
  ·rw[List.take_of_length_le (by omega),List.take_of_length_le (by omega)]
 simp only[eG,go_sem,Z2 S,Z1 S,zN0,zN1,zN2,zN3,zN4,zI0,zI1,zI2,zI3,reduceCtorEq,h2,h3,Zml S (show(Md.cut l n).length<1073741824 by omega),List.drop_zero,Nat.sub_zero]
theorem Z0j (dp:Nat)(l:List Ent)(n:Int)(hl:l.length<1073741824)(A:List Blk)(nb:Nat):Y1 false E (Z5 E fn (dp+2)) 109 A nb (some ([rD l,vi n],[]))=some (.made (.d (rD (Md.cut l n))) []):=
 Z6.deep (Zed S dp l n hl) (np S 109 (by decide)) A nb
theorem Zeb (dp:Nat)(p:Prog)(pc:Int):Z6 E fn (dp+1) 84 [ZD p,vi pc] (.agg (Cl.cells (Md.at_ p pc))):=by
 unfold Z6
 show Zw (Z5 E fn (dp+1) 84 [.d (ZD p),.d (vi pc)] [])=_
 rw[ZU,S.Z6c,ZW,Zak,ZY _ _ _ _ _ _ _ _ rfl]
 by_cases h:pc<0
 ·simp only[eG,go_sem,Z2 S,Z1 S,zN0,zN1,zN2,zN3,zN4,zI0,zI1,zI2,zI3,reduceCtorEq,WW S,h,decide_true,Md.at_,show ¬0<=pc by omega,Md.M3]
 ·obtain ⟨i, rfl⟩ := Int.eq_ofNat_of_zero_le (show 0 <= pc by omega)
  cases hx:p.ins[i]? with
  | none=>
   have hl:(i:Int)>=p.ins.length:=by have:=List.getElem?_eq_none_iff.1 hx;omega
   simp only[eG,go_sem,Z2 S,Z1 S,zN0,zN1,zN2,zN3,zN4,zI0,zI1,zI2,zI3,reduceCtorEq,WW S,h,hl,decide_true,decide_false,Md.at_,Int.natCast_nonneg,Int.toNat_natCast,hx,Option.getD_none,Md.M3]
  | some e=>
   have hl:¬(i:Int)>=p.ins.length:=by have:=(List.getElem?_eq_some_iff.1 hx).1;omega
   simp only[eG,go_sem,Z2 S,Z1 S,zN0,zN1,zN2,zN3,zN4,zI0,zI1,zI2,zI3,reduceCtorEq,WW S,h,hl,decide_true,decide_false,Md.at_,Int.natCast_nonneg,Int.toNat_natCast,hx,Option.getD_some,Zv hx]
theorem D8 (dp:Nat)(p_w p_wn p_fu p_r0 p_r1 p_r2 p_r3:Int)(p_ms:List MemT)(p_ls:List Label)(p_is:List Ins)(pc:Int)(A:List Blk)(nb:Nat)(us:List Nat):Y1 false E (Z5 E fn (dp+1)) 84 A nb (some ([.agg [vi p_w,vi p_wn,vi p_fu,vi p_r0,vi p_r1,vi p_r2,vi p_r3,rD p_ms,rD p_ls,rD p_is],vi pc],us))=some (.made (.d (.agg (Cl.cells (Md.at_ (⟨p_w,p_wn,p_fu,⟨p_r0,p_r1,p_r2,p_r3⟩,p_ms,p_ls,p_is⟩:Prog) pc)))) []):=
 Z6.flat (Zeb S dp (⟨p_w,p_wn,p_fu,⟨p_r0,p_r1,p_r2,p_r3⟩,p_ms,p_ls,p_is⟩:Prog) pc ) (np S 84 (by decide)) (rfl) A nb us
theorem Zf8 (dp:Nat)(p:Prog)(pc:Int):Z6 E fn (dp+1) 70 [ZD p,vi pc] (.agg (Cl.cells (Md.at_ p pc))):=by
 unfold Z6
 show Zw (Z5 E fn (dp+1) 70 [.d (ZD p),.d (vi pc)] [])=_
 rw[ZU,S.Z7b,ZW,Zbj,ZY _ _ _ _ _ _ _ _ rfl]
 by_cases h:pc<0
 ·simp only[eG,go_sem,Z2 S,Z1 S,zN0,zN1,zN2,zN3,zN4,zI0,zI1,zI2,zI3,reduceCtorEq,WY S,h,decide_true,Md.at_,show ¬0<=pc by omega,Md.M3]
 ·obtain ⟨i, rfl⟩ := Int.eq_ofNat_of_zero_le (show 0 <= pc by omega)
  cases hx:p.ins[i]? with
  | none=>
   have hl:(i:Int)>=p.ins.length:=by have:=List.getElem?_eq_none_iff.1 hx;omega
   simp only[eG,go_sem,Z2 S,Z1 S,zN0,zN1,zN2,zN3,zN4,zI0,zI1,zI2,zI3,reduceCtorEq,WY S,h,hl,decide_true,decide_false,Md.at_,Int.natCast_nonneg,Int.toNat_natCast,hx,Option.getD_none,Md.M3]
  | some e=>
   have hl:¬(i:Int)>=p.ins.length:=by have:=(List.getElem?_eq_some_iff.1 hx).1;omega
   simp only[eG,go_sem,Z2 S,Z1 S,zN0,zN1,zN2,zN3,zN4,zI0,zI1,zI2,zI3,reduceCtorEq,WY S,h,hl,decide_true,decide_false,Md.at_,Int.natCast_nonneg,Int.toNat_natCast,hx,Option.getD_some,Zv hx]
theorem ZP (dp:Nat)(p_w p_wn p_fu p_r0 p_r1 p_r2 p_r3:Int)(p_ms:List MemT)(p_ls:List Label)(p_is:List Ins)(pc:Int)(A:List Blk)(nb:Nat)(us:List Nat):Y1 false E (Z5 E fn (dp+1)) 70 A nb (some ([.agg [vi p_w,vi p_wn,vi p_fu,vi p_r0,vi p_r1,vi p_r2,vi p_r3,rD p_ms,rD p_ls,rD p_is],vi pc],us))=some (.made (.d (.agg (Cl.cells (Md.at_ (⟨p_w,p_wn,p_fu,⟨p_r0,p_r1,p_r2,p_r3⟩,p_ms,p_ls,p_is⟩:Prog) pc)))) []):=
 Z6.flat (Zf8 S dp (⟨p_w,p_wn,p_fu,⟨p_r0,p_r1,p_r2,p_r3⟩,p_ms,p_ls,p_is⟩:Prog) pc ) (np S 70 (by decide)) (rfl) A nb us
theorem Zeh (dp:Nat)(x:Ins):Z6 E fn (dp+1) 156 [.agg (Cl.cells x)] (.tup [vi (Md.Ck x),vb (Md.BZ x)]):=by
 unfold Z6
 show Zw (Z5 E fn (dp+1) 156 [.d (.agg (Cl.cells x))] [])=_
 rw[ZU,S.Z6i,ZW,Zaq,ZY _ _ _ _ _ _ _ _ rfl]
 by_cases h1:x.kind=1
 ·simp only[eG,go_sem,Z2 S,Z1 S,zN0,zN1,zN2,zN3,zN4,zI0,zI1,zI2,zI3,reduceCtorEq,U8 S,h1,Md.Ck,Md.BZ]
 ·by_cases h2 : x.kind = 2
  ·simp only[eG,go_sem,Z2 S,Z1 S,zN0,zN1,zN2,zN3,zN4,zI0,zI1,zI2,zI3,reduceCtorEq,U8 S,h2,Md.Ck,Md.BZ]
  ·by_cases h4 : x.kind = 4
   ·simp only[eG,go_sem,Z2 S,Z1 S,zN0,zN1,zN2,zN3,zN4,zI0,zI1,zI2,zI3,reduceCtorEq,U8 S,h4,Md.Ck,Md.BZ]
   ·simp only[eG,go_sem,Z2 S,Z1 S,zN0,zN1,zN2,zN3,zN4,zI0,zI1,zI2,zI3,reduceCtorEq,U8 S,h1,h2,h4,Md.Ck,Md.BZ]
theorem Z0k (dp:Nat)(x_k x_o x_d:Int)(x_ag:Bool)(x_an:Int)(x_bg:Bool)(x_bn:Int)(x_nm:ByteArray)(x_tg:Int)(A:List Blk)(nb:Nat)(us:List Nat):Y1 false E (Z5 E fn (dp+1)) 156 A nb (some ([.agg [vi x_k,vi x_o,vi x_d,vb x_ag,vi x_an,vb x_bg,vi x_bn,vt x_nm,vi x_tg]],us))=some (.made (.d (.tup [vi (Md.Ck (⟨x_k,x_o,x_d,⟨x_ag,x_an⟩,⟨x_bg,x_bn⟩,x_nm,x_tg⟩:Ins)),vb (Md.BZ (⟨x_k,x_o,x_d,⟨x_ag,x_an⟩,⟨x_bg,x_bn⟩,x_nm,x_tg⟩:Ins))])) []):=
 Z6.flat (Zeh S dp (⟨x_k,x_o,x_d,⟨x_ag,x_an⟩,⟨x_bg,x_bn⟩,x_nm,x_tg⟩:Ins) ) (np S 156 (by decide)) (rfl) A nb us
theorem Zey (dp:Nat)(x:Ins):Z6 E fn (dp+1) 143 [.agg (Cl.cells x)] (.tup [vi (Md.Ck x),vb (Md.BZ x)]):=by
 unfold Z6
 show Zw (Z5 E fn (dp+1) 143 [.d (.agg (Cl.cells x))] [])=_
 rw[ZU,S.Z6z,ZW,Zb7,ZY _ _ _ _ _ _ _ _ rfl]
 by_cases h1:x.kind=1
 ·simp only[eG,go_sem,Z2 S,Z1 S,zN0,zN1,zN2,zN3,zN4,zI0,zI1,zI2,zI3,reduceCtorEq,U9 S,h1,Md.Ck,Md.BZ]
 ·by_cases h2 : x.kind = 2
  ·simp only[eG,go_sem,Z2 S,Z1 S,zN0,zN1,zN2,zN3,zN4,zI0,zI1,zI2,zI3,reduceCtorEq,U9 S,h2,Md.Ck,Md.BZ]
  ·by_cases h4 : x.kind = 4
   ·simp only[eG,go_sem,Z2 S,Z1 S,zN0,zN1,zN2,zN3,zN4,zI0,zI1,zI2,zI3,reduceCtorEq,U9 S,h4,Md.Ck,Md.BZ]
   ·simp only[eG,go_sem,Z2 S,Z1 S,zN0,zN1,zN2,zN3,zN4,zI0,zI1,zI2,zI3,reduceCtorEq,U9 S,h1,h2,h4,Md.Ck,Md.BZ]
theorem V4 (dp:Nat)(x_k x_o x_d:Int)(x_ag:Bool)(x_an:Int)(x_bg:Bool)(x_bn:Int)(x_nm:ByteArray)(x_tg:Int)(A:List Blk)(nb:Nat)(us:List Nat):Y1 false E (Z5 E fn (dp+1)) 143 A nb (some ([.agg [vi x_k,vi x_o,vi x_d,vb x_ag,vi x_an,vb x_bg,vi x_bn,vt x_nm,vi x_tg]],us))=some (.made (.d (.tup [vi (Md.Ck (⟨x_k,x_o,x_d,⟨x_ag,x_an⟩,⟨x_bg,x_bn⟩,x_nm,x_tg⟩:Ins)),vb (Md.BZ (⟨x_k,x_o,x_d,⟨x_ag,x_an⟩,⟨x_bg,x_bn⟩,x_nm,x_tg⟩:Ins))])) []):=
 Z6.flat (Zey S dp (⟨x_k,x_o,x_d,⟨x_ag,x_an⟩,⟨x_bg,x_bn⟩,x_nm,x_tg⟩:Ins) ) (np S 143 (by decide)) (rfl) A nb us
end
theorem Z9o (k:IntKind)(x y:Int):Q4 .and (.d (.v (.int k x))) (.d (.v (.int k y)))=(DJ .and k x y).map fun r=>.d (.v r):=DQ _ _ _ _ (by simp) (by simp)
theorem QE (x y:Int):Q4 .and (.d (.v (.int .i64 x))) (.d (.v (.int .i64 y)))=some (aI (Md.YK x y)):=Z9o _ _ _
theorem Zn8 (x y:Int):Q4 .or (.d (.v (.int .i64 x))) (.d (.v (.int .i64 y)))=some (aI (Md.N9 x y)):=by rw[DQ _ _ _ _ (by simp) (by simp)];rfl
theorem Zn7 (x y:Int):Q4 .xor (.d (.v (.int .i64 x))) (.d (.v (.int .i64 y)))=some (aI (Md.N8 x y)):=by rw[DQ _ _ _ _ (by simp) (by simp)];rfl
theorem Z2c {k:Nat}(h:k<=16):IntKind.i64.wrap (1*2^min k 64)=2^k:=by
 have:=Md.RK h
 have:=Md.HD k
 rw[Nat.min_eq_left (by omega),Int.one_mul,YX (by omega) (by omega)]
def Zi9 (w op a b:Int):Int:=if b>=w then 0 else if op=6 then IntKind.i64.wrap (a*2^min b.toNat 64) else a.fdiv (2^min b.toNat 64)
theorem Z4j {w b:Int}(h:Md.JB w=true)(hb:¬b>=w):min b.toNat 64=b.toNat:=by
 have:=Md.WP.1 h;omega
variable {E:Env} {fn:FuncId->Option (Env->cT->cT)}
section
variable (S:Sur E fn)
include S
theorem Z40:E.lives 152 7=none:=off S 152 7 (by decide) rfl
theorem WX:E.lives 82 7=none:=off S 82 7 (by decide) rfl
theorem Z41:E.lives 139 7=none:=off S 139 7 (by decide) rfl
theorem Z3z:E.lives 53 9=none:=off S 53 9 (by decide) rfl
theorem Z43:E.lives 122 7=none/\E.lives 122 15=none/\E.lives 122 19=none/\E.lives 122 23=none/\E.lives 122 27=none/\E.lives 122 31=none/\E.lives 122 35=none/\E.lives 122 37=none/\E.lives 122 43=none/\E.lives 122 45=none/\E.lives 122 51=none/\E.lives 122 55=none/\E.lives 122 59=none:=⟨off S 122 7 (by decide) rfl,off S 122 15 (by decide) rfl,off S 122 19 (by decide) rfl,off S 122 23 (by decide) rfl,off S 122 27 (by decide) rfl,off S 122 31 (by decide) rfl,off S 122 35 (by decide) rfl,off S 122 37 (by decide) rfl,off S 122 43 (by decide) rfl,off S 122 45 (by decide) rfl,off S 122 51 (by decide) rfl,off S 122 55 (by decide) rfl,off S 122 59 (by decide) rfl⟩
theorem Ze2 (dp:Nat)(w:Int):Z6 E fn (dp+2) 152 [vi w] (vi (Md.size w)):=by
 unfold Z6
 show Zw (Z5 E fn (dp+1+1) 152 [.d (vi w)] [])=_
 rw[ZU,S.Z5y,ZW,Za6,ZY _ _ _ _ _ _ _ _ rfl]
 cases h:Md.JB w with
 | true=>
  obtain⟨k,rfl,h1,h2⟩:=Md.RS h
  simp only[eG,go_sem,Z2 S,Z1 S,zN0,zN1,zN2,zN3,zN4,zI0,zI1,zI2,zI3,reduceCtorEq,Z40 S,V2 S,h,Md.size,Z16 _ _ _ _ (Int.natCast_nonneg k),Int.toNat_natCast,IntKind.bits,Z2c h2]
 | false=>
  simp only[eG,go_sem,Z2 S,Z1 S,zN0,zN1,zN2,zN3,zN4,zI0,zI1,zI2,zI3,reduceCtorEq,Z40 S,V2 S,h,Md.size]
theorem Zm6 (dp:Nat)(w:Int)(A:List Blk)(nb:Nat)(us:List Nat):Y1 false E (Z5 E fn (dp+2)) 152 A nb (some ([vi w],us))=some (.made (.d (vi (Md.size w))) []):=
 Z6.flat (Ze2 S dp w ) (np S 152 (by decide)) (rfl) A nb us
theorem Zfb (dp:Nat)(w:Int):Z6 E fn (dp+1) 82 [vi w] (vi (Md.size w)):=by
 unfold Z6
 show Zw (Z5 E fn (dp+1) 82 [.d (vi w)] [])=_
 rw[ZU,S.Z7e,ZW,Zbm,ZY _ _ _ _ _ _ _ _ rfl]
 by_cases h1:w<1
 ·simp only[eG,go_sem,Z2 S,Z1 S,zN0,zN1,zN2,zN3,zN4,zI0,zI1,zI2,zI3,reduceCtorEq,WX S,h1,Md.size,Md.JB,show ¬1<=w by omega]
 ·by_cases h2 : w > 16
  ·simp only[eG,go_sem,Z2 S,Z1 S,zN0,zN1,zN2,zN3,zN4,zI0,zI1,zI2,zI3,reduceCtorEq,WX S,h1,h2,Md.size,Md.JB,show ¬w<=16 by omega]
  ·obtain ⟨k, rfl⟩ := Int.eq_ofNat_of_zero_le (show 0 <= w by omega)
   have hw:IntKind.u64.wrap (k:Int)=k:=NR (by omega) (by omega)
   simp only[eG,go_sem,Z2 S,Z1 S,zN0,zN1,zN2,zN3,zN4,zI0,zI1,zI2,zI3,reduceCtorEq,WX S,h1,h2,hw,Md.size,Md.JB,show 1<=(k:Int) by omega,show(k:Int)<=16 by omega,Z16 _ _ _ _ (Int.natCast_nonneg k),Int.toNat_natCast,IntKind.bits,Z2c (show k<=16 by omega)]
theorem V5 (dp:Nat)(w:Int)(A:List Blk)(nb:Nat)(us:List Nat):Y1 false E (Z5 E fn (dp+1)) 82 A nb (some ([vi w],us))=some (.made (.d (vi (Md.size w))) []):=
 Z6.flat (Zfb S dp w ) (np S 82 (by decide)) (rfl) A nb us
theorem Ze4 (dp:Nat)(w m:Int):Z6 E fn (dp+3) 139 [vi w,vi m] (vi (Md.Y4 w m)):=by
 unfold Z6
 show Zw (Z5 E fn (dp+2+1) 139 [.d (vi w),.d (vi m)] [])=_
 rw[ZU,S.Z60,ZW,Za8,ZY _ _ _ _ _ _ _ _ rfl]
 cases h:Md.JB w with
 | true=>
  obtain⟨k,rfl,h1,h2⟩:=Md.RS h
  have hp:=Md.HD k
  have hq:=Md.RK h2
  have hw:IntKind.i64.wrap (2^k-1)=2^k-1:=YX (by omega) (by omega)
  simp only[eG,go_sem,Z2 S,Z1 S,zN0,zN1,zN2,zN3,zN4,zI0,zI1,zI2,zI3,reduceCtorEq,Z41 S,V2 S,Zm6 S,h,Md.size,Md.Y4,Int.toNat_natCast,hw,Z9o,Md.Zni m h2]
 | false=>
  simp only[eG,go_sem,Z2 S,Z1 S,zN0,zN1,zN2,zN3,zN4,zI0,zI1,zI2,zI3,reduceCtorEq,Z41 S,V2 S,h,Md.Y4]
theorem Z93 (dp:Nat)(w m:Int)(A:List Blk)(nb:Nat)(us:List Nat):Y1 false E (Z5 E fn (dp+3)) 139 A nb (some ([vi w,vi m],us))=some (.made (.d (vi (Md.Y4 w m))) []):=
 Z6.flat (Ze4 S dp w m ) (np S 139 (by decide)) (rfl) A nb us
theorem Zfc (dp:Nat)(w m:Int):Z6 E fn (dp+2) 53 [vi w,vi m] (vi (Md.Y4 w m)):=by
 unfold Z6
 show Zw (Z5 E fn (dp+1+1) 53 [.d (vi w),.d (vi m)] [])=_
 rw[ZU,S.Z7f,ZW,Zbn,ZY _ _ _ _ _ _ _ _ rfl]
 cases h:Md.JB w with
 | true=>
  obtain⟨k,rfl,h1,h2⟩:=Md.RS h
  have hp:=Md.HD k
  have hq:=Md.RK h2
  have hz:(2:Int)^k≠0:=by omega
  have hr:=Int.tmod_lt_of_pos m hp
  have hr2: -(2^k)<=m.tmod (2^k):=by
   rw[Int.tmod_eq_emod]
   have:=Int.emod_nonneg m hz
   have hs:(((2:Int)^k).natAbs:Int)=2^k:=by omega
   split<;>omega
  have hw:IntKind.i64.wrap (m.tmod (2^k)+2^k)=m.tmod (2^k)+2^k:=YX (by omega) (by omega)
  simp only[eG,go_sem,Z2 S,Z1 S,zN0,zN1,zN2,zN3,zN4,zI0,zI1,zI2,zI3,reduceCtorEq,Z3z S,V5 S,h,Md.size,Md.Y4,Int.toNat_natCast,hz,hw,Z17 _ _ _ hz,Md.Zdv m hp]
 | false=>
  simp only[eG,go_sem,Z2 S,Z1 S,zN0,zN1,zN2,zN3,zN4,zI0,zI1,zI2,zI3,reduceCtorEq,Z3z S,V5 S,h,Md.size,Md.Y4]
theorem JQ (dp:Nat)(w m:Int)(A:List Blk)(nb:Nat)(us:List Nat):Y1 false E (Z5 E fn (dp+2)) 53 A nb (some ([vi w,vi m],us))=some (.made (.d (vi (Md.Y4 w m))) []):=
 Z6.flat (Zfc S dp w m ) (np S 53 (by decide)) (rfl) A nb us
theorem Zfd (dp:Nat)(w op a b:Int):Z6 E fn (dp+3) 122 [vi w,vi op,vi a,vi b] (.tup [vi (Md.Hq w op a b),vb (Md.T4 w op a b)]):=by
 unfold Z6
 show Zw (Z5 E fn (dp+2+1) 122 [.d (vi w),.d (vi op),.d (vi a),.d (vi b)] [])=_
 rw[ZU,S.Z7g,ZW,Zbo,ZY _ _ _ _ _ _ _ _ rfl]
 cases h:Md.JB w with
 | false=>simp only[eG,go_sem,Z2 S,Z1 S,zN0,zN1,zN2,zN3,zN4,zI0,zI1,zI2,zI3,reduceCtorEq,Z43 S,V5 S,h,Md.size,Md.Hq,Md.T4]
 | true=>
  have hb:=Md.Px w b
  have hb2:=Md.Z4l w b
  have hu:IntKind.u64.wrap (Md.Y4 w b)=Md.Y4 w b:=NR (by omega) (by omega)
  have hz:(2:Int)^w.toNat≠0:=by have:=Md.HD w.toNat;omega
  simp only[eG,go_sem,Z2 S,Z1 S,zN0,zN1,zN2,zN3,zN4,zI0,zI1,zI2,zI3,reduceCtorEq,Z43 S,V5 S,JQ S,Zmf S,h,Md.size,hz,hu,Z16 _ _ _ _ hb,Z9n _ _ _ _ hb,IntKind.bits,Md.Hq,Md.T4,Md.JS,QE,Zn8,Zn7]
  simp only[Bool.cond_decide,Md.TV,Zi9,Md.shl,Md.shr]
  by_cases h1:op=1
  ·simp only[h1,if_true];rfl
  by_cases h2:op=2
  ·simp only[h1,h2,if_true,zI0,if_false];rfl
  by_cases h3:op=3
  ·simp only[h1,h2,h3,if_true,zI0,if_false];rfl
  by_cases h4:op=4
  ·simp only[h1,h2,h3,h4,if_true,zI0,if_false];rfl
  by_cases h5:op=5
  ·simp only[h1,h2,h3,h4,h5,if_true,zI0,if_false];rfl
  by_cases h6:op=6
  ·by_cases hm : Md.Y4 w b >= w
   ·simp only[h6,hm,if_true,zI0,if_false,Md.Z4g h];rfl
   ·simp only[h6,hm,if_true,zI0,if_false,Md.JS,Z4j h hm];rfl
  by_cases h7:op=7
  ·by_cases hm : Md.Y4 w b >= w
   ·simp only[h7,hm,if_true,zI0,if_false,Md.Z4g h];rfl
   ·simp only[h7,hm,if_true,zI0,if_false,Z4j h hm,Md.Z4h h];rfl
  by_cases h8:op=8
  ·simp only[h8,if_true,zI0,if_false];rfl
  by_cases h9:op=9
  ·simp only[h9,if_true,zI0,if_false];rfl
  by_cases h10:op=10
  ·simp only[h10,if_true,zI0,if_false];rfl
  ·simp only[h1,h2,h3,h4,h5,h6,h7,h8,h9,h10,if_false];rfl
theorem Cw (dp:Nat)(w op a b:Int)(A:List Blk)(nb:Nat)(us:List Nat):Y1 false E (Z5 E fn (dp+3)) 122 A nb (some ([vi w,vi op,vi a,vi b],us))=some (.made (.d (.tup [vi (Md.Hq w op a b),vb (Md.T4 w op a b)])) []):=
 Z6.flat (Zfd S dp w op a b ) (np S 122 (by decide)) (rfl) A nb us
end
section
variable (S:Sur E fn)
include S
theorem D1:E.lives 119 1=none/\E.lives 119 7=none/\E.lives 119 19=none/\E.lives 119 21=none:=⟨off S 119 1 (by decide) rfl,off S 119 7 (by decide) rfl,off S 119 19 (by decide) rfl,off S 119 21 (by decide) rfl⟩
theorem Zhq:E.lives 74 7=none:=off S 74 7 (by decide) rfl
theorem KN:E.lives 118 1=none/\E.lives 118 13=none:=⟨off S 118 1 (by decide) rfl,off S 118 13 (by decide) rfl⟩
theorem E8:E.lives 73 1=none/\E.lives 73 13=none/\E.lives 73 15=none/\E.lives 73 21=none:=⟨off S 73 1 (by decide) rfl,off S 73 13 (by decide) rfl,off S 73 15 (by decide) rfl,off S 73 21 (by decide) rfl⟩
theorem Ziu (dp:Nat)(p:Prog)(of:Regs)(l:List Ent)(r:Int)(hl:l.length<1073741824)(kx:Nat->K)(D:Int)
  (hx:∀ T,ZE .bot T 4=aI r->ZE .bot T 6=.ref 1 0 0->Zw (kx 0 (mk .bot 62 T) [.cells ((ZX p).map .d) 0 false,.cells ((E4 of).map .d) 0 false])=some (.tup [vi D,vb true])):
  ∀(k fuel:Nat),k<=l.length->k<fuel->Zw (NP (Zq E 119) (Z5 E fn (dp+1)) (Z9 10 NP (Zq E 119) (Z5 E fn (dp+1)) kx (Y0 0 [.tmp 10,.tmp 11]) fuel) kx (Y0 0 [.tmp 10,.tmp 11])
   (mk .bot 62 [(2,.d (rD l)),(4,aI r),(5,.ref 0 0 0),(6,.ref 1 0 0),(12,aI ((k:Int)-1))]) [.cells ((ZX p).map .d) 0 false,.cells ((E4 of).map .d) 0 false])=
   some (.tup [vi (Md.CY p r D (l.take k).reverse).1,vb (Md.CY p r D (l.take k).reverse).2]):=by
 intro k
 induction k with
 | zero=>
  intro fuel _ hf
  generalize Z9 10 NP _ _ kx _ fuel=KK
  rw[NP]
  simp only[eG,go_sem,Z2 S,Z1 S,zN0,zN1,zN2,zN3,zN4,zI0,zI1,zI2,zI3,reduceCtorEq,D1 S,show ¬(((0:Nat):Int)-1>=0) by omega,List.take_zero,List.reverse_nil,Md.CY]
  exact hx _ rfl rfl
 | succ k ih=>
  intro fuel hk hf
  obtain⟨e,he⟩:=QB (show k<l.length by omega)
  obtain⟨fuel,rfl⟩:∃ m,fuel=m+1:=⟨fuel-1,by omega⟩
  rw[show(((k+1:Nat):Int)-1)=(k:Int) by omega,Tk he]
  generalize hK:Z9 10 NP _ _ kx _ (fuel+1)=KK
  rw[NP]
  simp only[eG,go_sem,Z2 S,Z1 S,zN0,zN1,zN2,zN3,zN4,zI0,zI1,zI2,zI3,reduceCtorEq,D1 S,Zv he,ZP S,V4 S,Int.natCast_nonneg,ge_iff_le,wd k (by omega),Md.CY]
  cases h1:Md.BZ (Md.at_ p e.pc) with
  | false=>
   simp only[eG,go_sem,Z2 S,Z1 S,zN0,zN1,zN2,zN3,zN4,zI0,zI1,zI2,zI3,reduceCtorEq,D1 S,Zv he,ZP S,V4 S,Int.natCast_nonneg,ge_iff_le,wd k (by omega)]
   rw[<-hK,Z7 (on S _ _ [2,4,5,6,12] (by decide) rfl) rfl _ _ _ _ _ _ _ _ _ rfl]
   simp only[eG,go_sem,Z2 S,Z1 S,zN0,zN1,zN2,zN3,zN4,zI0,zI1,zI2,zI3,reduceCtorEq,D1 S]
   exact ih fuel (by omega) (by omega)
  | true=>
   by_cases h2:(Md.at_ p e.pc).d=r
   ·cases h3:e.done<;>simp only[eG,go_sem,Z2 S,Z1 S,zN0,zN1,zN2,zN3,zN4,zI0,zI1,zI2,zI3,reduceCtorEq,D1 S,Zv he,ZP S,V4 S,Int.natCast_nonneg,ge_iff_le,wd k (by omega),h2,h3,Md.Ck,h1]
   ·simp only [eG, go_sem, Z2 S, Z1 S, zN0, zN1, zN2, zN3, zN4, zI0, zI1, zI2, zI3, reduceCtorEq, D1 S, Zv he, ZP S, V4 S, Int.natCast_nonneg, ge_iff_le, wd k (by omega), h2, Md.Ck, h1]
    rw[<-hK,Z7 (on S _ _ [2,4,5,6,12] (by decide) rfl) rfl _ _ _ _ _ _ _ _ _ rfl]
    simp only[eG,go_sem,Z2 S,Z1 S,zN0,zN1,zN2,zN3,zN4,zI0,zI1,zI2,zI3,reduceCtorEq,D1 S]
    exact ih fuel (by omega) (by omega)
theorem Zep (dp:Nat)(p:Prog)(of:Regs)(l:List Ent)(i r:Int)(hl:l.length<1073741824):Z6 E fn (dp+2) 119 [ZD p,.agg (E4 of),rD l,vi i,vi r] (.tup [vi (Md.reg p of l i r).1,vb (Md.reg p of l i r).2]):=by
 unfold Z6
 show Zw (Z5 E fn (dp+1+1) 119 [.d (ZD p),.d (.agg (E4 of)),.d (rD l),.d (vi i),.d (vi r)] [])=_
 rw[ZU,S.Z6r,ZW,Zaz,ZY _ _ _ _ _ _ _ _ rfl]
 by_cases h:r<0
 ·simp only[eG,go_sem,Z2 S,Z1 S,zN0,zN1,zN2,zN3,zN4,zI0,zI1,zI2,zI3,reduceCtorEq,D1 S,h,Md.reg]
 by_cases h2:r>3
 ·simp only[eG,go_sem,Z2 S,Z1 S,zN0,zN1,zN2,zN3,zN4,zI0,zI1,zI2,zI3,reduceCtorEq,D1 S,h,h2,Md.reg,show 4<=r by omega]
 ·have e:Md.reg p of l i r=Md.CY p r (Md.Av of r) (l.take (min i.toNat l.length)).reverse:=by
   unfold Md.reg;rw[if_neg (by omega),Z8q]
  rw[e]
  simp only[eG,go_sem,Z2 S,Z1 S,zN0,zN1,zN2,zN3,zN4,zI0,zI1,zI2,zI3,reduceCtorEq,D1 S,h,h2,Z4c,wd _ (show min i.toNat l.length<4611686018427387904 by omega)]
  rw[Y2,Z7 (on S _ _ [2,4,5,6,12] (by decide) rfl) rfl _ _ _ _ _ _ _ _ _ rfl]
  simp only[eG,go_sem,Z2 S,Z1 S,zN0,zN1,zN2,zN3,zN4,zI0,zI1,zI2,zI3,reduceCtorEq,D1 S]
  refine Ziu S dp p of l r hl _ (Md.Av of r) ?_ _ _ (Nat.min_le_right _ _) (by omega)
  intro T h4 h6
  obtain rfl | rfl | rfl | rfl:r=0∨r=1∨r=2∨r=3:=by omega
  ·simp only[eG,go_sem,Z2 S,Z1 S,zN0,zN1,zN2,zN3,zN4,zI0,zI1,zI2,zI3,reduceCtorEq,D1 S,h4,h6,zI2,zI1,Int.toNat_zero,Int.reduceToNat,Nat.zero_mul,Md.Av];rfl
  ·simp only[eG,go_sem,Z2 S,Z1 S,zN0,zN1,zN2,zN3,zN4,zI0,zI1,zI2,zI3,reduceCtorEq,D1 S,h4,h6,zI2,zI1,Int.reduceToNat,Nat.one_mul,Md.Av];rfl
  ·simp only[eG,go_sem,Z2 S,Z1 S,zN0,zN1,zN2,zN3,zN4,zI0,zI1,zI2,zI3,reduceCtorEq,D1 S,h4,h6,zI2,zI1,Int.reduceToNat,Md.Av];rfl
  ·simp only[eG,go_sem,Z2 S,Z1 S,zN0,zN1,zN2,zN3,zN4,zI0,zI1,zI2,zI3,reduceCtorEq,D1 S,h4,h6,zI2,zI1,Int.reduceToNat,Md.Av];rfl
theorem Z97 (dp:Nat)(p_w p_wn p_fu p_r0 p_r1 p_r2 p_r3:Int)(p_ms:List MemT)(p_ls:List Label)(p_is:List Ins)(of_r0 of_r1 of_r2 of_r3:Int)(l:List Ent)(i r:Int)(hl:l.length<1073741824)(A:List Blk)(nb:Nat)(us:List Nat):Y1 false E (Z5 E fn (dp+2)) 119 A nb (some ([.agg [vi p_w,vi p_wn,vi p_fu,vi p_r0,vi p_r1,vi p_r2,vi p_r3,rD p_ms,rD p_ls,rD p_is],.agg [vi of_r0,vi of_r1,vi of_r2,vi of_r3],rD l,vi i,vi r],us))=some (.made (.d (.tup [vi (Md.reg (⟨p_w,p_wn,p_fu,⟨p_r0,p_r1,p_r2,p_r3⟩,p_ms,p_ls,p_is⟩:Prog) (⟨of_r0,of_r1,of_r2,of_r3⟩:Regs) l i r).1,vb (Md.reg (⟨p_w,p_wn,p_fu,⟨p_r0,p_r1,p_r2,p_r3⟩,p_ms,p_ls,p_is⟩:Prog) (⟨of_r0,of_r1,of_r2,of_r3⟩:Regs) l i r).2])) []):=
 Z6.flat (Zep S dp (⟨p_w,p_wn,p_fu,⟨p_r0,p_r1,p_r2,p_r3⟩,p_ms,p_ls,p_is⟩:Prog) (⟨of_r0,of_r1,of_r2,of_r3⟩:Regs) l i r hl) (np S 119 (by decide)) (rfl) A nb us
theorem Zem (dp:Nat)(p:Prog)(of:Regs)(l:List Ent)(i:Int)(v:Val)(hl:l.length<1073741824):Z6 E fn (dp+3) 74 [ZD p,.agg (E4 of),rD l,vi i,.agg (Cl.cells v)] (.tup [vi (Md.val p of l i v).1,vb (Md.val p of l i v).2]):=by
 unfold Z6
 show Zw (Z5 E fn (dp+2+1) 74 [.d (ZD p),.d (.agg (E4 of)),.d (rD l),.d (vi i),.d (.agg (Cl.cells v))] [])=_
 rw[ZU,S.Z6o,ZW,Zaw,ZY _ _ _ _ _ _ _ _ rfl]
 cases h:v.reg<;>simp only[eG,go_sem,Z2 S,Z1 S,zN0,zN1,zN2,zN3,zN4,zI0,zI1,zI2,zI3,reduceCtorEq,Zhq S,h,Md.val,Z97 S,hl,JQ S]
theorem Z0l (dp:Nat)(p_w p_wn p_fu p_r0 p_r1 p_r2 p_r3:Int)(p_ms:List MemT)(p_ls:List Label)(p_is:List Ins)(of_r0 of_r1 of_r2 of_r3:Int)(l:List Ent)(i:Int)(v_g:Bool)(v_n:Int)(hl:l.length<1073741824)(A:List Blk)(nb:Nat)(us:List Nat):Y1 false E (Z5 E fn (dp+3)) 74 A nb (some ([.agg [vi p_w,vi p_wn,vi p_fu,vi p_r0,vi p_r1,vi p_r2,vi p_r3,rD p_ms,rD p_ls,rD p_is],.agg [vi of_r0,vi of_r1,vi of_r2,vi of_r3],rD l,vi i,.agg [vb v_g,vi v_n]],us))=some (.made (.d (.tup [vi (Md.val (⟨p_w,p_wn,p_fu,⟨p_r0,p_r1,p_r2,p_r3⟩,p_ms,p_ls,p_is⟩:Prog) (⟨of_r0,of_r1,of_r2,of_r3⟩:Regs) l i (⟨v_g,v_n⟩:Val)).1,vb (Md.val (⟨p_w,p_wn,p_fu,⟨p_r0,p_r1,p_r2,p_r3⟩,p_ms,p_ls,p_is⟩:Prog) (⟨of_r0,of_r1,of_r2,of_r3⟩:Regs) l i (⟨v_g,v_n⟩:Val)).2])) []):=
 Z6.flat (Zem S dp (⟨p_w,p_wn,p_fu,⟨p_r0,p_r1,p_r2,p_r3⟩,p_ms,p_ls,p_is⟩:Prog) (⟨of_r0,of_r1,of_r2,of_r3⟩:Regs) l i (⟨v_g,v_n⟩:Val) hl) (np S 74 (by decide)) (rfl) A nb us
theorem Ziy (dp:Nat)(p:Prog)(l:List Ent)(i:Int)(hl:l.length<1073741824)(kx:Nat->K)
  (hx:∀ T,Zw (kx 0 (mk .bot 28 T) [.cells ((ZX p).map .d) 0 false])=some (vb false)):
  ∀(m k fuel:Nat),k+m=(Md.cut l i).length->m<=fuel->Zw (NN (Zq E 118) (Z5 E fn (dp+1)) (Z9 6 NN (Zq E 118) (Z5 E fn (dp+1)) kx (Y0 0 [.tmp 6]) fuel) kx (Y0 0 [.tmp 6])
   (mk .bot 28 [(1,.d (rD l)),(2,aI i),(3,.ref 0 0 0),(7,aI k)]) [.cells ((ZX p).map .d) 0 false])=
   some (vb (((Md.cut l i).drop k).any (Md.Ev p))):=by
 intro m
 have hcl:(Md.cut l i).length=min i.toNat l.length:=by simp[Md.cut]
 induction m with
 | zero=>
  intro k fuel hk _
  generalize Z9 6 NN _ _ kx _ fuel=KK
  rw[NN,List.drop_of_length_le (by omega)]
  by_cases h1:(k:Int)<i
  ·simp only [eG, go_sem, Z2 S, Z1 S, zN0, zN1, zN2, zN3, zN4, zI0, zI1, zI2, zI3, reduceCtorEq, KN S, h1, show ¬ (k : Int) < l.length by omega, List.any_nil]
   exact hx _
  ·simp only [eG, go_sem, Z2 S, Z1 S, zN0, zN1, zN2, zN3, zN4, zI0, zI1, zI2, zI3, reduceCtorEq, KN S, h1, List.any_nil]
   exact hx _
 | succ m ih=>
  intro k fuel hk hf
  obtain⟨e,he⟩:=QB (show k<l.length by omega)
  have hc:(Md.cut l i)[k]? =some e:=by unfold Md.cut;rw[List.getElem?_take,if_pos (by omega),he]
  obtain⟨fuel,rfl⟩:∃ m,fuel=m+1:=⟨fuel-1,by omega⟩
  generalize hK:Z9 6 NN _ _ kx _ (fuel+1)=KK
  rw[NN,BK hc,List.any_cons]
  have h1:(k:Int)<i:=by omega
  have h2:(k:Int)<l.length:=by omega
  by_cases h3:(Md.at_ p e.pc).kind=10
  ·simp only[eG,go_sem,Z2 S,Z1 S,zN0,zN1,zN2,zN3,zN4,zI0,zI1,zI2,zI3,reduceCtorEq,KN S,Zv he,ZP S,wi k (by omega),h1,h2,h3,Md.Ev]
  ·simp only [eG, go_sem, Z2 S, Z1 S, zN0, zN1, zN2, zN3, zN4, zI0, zI1, zI2, zI3, reduceCtorEq, KN S, Zv he, ZP S, wi k (by omega), h1, h2, h3, Md.Ev]
   rw[<-hK,Z7 (on S _ _ [1,2,3,7] (by decide) rfl) rfl _ _ _ _ _ _ _ _ _ rfl]
   simp only[eG,go_sem,Z2 S,Z1 S,zN0,zN1,zN2,zN3,zN4,zI0,zI1,zI2,zI3,reduceCtorEq,KN S,Zv he,ZP S,wi k (by omega),h1,h2]
   exact ih (k+1) fuel (by omega) (by omega)
theorem Zf2 (dp:Nat)(p:Prog)(l:List Ent)(i:Int)(hl:l.length<1073741824):Z6 E fn (dp+2) 118 [ZD p,rD l,vi i] (vb (Md.K0 p l i)):=by
 unfold Z6
 show Zw (Z5 E fn (dp+1+1) 118 [.d (ZD p),.d (rD l),.d (vi i)] [])=_
 rw[ZU,S.Z73,ZW,Zbb,ZY _ _ _ _ _ _ _ _ rfl]
 simp only[eG,go_sem,Z2 S,Z1 S,zN0,zN1,zN2,zN3,zN4,zI0,zI1,zI2,zI3,reduceCtorEq,KN S]
 rw[Y2,Z7 (on S _ _ [1,2,3,7] (by decide) rfl) rfl _ _ _ _ _ _ _ _ _ rfl]
 simp only[eG,go_sem,Z2 S,Z1 S,zN0,zN1,zN2,zN3,zN4,zI0,zI1,zI2,zI3,reduceCtorEq,KN S]
 refine Ziy S dp p l i hl _ ?_ (Md.cut l i).length 0 _ (by omega) (by have:=HU l i;omega)
 intro T
 simp only[eG,go_sem,Z2 S,Z1 S,zN0,zN1,zN2,zN3,zN4,zI0,zI1,zI2,zI3,reduceCtorEq,KN S]
theorem Zmd (dp:Nat)(p_w p_wn p_fu p_r0 p_r1 p_r2 p_r3:Int)(p_ms:List MemT)(p_ls:List Label)(p_is:List Ins)(l:List Ent)(i:Int)(hl:l.length<1073741824)(A:List Blk)(nb:Nat)(us:List Nat):Y1 false E (Z5 E fn (dp+2)) 118 A nb (some ([.agg [vi p_w,vi p_wn,vi p_fu,vi p_r0,vi p_r1,vi p_r2,vi p_r3,rD p_ms,rD p_ls,rD p_is],rD l,vi i],us))=some (.made (.d (vb (Md.K0 (⟨p_w,p_wn,p_fu,⟨p_r0,p_r1,p_r2,p_r3⟩,p_ms,p_ls,p_is⟩:Prog) l i))) []):=
 Z6.flat (Zf2 S dp (⟨p_w,p_wn,p_fu,⟨p_r0,p_r1,p_r2,p_r3⟩,p_ms,p_ls,p_is⟩:Prog) l i hl) (np S 118 (by decide)) (rfl) A nb us
theorem Ziv (dp:Nat)(p:Prog)(mem:List Int)(l:List Ent)(addr:Int)(hl:l.length<1073741824)(kx:Nat->K)
  (hx:∀ T,ZE .bot T 1=.d (rD mem)->ZE .bot T 4=aI addr->Zw (kx 0 (mk .bot 73 T) [.cells ((ZX p).map .d) 0 false])=some (.tup [vi (Md.QK p mem addr []).1,vi (Md.QK p mem addr []).2.1,vb (Md.QK p mem addr []).2.2])):
  ∀(k fuel:Nat),k<=l.length->k<fuel->Zw (NK (Zq E 73) (Z5 E fn (dp+1)) (Z9 6 NK (Zq E 73) (Z5 E fn (dp+1)) kx (Y0 0 [.tmp 10,.tmp 11,.tmp 12]) fuel) kx (Y0 0 [.tmp 10,.tmp 11,.tmp 12])
   (mk .bot 73 [(1,.d (rD mem)),(2,.d (rD l)),(4,aI addr),(5,.ref 0 0 0),(13,aI ((k:Int)-1))]) [.cells ((ZX p).map .d) 0 false])=
   some (.tup [vi (Md.QK p mem addr (l.take k).reverse).1,vi (Md.QK p mem addr (l.take k).reverse).2.1,vb (Md.QK p mem addr (l.take k).reverse).2.2]):=by
 intro k
 induction k with
 | zero=>
  intro fuel _ hf
  generalize Z9 6 NK _ _ kx _ fuel=KK
  rw[NK]
  simp only[eG,go_sem,Z2 S,Z1 S,zN0,zN1,zN2,zN3,zN4,zI0,zI1,zI2,zI3,reduceCtorEq,E8 S,show ¬(((0:Nat):Int)-1>=0) by omega,List.take_zero,List.reverse_nil]
  exact hx _ rfl rfl
 | succ k ih=>
  intro fuel hk hf
  obtain⟨e,he⟩:=QB (show k<l.length by omega)
  obtain⟨fuel,rfl⟩:∃ m,fuel=m+1:=⟨fuel-1,by omega⟩
  rw[show(((k+1:Nat):Int)-1)=(k:Int) by omega,Tk he]
  generalize hK:Z9 6 NK _ _ kx _ (fuel+1)=KK
  rw[NK]
  have hlen:(l.take k).reverse.length=k:=by simp;omega
  by_cases h1:(Md.at_ p e.pc).kind=3
  ·cases h2 : e.known with
   | true=>
    by_cases h3:e.addr=addr
    ·cases h4:e.done<;>simp only[eG,go_sem,Z2 S,Z1 S,zN0,zN1,zN2,zN3,zN4,zI0,zI1,zI2,zI3,reduceCtorEq,E8 S,Zv he,ZP S,Int.natCast_nonneg,ge_iff_le,wd k (by omega),h1,h2,h3,h4,Md.QK,Md.GN,hlen]
    ·simp only [eG, go_sem, Z2 S, Z1 S, zN0, zN1, zN2, zN3, zN4, zI0, zI1, zI2, zI3, reduceCtorEq, E8 S, Zv he, ZP S, Int.natCast_nonneg, ge_iff_le, wd k (by omega), h1, h2, h3, Md.QK, Md.GN]
     rw[<-hK,Z7 (on S _ _ [1,2,4,5,13] (by decide) rfl) rfl _ _ _ _ _ _ _ _ _ rfl]
     simp only[eG,go_sem,Z2 S,Z1 S,zN0,zN1,zN2,zN3,zN4,zI0,zI1,zI2,zI3,reduceCtorEq,E8 S,Zv he,ZP S,Int.natCast_nonneg,ge_iff_le,wd k (by omega)]
     exact ih fuel (by omega) (by omega)
   | false=>
    simp only[eG,go_sem,Z2 S,Z1 S,zN0,zN1,zN2,zN3,zN4,zI0,zI1,zI2,zI3,reduceCtorEq,E8 S,Zv he,ZP S,Int.natCast_nonneg,ge_iff_le,wd k (by omega),h1,h2,Md.QK,Md.GN]
    rw[<-hK,Z7 (on S _ _ [1,2,4,5,13] (by decide) rfl) rfl _ _ _ _ _ _ _ _ _ rfl]
    simp only[eG,go_sem,Z2 S,Z1 S,zN0,zN1,zN2,zN3,zN4,zI0,zI1,zI2,zI3,reduceCtorEq,E8 S,Zv he,ZP S,Int.natCast_nonneg,ge_iff_le,wd k (by omega)]
    exact ih fuel (by omega) (by omega)
  ·simp only [eG, go_sem, Z2 S, Z1 S, zN0, zN1, zN2, zN3, zN4, zI0, zI1, zI2, zI3, reduceCtorEq, E8 S, Zv he, ZP S, Int.natCast_nonneg, ge_iff_le, wd k (by omega), h1, Md.QK, Md.GN]
   rw[<-hK,Z7 (on S _ _ [1,2,4,5,13] (by decide) rfl) rfl _ _ _ _ _ _ _ _ _ rfl]
   simp only[eG,go_sem,Z2 S,Z1 S,zN0,zN1,zN2,zN3,zN4,zI0,zI1,zI2,zI3,reduceCtorEq,E8 S,Zv he,ZP S,Int.natCast_nonneg,ge_iff_le,wd k (by omega)]
   exact ih fuel (by omega) (by omega)
theorem Zet (dp:Nat)(p:Prog)(mem:List Int)(l:List Ent)(i addr:Int)(hl:l.length<1073741824):Z6 E fn (dp+2) 73 [ZD p,rD mem,rD l,vi i,vi addr] (.tup [vi (Md.load p mem l i addr).1,vi (Md.load p mem l i addr).2.1,vb (Md.load p mem l i addr).2.2]):=by
 unfold Z6
 show Zw (Z5 E fn (dp+1+1) 73 [.d (ZD p),.d (rD mem),.d (rD l),.d (vi i),.d (vi addr)] [])=_
 rw[ZU,S.Z6u,ZW,Zb2,ZY _ _ _ _ _ _ _ _ rfl]
 have e:Md.load p mem l i addr=Md.QK p mem addr (l.take (min i.toNat l.length)).reverse:=by unfold Md.load;rw[Z8q]
 rw[e]
 simp only[eG,go_sem,Z2 S,Z1 S,zN0,zN1,zN2,zN3,zN4,zI0,zI1,zI2,zI3,reduceCtorEq,E8 S,Z4c,wd _ (show min i.toNat l.length<4611686018427387904 by omega)]
 rw[Y2,Z7 (on S _ _ [1,2,4,5,13] (by decide) rfl) rfl _ _ _ _ _ _ _ _ _ rfl]
 simp only[eG,go_sem,Z2 S,Z1 S,zN0,zN1,zN2,zN3,zN4,zI0,zI1,zI2,zI3,reduceCtorEq,E8 S]
 refine Ziv S dp p mem l addr hl _ ?_ _ _ (Nat.min_le_right _ _) (by omega)
 intro T h1 h4
 by_cases h:addr<0
 ·simp only[eG,go_sem,Z2 S,Z1 S,zN0,zN1,zN2,zN3,zN4,zI0,zI1,zI2,zI3,reduceCtorEq,E8 S,h1,h4,h,Md.QK]
 ·by_cases h2 : (mem.length : Int) <= addr
  ·simp only[eG,go_sem,Z2 S,Z1 S,zN0,zN1,zN2,zN3,zN4,zI0,zI1,zI2,zI3,reduceCtorEq,E8 S,h1,h4,h,ge_iff_le,h2,Md.QK]
  ·obtain ⟨e, he⟩ := QB (show addr.toNat < mem.length by omega)
   simp only[eG,go_sem,Z2 S,Z1 S,zN0,zN1,zN2,zN3,zN4,zI0,zI1,zI2,zI3,reduceCtorEq,E8 S,h1,h4,h,ge_iff_le,h2,Md.QK,DW (show 0<=addr by omega) he,he,Option.getD_some]
theorem BM (dp:Nat)(p_w p_wn p_fu p_r0 p_r1 p_r2 p_r3:Int)(p_ms:List MemT)(p_ls:List Label)(p_is:List Ins)(mem:List Int)(l:List Ent)(i addr:Int)(hl:l.length<1073741824)(A:List Blk)(nb:Nat)(us:List Nat):Y1 false E (Z5 E fn (dp+2)) 73 A nb (some ([.agg [vi p_w,vi p_wn,vi p_fu,vi p_r0,vi p_r1,vi p_r2,vi p_r3,rD p_ms,rD p_ls,rD p_is],rD mem,rD l,vi i,vi addr],us))=some (.made (.d (.tup [vi (Md.load (⟨p_w,p_wn,p_fu,⟨p_r0,p_r1,p_r2,p_r3⟩,p_ms,p_ls,p_is⟩:Prog) mem l i addr).1,vi (Md.load (⟨p_w,p_wn,p_fu,⟨p_r0,p_r1,p_r2,p_r3⟩,p_ms,p_ls,p_is⟩:Prog) mem l i addr).2.1,vb (Md.load (⟨p_w,p_wn,p_fu,⟨p_r0,p_r1,p_r2,p_r3⟩,p_ms,p_ls,p_is⟩:Prog) mem l i addr).2.2])) []):=
 Z6.flat (Zet S dp (⟨p_w,p_wn,p_fu,⟨p_r0,p_r1,p_r2,p_r3⟩,p_ms,p_ls,p_is⟩:Prog) mem l i addr hl) (np S 73 (by decide)) (rfl) A nb us
end
end Go.Aug.Mc
