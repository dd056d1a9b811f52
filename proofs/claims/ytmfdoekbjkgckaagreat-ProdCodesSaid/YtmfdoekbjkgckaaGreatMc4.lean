import Derived.Test.YtmfdoekbjkgckaaGreatPg
import Derived.Test.YtmfdoekbjkgckaaGreatGr
import Derived.Test.YtmfdoekbjkgckaaGreatBr
namespace Go.Aug.Mc
open Go Go.Aug
set_option linter.unusedSimpArgs false
set_option linter.unusedVariables false
set_option maxHeartbeats 40000000
set_option maxRecDepth 200000
theorem Zc0 (E:Env)(call:cT)(kn:K)(kx:Nat->K)(kr:K)(tm:List AV)(A:List Blk):RU E call kn kx kr tm A=(cQ (Z3 [st 12 (oB .lss (.t 11) (.t 10))]) (cQ (cJ 1 (.t 12) (cK) (Q2 0)) (cQ (ZK 1 (cQ (Z3 [st 13 (DE (.t 9) (.t 11) 1),st 14 (oL (.t 13) false 1),st 5 (oV (.t 14))]) (cQ (Z3 [st 15 (oV (.t 3)),st 16 (oV (.t 5)),st 17 (BS (.t 16)),st 18 (oB .add (.t 15) (.t 17)),st 3 (oV (.t 18))]) (cQ (Z3 [st 19 (oV (.t 3)),st 20 (oB .lss (.t 19) (ci 0))]) (cJ 17 (.t 20) (Z3 [st 21 (Nq 9 (.c (.v (.string ⟨#[108,101,110,32,111,117,116,32,111,102,32,114,97,110,103,101]⟩)))),su (Nk)]) (cK)))))) (Z3 [st 22 (oB .add (.t 11) (ci 1)),st 11 (oV (.t 22))])))) E call kn kx kr tm A:=id rfl
theorem Zc1 (E:Env)(call:cT)(kn:K)(kx:Nat->K)(kr:K)(tm:List AV)(A:List Blk):RV E call kn kx kr tm A=(cQ (Z3 [st 28 (oB .lss (.t 27) (.t 26))]) (cQ (cJ 1 (.t 28) (cK) (Q2 2)) (cQ (ZK 3 (cQ (Z3 [st 29 (DE (.t 25) (.t 27) 1),st 30 (oL (.t 29) false 1),st 8 (oV (.t 30))]) (Z3 [st 31 (oV (.t 6)),st 32 (oV (.t 8)),st 33 (Y5 false 1 1 (.t 31) (.t 32)),st 6 (oV (.t 33))]))) (Z3 [st 34 (oB .add (.t 27) (ci 1)),st 27 (oV (.t 34))])))) E call kn kx kr tm A:=id rfl
def AU (n:Nat):List Byt:=List.replicate n ⟨0⟩
theorem XA:∀ n,rep [KH 0] n=(rC (AU n)).map AV.d
 | 0=>rfl
 | n+1=>by
  show KH 0::rep [KH 0] n=_
  rw[XA n];rfl
theorem TY (l:List Byt):((rC l).map AV.d).length=l.length:=by
 rw[List.length_map,QH];show l.length*1=_;omega
theorem Xk {A:List Blk}{i:Nat}{o x:List Byt}{m:Nat}(hA:A[i]? =some (.cells ((rC (o++AU (x.length+m))).map .d) 0 false))(h0:x.length≠0)(h2:o.length+x.length<=Z4):
  ZS A 1 1 (.sref i 0 0 o.length 1 none) ((rC x).map .d) x.length=some (.turn i (.cells ((rC (o++x++AU m)).map .d) 0 false) (.sref i 0 0 (o.length+x.length) 1 none)):=by
 unfold ZS
 rw[if_neg h0]
 have hall:((rC x).map AV.d).all AV.one=true:=HR x
 have hlen:((rC (o++AU (x.length+m))).map AV.d).length=o.length+(x.length+m):=by
  rw[TY,List.length_append];simp[AU]
 simp only[hA,hall,hlen]
 rw[if_neg (by simp;omega),if_neg (by simp),if_neg (by decide),if_pos (by omega)]
 have hs:splice ((rC (o++AU (x.length+m))).map AV.d) (0+o.length*1) ((rC x).map AV.d)=(rC (o++x++AU m)).map AV.d:=by
  unfold splice
  have e1:0+o.length*1=((rC o).map AV.d).length:=by rw[TY];omega
  have e2:AU (x.length+m)=AU x.length++AU m:=by unfold AU;rw[List.replicate_append_replicate]
  have e3:((rC x).map AV.d).length=((rC (AU x.length)).map AV.d).length:=by rw[TY,TY];simp[AU]
  rw[e1,e2,DB,DB,DB,DB,List.map_append,List.map_append,List.map_append,List.map_append,e3]
  rw[List.take_left' rfl,<-List.append_assoc,List.drop_left' (by rw[List.length_append])]
 rw[hs]
theorem N4:∀ l:List Int,(YP l).length<=9*l.length
 | []=>Nat.le_refl _
 | n::l=>by
  have h1:=(PF n).2
  have h2:=N4 l
  show(Qz n++YP l).length<=_
  rw[List.length_append,List.length_cons]
  omega
theorem Z11 {α:Type}(l:List α):rep l 3=l++(l++l):=by simp[rep]
theorem VA {l:List Byt}(h:l≠[]):l.length≠0:=fun e=>h (List.length_eq_zero_iff.1 e)
theorem Zfg (a b c:DV)(k:Option Nat):BE (.d (.lst [a,b,c] 3 k)) (aI 0) 1=some (.d (.vptr [a,b,c])):=by rfl
theorem Zff (a b c:DV)(k:Option Nat):BE (.d (.lst [a,b,c] 3 k)) (aI 1) 1=some (.d (.vptr [b,c])):=by rfl
theorem Zfd (a b c:DV)(k:Option Nat):BE (.d (.lst [a,b,c] 3 k)) (aI 2) 1=some (.d (.vptr [c])):=by rfl
variable {E:Env} {fn:FuncId->Option (Env->cT->cT)}
section
variable (S:Sur E fn)
include S
theorem Z21:E.lives 45 1=none/\E.lives 45 17=none:=⟨off S 45 1 (by decide) rfl,off S 45 17 (by decide) rfl⟩
omit S in
theorem Zfw (hG:fn 81=some fun _ _ _ xs A=>D7 xs A)(dp n:Nat)(h0:n≠0)(hn:n<=Z4)(A:List Blk):
  ME (Z5 E fn (dp+1)) 81 [.d (.lst [] 0 (some 0)),aI n] A []=some (.turned (.sref A.length 0 0 0 1 none) (A++[.cells ((rC (AU n)).map .d) 0 false])):=by
 rw[F9]
 have h1:Z5 E fn (dp+1) 81 [.d (.lst [] 0 (some 0)),aI n] []=some (.sref 0 0 0 0 1 none,[.cells ((rC (AU n)).map .d) 0 false]):=by
  rw[Yx,hG,Yw]
  show Tz [] (n:Int)=_
  unfold Tz
  rw[if_neg (by omega),if_pos ⟨by omega,by rw[Int.toNat_natCast];exact hn⟩,Int.toNat_natCast,XA];rfl
 show H5 A [] [] (Z5 E fn (dp+1) 81 [.d (.lst [] 0 (some 0)),aI n] [])=_
 rw[h1,Fj]
 show some (Done.turned (Qj [] [] A.length 8 (.sref 0 0 0 0 1 none)) (Bx [] [] A.length A [] [] _++[Jk [] [] A.length 0 _]))=_
 rw[EP,EM]
 rfl
theorem Zbr (hG:fn 81=some fun _ _ _ xs A=>D7 xs A)(dp:Nat)(x y z:List Byt)(k:Option Nat)(hx:x.length≠0)(hy:y.length≠0)(hz:z.length≠0)(hl:x.length+y.length+z.length<100000000000):Z7 E fn (dp+2) 45 [.lst [rD x,rD y,rD z] 3 k] (rD (x++y++z)):=by
 show Zz (Z5 E fn (dp+1+1) 45 [.d (.lst [rD x,rD y,rD z] 3 k)] [])=some (rD (x++y++z))
 have lim:Z4=1099511627776:=rfl
 have h8:∀ kx kr n d T A,Z9 8 RU (Zj E 45) (Z5 E fn (dp+1)) kx kr (n+1) (mk d 36 T) A=PV (RU (Zj E 45) (Z5 E fn (dp+1)) (Z9 8 RU (Zj E 45) (Z5 E fn (dp+1)) kx kr n) kx kr) 36 [0,3,9,10,11] d T A (Q1 A 0 100000 ([0,3,9,10,11].flatMap fun t=>YT 8 (ZG d T t)) []):=fun kx kr n d T A=>Z6 (on S _ _ [0,3,9,10,11] (by decide) rfl) rfl _ _ _ _ _ _ _ _ _ rfl
 have h24:∀ kx kr n d T A,Z9 24 RV (Zj E 45) (Z5 E fn (dp+1)) kx kr (n+1) (mk d 36 T) A=PV (RV (Zj E 45) (Z5 E fn (dp+1)) (Z9 24 RV (Zj E 45) (Z5 E fn (dp+1)) kx kr n) kx kr) 36 [6,25,26,27] d T A (Q1 A 0 100000 ([6,25,26,27].flatMap fun t=>YT 8 (ZG d T t)) []):=fun kx kr n d T A=>Z6 (on S _ _ [6,25,26,27] (by decide) rfl) rfl _ _ _ _ _ _ _ _ _ rfl
 have g:=Zfw (E:=E) hG dp (x.length+y.length+z.length) (by omega) (by rw[lim];omega)
 have a1:=fun(A:List Blk) (i:Nat) (hA:A[i]? =some (.cells ((rC (AU (x.length+y.length+z.length))).map .d) 0 false))=>Xk (A:=A) (i:=i) (o:=[]) (x:=x) (m:=y.length+z.length) (by rw[<-Nat.add_assoc,List.nil_append];exact hA) hx (by simp;omega)
 have a2:=fun(A:List Blk) (i:Nat) (hA:A[i]? =some (.cells ((rC (x++AU (y.length+z.length))).map .d) 0 false))=>Xk (A:=A) (i:=i) (o:=x) (x:=y) (m:=z.length) hA hy (by omega)
 have a3:=fun(A:List Blk) (i:Nat) (hA:A[i]? =some (.cells ((rC (x++y++AU z.length)).map .d) 0 false))=>Xk (A:=A) (i:=i) (o:=x++y) (x:=z) (m:=0) hA hz (by rw[List.length_append];omega)
 rw[show AU 0=[] from rfl,List.append_nil,List.length_append] at a3
 simp only[List.nil_append,List.length_nil,Nat.zero_add] at a1
 have d1:=fun(A:List Blk) (i:Nat) (hA:A[i]? =some (.cells ((rC (x++y++z)).map .d) 0 false))=>Z62 (α:=Byt) (A:=A) (l:=x++y++z) (by intro e;have h:=congrArg List.length e;rw[List.length_append,List.length_append,List.length_nil] at h;omega) hA 6 none
 simp only[List.length_append] at d1
 have nw:=fun(A:List Blk) (l:List Byt)=>XF (α:=Byt) A 1 l rfl
 have w1:IntKind.i64.wrap (0+(x.length:Int))=x.length:=by rw[Int.zero_add];exact YM (by omega) (by omega)
 have w2:IntKind.i64.wrap ((x.length:Int)+y.length)=((x.length+y.length:Nat):Int):=by rw[YM (by omega) (by omega)];rfl
 have w3:IntKind.i64.wrap (((x.length+y.length:Nat):Int)+z.length)=((x.length+y.length+z.length:Nat):Int):=by rw[YM (by omega) (by omega)];rfl
 have n1:¬(x.length:Int)<0:=by omega
 have n2:¬((x.length+y.length:Nat):Int)<0:=by omega
 have n3:¬((x.length+y.length+z.length:Nat):Int)<0:=by omega
 have v1:IntKind.i64.wrap (0+1)=1:=rfl
 have v2:IntKind.i64.wrap (1+1)=2:=rfl
 have v3:IntKind.i64.wrap (2+1)=3:=rfl
 rw[Yx,S.Z49,Yw,Z7u,Yq _ _ _ _ _ _ _ _ rfl]
 simp only[eG,go_sem,Z2 S,Z1 S,Nat.reduceLT,Nat.reduceEqDiff,Nat.reduceAdd,Nat.reduceMul,Nat.reduceLeDiff,Int.reduceEq,Int.reduceLT,Int.reduceLE,Int.reduceNeg,reduceCtorEq,Z21 S]
 rw[ZU]
 simp only[eG,go_sem,Z2 S,Z1 S,Nat.reduceLT,Nat.reduceEqDiff,Nat.reduceAdd,Nat.reduceMul,Nat.reduceLeDiff,Int.reduceEq,Int.reduceLT,Int.reduceLE,Int.reduceNeg,reduceCtorEq,Z21 S,h8,Zc0,h24,Zc1,Zfg,Zff,Zfd,w1,w2,w3,n1,n2,n3,v1,v2,v3,Int.cast_ofNat_Int,EU _ _ _ _ _ _ _ 81 _ (by rw[Z1 S];rfl),g,nw,a1,a2,a3,Option.map_some]
 have dd:deep [Blk.cells (List.map AV.d (rC (x++y++z))) 0 false] 8 (AV.sref 0 0 0 (x.length+y.length+z.length) 1 none)=_:=d1 _ 0 rfl
 rw[dd,Option.map_some]
 show some (DV.lst (rC (x++y++z)) (x.length+y.length+z.length) none)=some (DV.lst _ (x++y++z).length none)
 rw[List.length_append,List.length_append]
theorem Zia (hG:fn 81=some fun _ _ _ xs A=>D7 xs A)(dp:Nat)(x y z:List Byt)(k:Option Nat)(hx:x.length≠0)(hy:y.length≠0)(hz:z.length≠0)(hl:x.length+y.length+z.length<100000000000)(A:List Blk)(nb:Nat):
  ZX false E (Z5 E fn (dp+2)) 45 A nb (some ([.lst [rD x,rD y,rD z] 3 k],[]))=some (.made (.d (rD (x++y++z))) []):=
 Z7.deep (Zbr S hG dp x y z k hx hy hz hl) (np S 45 (by decide)) A nb
def JN (a b:Conf):List Byt:=YP [((YP (Y3 a)).length:Int)]++YP (Y3 a)++YP (Y3 b)
theorem Zbo (dp:Nat)(a b:Conf)(hG:fn 81=some fun _ _ _ xs A=>D7 xs A)(hm:a.state.mem.length<1073741824)(hs:a.state.stack.length<1073741824)(hb:a.buf.length<1073741824)(hr:a.rsb.length<1073741824)(h9:(Y3 a).length<1073741824)(gm:b.state.mem.length<1073741824)(gs:b.state.stack.length<1073741824)(gb:b.buf.length<1073741824)(gr:b.rsb.length<1073741824)(g9:(Y3 b).length<1073741824):Z7 E fn (dp+5) 19 [ZY a,ZY b] (rD (JN a b)):=by
 unfold Z7
 show Zz (Z5 E fn (dp+4+1) 19 [.d (ZY a),.d (ZY b)] [])=_
 rw[Yx,S.Z5b,Yw,Z8w,Yq _ _ _ _ _ _ _ _ rfl]
 have c1:=fun(A:List Blk) (nb:Nat)=>Z7.deep (Z1d S (dp+1) a hm hs hb hr h9) (np S 44 (by decide)) A nb
 have c2:=fun(A:List Blk) (nb:Nat)=>Z7.deep (Z1d S (dp+1) b gm gs gb gr g9) (np S 44 (by decide)) A nb
 have c3:∀(A:List Blk) (nb:Nat),ZX false E (Z5 E fn (dp+4)) 46 A nb (some ([DV.lst [DV.v (Value.int IntKind.i64 ↑(YP (Y3 a)).length)] 1 none],[]))=some (.made (.d (rD (YP [((YP (Y3 a)).length:Int)]))) []):=fun(A:List Blk) (nb:Nat)=>Zi9 S (dp+3) [((YP (Y3 a)).length:Int)] (by show 1<_;omega) (by simp) A nb
 have c4:=fun(k:Option Nat) (A:List Blk) (nb:Nat)=>Zia S hG (dp+2) (YP [((YP (Y3 a)).length:Int)]) (YP (Y3 a)) (YP (Y3 b)) k (VA (M1 (by simp))) (VA (M1 (Z3j a))) (VA (M1 (Z3j b))) (by have:=N4 [((YP (Y3 a)).length:Int)];have:=N4 (Y3 a);have:=N4 (Y3 b);simp only[List.length_singleton] at *;omega) A nb
 simp only[ZY,QU] at c1 c2
 simp only[eG,go_sem,Z2 S,Z1 S,Nat.reduceLT,Nat.reduceEqDiff,Nat.reduceAdd,Nat.reduceMul,Nat.reduceLeDiff,Int.reduceEq,Int.reduceLT,Int.reduceLE,Int.reduceNeg,reduceCtorEq,Zq,Z11,ZB,ZC,ZD,ZE,Option.map_some,JF,c1,c2,c3,c4]
 rfl
end
set_option maxHeartbeats 4000000
set_option maxRecDepth 20000
def CB (n:Int):Prop:= -9223372036854775808<=n/\n<=9223372036854775807
theorem S3 (n:Int):IntKind.u8.wrap n=n%256:=by
 simp[IntKind.wrap,IntKind.bits,IntKind.signed]
theorem Z9d (n:Int):IntKind.u64.wrap n=n%18446744073709551616:=by
 simp[IntKind.wrap,IntKind.bits,IntKind.signed]
theorem Cw (n:Int)(m:Nat)(hm:m<8):GB n m=(n%18446744073709551616)/((256^m:Nat):Int)%256:=by
 unfold GB
 rw[S3,Z9d]
 have h1:min (8*(m:Int)).toNat 64=8*m:=by omega
 rw[h1,Int.fdiv_eq_ediv_of_nonneg _ (Int.le_of_lt (Int.pow_pos (by decide)))]
 have h2:(2:Int)^(8*m)=((256^m:Nat):Int):=by
  rw[Int.pow_mul,Int.natCast_pow,show(2:Int)^8=((256:Nat):Int) by decide]
 rw[h2]
theorem Zip {n n':Int}(hn:CB n)(hn':CB n')(h:B7 n 8=B7 n' 8):n=n':=by
 simp only[B7,List.cons.injEq,Byt.mk.injEq,and_true] at h
 rw[Cw _ 7 (by decide),Cw _ 6 (by decide),Cw _ 5 (by decide),Cw _ 4 (by decide),Cw _ 3 (by decide),Cw _ 2 (by decide),Cw _ 1 (by decide),Cw _ 0 (by decide),Cw _ 7 (by decide),Cw _ 6 (by decide),Cw _ 5 (by decide),Cw _ 4 (by decide),Cw _ 3 (by decide),Cw _ 2 (by decide),Cw _ 1 (by decide),Cw _ 0 (by decide)] at h
 unfold CB at hn hn'
 generalize hN:n%18446744073709551616=N at h
 generalize hN':n'%18446744073709551616=N' at h
 have e:N=N':=by
  obtain⟨h7,h6,h5,h4,h3,h2,h1,h0⟩:=h
  simp only[Nat.reducePow,Int.cast_ofNat_Int] at h7 h6 h5 h4 h3 h2 h1 h0
  omega
 omega
theorem Z1k {n n':Int}(hn:CB n)(hn':CB n'){r r':List Byt}(h:Qz n++r=Qz n'++r'):n=n'/\r=r':=by
 have w:∀ m:Int,-1<=m/\m<=253->IntKind.u8.wrap (IntKind.i64.wrap (m+1))=m+1:=fun m hm=>by
  rw[YM (by omega) (by omega),S3];omega
 unfold Qz at h
 by_cases h1: -1<=n/\n<=253<;>by_cases h2: -1<=n'/\n'<=253
 ·rw [if_pos h1, if_pos h2, w n h1, w n' h2] at h
  simp only[List.cons_append,List.nil_append,List.cons.injEq,Byt.mk.injEq] at h
  exact⟨by omega,h.2⟩
 ·rw [if_pos h1, if_neg h2, w n h1] at h
  simp only[List.cons_append,List.nil_append,List.cons.injEq,Byt.mk.injEq] at h
  omega
 ·rw [if_neg h1, if_pos h2, w n' h2] at h
  simp only[List.cons_append,List.nil_append,List.cons.injEq,Byt.mk.injEq] at h
  omega
 ·rw [if_neg h1, if_neg h2] at h
  simp only[List.cons_append,List.cons.injEq,true_and] at h
  have:=List.append_inj h rfl
  exact⟨Zip hn hn' this.1,this.2⟩
theorem UU:∀ {l l':List Int},(∀ x ∈ l,CB x)->(∀ x ∈ l',CB x)->YP l=YP l'->l=l'
 | [],[],_,_,_=>rfl
 | [],n::l,_,_,h=>absurd h.symm (M1 (by simp))
 | n::l,[],_,_,h=>absurd h (M1 (by simp))
 | n::l,n'::l',h1,h2,h=>by
  have h:Qz n++YP l=Qz n'++YP l':=h
  obtain⟨e,h'⟩:=Z1k (h1 n (by simp)) (h2 n' (by simp)) h
  rw[e,UU (fun x hx=>h1 x (by simp[hx])) (fun x hx=>h2 x (by simp[hx])) h']
theorem Zhi {a b c d:Conf}(ha:∀ x ∈ Y3 a,CB x)(hb:∀ x ∈ Y3 b,CB x)(hc:∀ x ∈ Y3 c,CB x)(hd:∀ x ∈ Y3 d,CB x)(la:(Y3 a).length<1073741824)(lc:(Y3 c).length<1073741824):
  JN a b=JN c d↔Y3 a=Y3 c/\Y3 b=Y3 d:=by
 constructor
 ·intro h
  unfold JN at h
  have l1:=N4 (Y3 a)
  have l2:=N4 (Y3 c)
  have e1:∀ n:Int,YP [n]=Qz n:=fun n=>by unfold YP;simp
  rw[e1,e1,List.append_assoc,List.append_assoc] at h
  obtain⟨h1,h2⟩:=Z1k ⟨by omega,by omega⟩ ⟨by omega,by omega⟩ h
  obtain⟨h3,h4⟩:=List.append_inj h2 (by omega)
  exact⟨UU ha hc h3,UU hb hd h4⟩
 ·rintro ⟨h1, h2⟩
  unfold JN
  rw[h1,h2]
theorem Zio:∀ {l l':List Int},(∀ x ∈ l,0<=x/\x<256)->(∀ x ∈ l',0<=x/\x<256)->JP l=JP l'->l=l':=by
 have e:∀(l:List Int) (r:ByteArray),(l.foldl (fun r n=>r.push (UInt8.ofNat n.toNat)) r).data.toList=r.data.toList++l.map fun n=>UInt8.ofNat n.toNat:=by
  intro l
  induction l with
  | nil=>intro r;simp
  | cons n l ih=>intro r;rw[List.foldl_cons,ih];simp
 intro l l' h1 h2 h
 have h3:=congrArg (fun b:ByteArray=>b.data.toList) h
 simp only[JP,e] at h3
 have h4:(l.map fun n=>UInt8.ofNat n.toNat)=l'.map fun n=>UInt8.ofNat n.toNat:=List.append_cancel_left h3
 clear h h3
 have h3:=h4
 clear h4
 induction l generalizing l' with
 | nil=>
  cases l' with
  | nil=>rfl
  | cons a l=>cases h3
 | cons a l ih=>
  cases l' with
  | nil=>cases h3
  | cons b l'=>
   rw[List.map_cons,List.map_cons,List.cons.injEq] at h3
   have ha:=h1 a (by simp)
   have hb:=h2 b (by simp)
   have hab:a.toNat=b.toNat:=by
    have:=congrArg UInt8.toNat h3.1
    simp only[UInt8.toNat_ofNat'] at this
    omega
   rw[ih (fun x hx=>h1 x (by simp[hx])) (fun x hx=>h2 x (by simp[hx])) h3.2,show a=b by omega]
theorem Z6t (n:Int):∀ m,∀ x ∈ B7 n m,0<=x.n/\x.n<256
 | 0,_,h=>by cases h
 | m+1,x,h=>by
  rcases List.mem_cons.1 h with rfl | h
  ·show 0 <= GB n m /\ GB n m < 256
   unfold GB
   rw[S3];omega
  ·exact Z6t n m x h
theorem Z1l (l:List Int):∀ x ∈ YP l,0<=x.n/\x.n<256:=by
 intro x hx
 obtain⟨n,_,hn⟩:=List.mem_flatMap.1 hx
 unfold Qz at hn
 split at hn
 ·rcases List.mem_singleton.1 hn with rfl
  show 0<=IntKind.u8.wrap _/\IntKind.u8.wrap _<256
  rw[S3];omega
 ·rcases List.mem_cons.1 hn with rfl | hn
  ·decide
  ·exact Z6t n 8 x hn
theorem Z6d (a b:Conf):∀ x ∈ JN a b,0<=x.n/\x.n<256:=by
 intro x hx
 unfold JN at hx
 rcases List.mem_append.1 hx with hx | hx
 ·rcases List.mem_append.1 hx with hx | hx<;>exact Z1l _ x hx
 ·exact Z1l _ x hx
theorem Z9i (a b c d:Conf):JP ((JN a b).map Byt.n)=JP ((JN c d).map Byt.n)↔JN a b=JN c d:=by
 constructor
 ·intro h
  have:=Zio (l:=(JN a b).map Byt.n) (l':=(JN c d).map Byt.n) (by intro x hx;obtain⟨y,hy,rfl⟩:=List.mem_map.1 hx;exact Z6d a b y hy) (by intro x hx;obtain⟨y,hy,rfl⟩:=List.mem_map.1 hx;exact Z6d c d y hy) h
  exact(List.map_inj_right (fun x y h=>by cases x;cases y;exact congrArg Byt.mk h)).1 this
 ·intro h;rw[h]
open Nat renaming reduceLT -> zN0, reduceEqDiff -> zN1, reduceAdd -> zN2, reduceMul -> zN3, reduceLeDiff -> zN4
open Int renaming reduceEq -> zI0, reduceLT -> zI1, reduceLE -> zI2, reduceNeg -> zI3
theorem Ziz (k:IntKind)(x y:Int):YF .and (.d (.v (.int k x))) (.d (.v (.int k y)))=(E8 .and k x y).map fun r=>.d (.v r):=Dj _ _ _ _ (by simp) (by simp)
theorem YZ (x y:Int):YF .and (.d (.v (.int .i64 x))) (.d (.v (.int .i64 y)))=some (aI (Md.Y9 x y)):=Ziz _ _ _
theorem Ziy (x y:Int):YF .or (.d (.v (.int .i64 x))) (.d (.v (.int .i64 y)))=some (aI (Md.Mk x y)):=by rw[Dj _ _ _ _ (by simp) (by simp)];rfl
theorem Zix (x y:Int):YF .xor (.d (.v (.int .i64 x))) (.d (.v (.int .i64 y)))=some (aI (Md.Mj x y)):=by rw[Dj _ _ _ _ (by simp) (by simp)];rfl
theorem Z9y {k:Nat}(h:k<=16):IntKind.i64.wrap (1*2^min k 64)=2^k:=by
 have:=Md.UX h
 have:=Md.N5 k
 rw[Nat.min_eq_left (by omega),Int.one_mul,YM (by omega) (by omega)]
def Ze4 (w op a b:Int):Int:=if b>=w then 0 else if op=6 then IntKind.i64.wrap (a*2^min b.toNat 64) else a.fdiv (2^min b.toNat 64)
theorem Z2o {w b:Int}(h:Md.J2 w=true)(hb:¬b>=w):min b.toNat 64=b.toNat:=by
 have:=Md.V3.1 h;omega
variable {E:Env} {fn:FuncId->Option (Env->cT->cT)}
section
variable (S:Sur E fn)
include S
theorem Vj:E.lives 82 7=none:=off S 82 7 (by decide) rfl
theorem Z27:E.lives 53 9=none:=off S 53 9 (by decide) rfl
theorem Z29:E.lives 122 7=none/\E.lives 122 15=none/\E.lives 122 19=none/\E.lives 122 23=none/\E.lives 122 27=none/\E.lives 122 31=none/\E.lives 122 35=none/\E.lives 122 37=none/\E.lives 122 43=none/\E.lives 122 45=none/\E.lives 122 51=none/\E.lives 122 55=none/\E.lives 122 59=none:=⟨off S 122 7 (by decide) rfl,off S 122 15 (by decide) rfl,off S 122 19 (by decide) rfl,off S 122 23 (by decide) rfl,off S 122 27 (by decide) rfl,off S 122 31 (by decide) rfl,off S 122 35 (by decide) rfl,off S 122 37 (by decide) rfl,off S 122 43 (by decide) rfl,off S 122 45 (by decide) rfl,off S 122 51 (by decide) rfl,off S 122 55 (by decide) rfl,off S 122 59 (by decide) rfl⟩
theorem Zbk (dp:Nat)(w:Int):Z7 E fn (dp+1) 82 [vi w] (vi (Md.size w)):=by
 unfold Z7
 show Zz (Z5 E fn (dp+1) 82 [.d (vi w)] [])=_
 rw[Yx,S.Z57,Yw,Z8s,Yq _ _ _ _ _ _ _ _ rfl]
 by_cases h1:w<1
 ·simp only[eG,go_sem,Z2 S,Z1 S,zN0,zN1,zN2,zN3,zN4,zI0,zI1,zI2,zI3,reduceCtorEq,Vj S,h1,Md.size,Md.J2,show ¬1<=w by omega]
 ·by_cases h2 : w > 16
  ·simp only[eG,go_sem,Z2 S,Z1 S,zN0,zN1,zN2,zN3,zN4,zI0,zI1,zI2,zI3,reduceCtorEq,Vj S,h1,h2,Md.size,Md.J2,show ¬w<=16 by omega]
  ·obtain ⟨k, rfl⟩ := Int.eq_ofNat_of_zero_le (show 0 <= w by omega)
   have hw:IntKind.u64.wrap (k:Int)=k:=MV (by omega) (by omega)
   simp only[eG,go_sem,Z2 S,Z1 S,zN0,zN1,zN2,zN3,zN4,zI0,zI1,zI2,zI3,reduceCtorEq,Vj S,h1,h2,hw,Md.size,Md.J2,show 1<=(k:Int) by omega,show(k:Int)<=16 by omega,Z76 _ _ _ _ (Int.natCast_nonneg k),Int.toNat_natCast,IntKind.bits,Z9y (show k<=16 by omega)]
theorem TT (dp:Nat)(w:Int)(A:List Blk)(nb:Nat)(us:List Nat):ZX false E (Z5 E fn (dp+1)) 82 A nb (some ([vi w],us))=some (.made (.d (vi (Md.size w))) []):=
 Z7.flat (Zbk S dp w ) (np S 82 (by decide)) (rfl) A nb us
theorem Zbm (dp:Nat)(w m:Int):Z7 E fn (dp+2) 53 [vi w,vi m] (vi (Md.ZR w m)):=by
 unfold Z7
 show Zz (Z5 E fn (dp+1+1) 53 [.d (vi w),.d (vi m)] [])=_
 rw[Yx,S.Z59,Yw,Z8u,Yq _ _ _ _ _ _ _ _ rfl]
 cases h:Md.J2 w with
 | true=>
  obtain⟨k,rfl,h1,h2⟩:=Md.V2 h
  have hp:=Md.N5 k
  have hq:=Md.UX h2
  have hz:(2:Int)^k≠0:=by omega
  have hr:=Int.tmod_lt_of_pos m hp
  have hr2: -(2^k)<=m.tmod (2^k):=by
   rw[Int.tmod_eq_emod]
   have:=Int.emod_nonneg m hz
   have hs:(((2:Int)^k).natAbs:Int)=2^k:=by omega
   split<;>omega
  have hw:IntKind.i64.wrap (m.tmod (2^k)+2^k)=m.tmod (2^k)+2^k:=YM (by omega) (by omega)
  simp only[eG,go_sem,Z2 S,Z1 S,zN0,zN1,zN2,zN3,zN4,zI0,zI1,zI2,zI3,reduceCtorEq,Z27 S,TT S,h,Md.size,Md.ZR,Int.toNat_natCast,hz,hw,Xj _ _ _ hz,Md.Zaf m hp]
 | false=>
  simp only[eG,go_sem,Z2 S,Z1 S,zN0,zN1,zN2,zN3,zN4,zI0,zI1,zI2,zI3,reduceCtorEq,Z27 S,TT S,h,Md.size,Md.ZR]
theorem J5 (dp:Nat)(w m:Int)(A:List Blk)(nb:Nat)(us:List Nat):ZX false E (Z5 E fn (dp+2)) 53 A nb (some ([vi w,vi m],us))=some (.made (.d (vi (Md.ZR w m))) []):=
 Z7.flat (Zbm S dp w m ) (np S 53 (by decide)) (rfl) A nb us
theorem Zbn (dp:Nat)(w op a b:Int):Z7 E fn (dp+3) 122 [vi w,vi op,vi a,vi b] (.tup [vi (Md.EJ w op a b),vb (Md.RY w op a b)]):=by
 unfold Z7
 show Zz (Z5 E fn (dp+2+1) 122 [.d (vi w),.d (vi op),.d (vi a),.d (vi b)] [])=_
 rw[Yx,S.Z5a,Yw,Z8v,Yq _ _ _ _ _ _ _ _ rfl]
 cases h:Md.J2 w with
 | false=>simp only[eG,go_sem,Z2 S,Z1 S,zN0,zN1,zN2,zN3,zN4,zI0,zI1,zI2,zI3,reduceCtorEq,Z29 S,TT S,h,Md.size,Md.EJ,Md.RY]
 | true=>
  have hb:=Md.EW w b
  have hb2:=Md.Z2q w b
  have hu:IntKind.u64.wrap (Md.ZR w b)=Md.ZR w b:=MV (by omega) (by omega)
  have hz:(2:Int)^w.toNat≠0:=by have:=Md.N5 w.toNat;omega
  simp only[eG,go_sem,Z2 S,Z1 S,zN0,zN1,zN2,zN3,zN4,zI0,zI1,zI2,zI3,reduceCtorEq,Z29 S,TT S,J5 S,Zi6 S,h,Md.size,hz,hu,Z76 _ _ _ _ hb,X9 _ _ _ _ hb,IntKind.bits,Md.EJ,Md.RY,Md.Jx,YZ,Ziy,Zix]
  simp only[Bool.cond_decide,Md.N9,Ze4,Md.shl,Md.shr]
  by_cases h1:op=1
  ·simp only[h1,if_true];rfl
  by_cases h2:op=2
  ·simp only[h1,h2,if_true,zI0,if_false];rfl
  by_cases h3:op=3
  ·simp only[h1,h2,h3,if_true,zI0,if_false];rfl
  by_cases h4:op=4
  ·simp only[h1,h2,h3,h4,if_true,zI0,if_false];rfl
  by_cases h5:op=5
  ·simp only[h1,h2,h3,h4,h5,if_true,zI0,if_false];rfl
  by_cases h6:op=6
  ·by_cases hm : Md.ZR w b >= w
   ·simp only[h6,hm,if_true,zI0,if_false,Md.Z2m h];rfl
   ·simp only[h6,hm,if_true,zI0,if_false,Md.Jx,Z2o h hm];rfl
  by_cases h7:op=7
  ·by_cases hm : Md.ZR w b >= w
   ·simp only[h7,hm,if_true,zI0,if_false,Md.Z2m h];rfl
   ·simp only[h7,hm,if_true,zI0,if_false,Z2o h hm,Md.Z2n h];rfl
  by_cases h8:op=8
  ·simp only[h8,if_true,zI0,if_false];rfl
  by_cases h9:op=9
  ·simp only[h9,if_true,zI0,if_false];rfl
  by_cases h10:op=10
  ·simp only[h10,if_true,zI0,if_false];rfl
  ·simp only[h1,h2,h3,h4,h5,h6,h7,h8,h9,h10,if_false];rfl
theorem BX (dp:Nat)(w op a b:Int)(A:List Blk)(nb:Nat)(us:List Nat):ZX false E (Z5 E fn (dp+3)) 122 A nb (some ([vi w,vi op,vi a,vi b],us))=some (.made (.d (.tup [vi (Md.EJ w op a b),vb (Md.RY w op a b)])) []):=
 Z7.flat (Zbn S dp w op a b ) (np S 122 (by decide)) (rfl) A nb us
end
variable {E:Env} {fn:FuncId->Option (Env->cT->cT)}
section
variable (S:Sur E fn)
include S
theorem CG:E.lives 119 1=none/\E.lives 119 7=none/\E.lives 119 19=none/\E.lives 119 21=none:=⟨off S 119 1 (by decide) rfl,off S 119 7 (by decide) rfl,off S 119 19 (by decide) rfl,off S 119 21 (by decide) rfl⟩
theorem Zdo:E.lives 74 7=none:=off S 74 7 (by decide) rfl
theorem HT:E.lives 118 1=none/\E.lives 118 13=none:=⟨off S 118 1 (by decide) rfl,off S 118 13 (by decide) rfl⟩
theorem DG:E.lives 73 1=none/\E.lives 73 13=none/\E.lives 73 15=none/\E.lives 73 21=none:=⟨off S 73 1 (by decide) rfl,off S 73 13 (by decide) rfl,off S 73 15 (by decide) rfl,off S 73 21 (by decide) rfl⟩
theorem Zen (dp:Nat)(p:Prog)(of:Regs)(l:List Ent)(r:Int)(hl:l.length<1073741824)(kx:Nat->K)(D:Int)
  (hx:∀ T,ZG .bot T 4=aI r->ZG .bot T 6=.ref 1 0 0->Zz (kx 0 (mk .bot 62 T) [.cells ((YH p).map .d) 0 false,.cells ((KY of).map .d) 0 false])=some (.tup [vi D,vb true])):
  ∀(k fuel:Nat),k<=l.length->k<fuel->Zz (MT (Zj E 119) (Z5 E fn (dp+1)) (Z9 10 MT (Zj E 119) (Z5 E fn (dp+1)) kx (YD 0 [.tmp 10,.tmp 11]) fuel) kx (YD 0 [.tmp 10,.tmp 11])
   (mk .bot 62 [(2,.d (rD l)),(4,aI r),(5,.ref 0 0 0),(6,.ref 1 0 0),(12,aI ((k:Int)-1))]) [.cells ((YH p).map .d) 0 false,.cells ((KY of).map .d) 0 false])=
   some (.tup [vi (Md.ES p r D (l.take k).reverse).1,vb (Md.ES p r D (l.take k).reverse).2]):=by
 intro k
 induction k with
 | zero=>
  intro fuel _ hf
  generalize Z9 10 MT _ _ kx _ fuel=KK
  rw[MT]
  simp only[eG,go_sem,Z2 S,Z1 S,zN0,zN1,zN2,zN3,zN4,zI0,zI1,zI2,zI3,reduceCtorEq,CG S,show ¬(((0:Nat):Int)-1>=0) by omega,List.take_zero,List.reverse_nil,Md.ES]
  exact hx _ rfl rfl
 | succ k ih=>
  intro fuel hk hf
  obtain⟨e,he⟩:=QB (show k<l.length by omega)
  obtain⟨fuel,rfl⟩:∃ m,fuel=m+1:=⟨fuel-1,by omega⟩
  rw[show(((k+1:Nat):Int)-1)=(k:Int) by omega,Z01 he]
  generalize hK:Z9 10 MT _ _ kx _ (fuel+1)=KK
  rw[MT]
  simp only[eG,go_sem,Z2 S,Z1 S,zN0,zN1,zN2,zN3,zN4,zI0,zI1,zI2,zI3,reduceCtorEq,CG S,ZF he,Zv S,TQ S,Int.natCast_nonneg,ge_iff_le,wd k (by omega),Md.ES]
  cases h1:Md.F5 (Md.at_ p e.pc) with
  | false=>
   simp only[eG,go_sem,Z2 S,Z1 S,zN0,zN1,zN2,zN3,zN4,zI0,zI1,zI2,zI3,reduceCtorEq,CG S,ZF he,Zv S,TQ S,Int.natCast_nonneg,ge_iff_le,wd k (by omega)]
   rw[<-hK,Z6 (on S _ _ [2,4,5,6,12] (by decide) rfl) rfl _ _ _ _ _ _ _ _ _ rfl]
   simp only[eG,go_sem,Z2 S,Z1 S,zN0,zN1,zN2,zN3,zN4,zI0,zI1,zI2,zI3,reduceCtorEq,CG S]
   exact ih fuel (by omega) (by omega)
  | true=>
   by_cases h2:(Md.at_ p e.pc).d=r
   ·cases h3:e.done<;>simp only[eG,go_sem,Z2 S,Z1 S,zN0,zN1,zN2,zN3,zN4,zI0,zI1,zI2,zI3,reduceCtorEq,CG S,ZF he,Zv S,TQ S,Int.natCast_nonneg,ge_iff_le,wd k (by omega),h2,h3,Md.Kq,h1]
   ·simp only [eG, go_sem, Z2 S, Z1 S, zN0, zN1, zN2, zN3, zN4, zI0, zI1, zI2, zI3, reduceCtorEq, CG S, ZF he, Zv S, TQ S, Int.natCast_nonneg, ge_iff_le, wd k (by omega), h2, Md.Kq, h1]
    rw[<-hK,Z6 (on S _ _ [2,4,5,6,12] (by decide) rfl) rfl _ _ _ _ _ _ _ _ _ rfl]
    simp only[eG,go_sem,Z2 S,Z1 S,zN0,zN1,zN2,zN3,zN4,zI0,zI1,zI2,zI3,reduceCtorEq,CG S]
    exact ih fuel (by omega) (by omega)
theorem Zax (dp:Nat)(p:Prog)(of:Regs)(l:List Ent)(i r:Int)(hl:l.length<1073741824):Z7 E fn (dp+2) 119 [ZP p,.agg (KY of),rD l,vi i,vi r] (.tup [vi (Md.reg p of l i r).1,vb (Md.reg p of l i r).2]):=by
 unfold Z7
 show Zz (Z5 E fn (dp+1+1) 119 [.d (ZP p),.d (.agg (KY of)),.d (rD l),.d (vi i),.d (vi r)] [])=_
 rw[Yx,S.Z4i,Yw,Z83,Yq _ _ _ _ _ _ _ _ rfl]
 by_cases h:r<0
 ·simp only[eG,go_sem,Z2 S,Z1 S,zN0,zN1,zN2,zN3,zN4,zI0,zI1,zI2,zI3,reduceCtorEq,CG S,h,Md.reg]
 by_cases h2:r>3
 ·simp only[eG,go_sem,Z2 S,Z1 S,zN0,zN1,zN2,zN3,zN4,zI0,zI1,zI2,zI3,reduceCtorEq,CG S,h,h2,Md.reg,show 4<=r by omega]
 ·have e:Md.reg p of l i r=Md.ES p r (Md.BD of r) (l.take (min i.toNat l.length)).reverse:=by
   unfold Md.reg;rw[if_neg (by omega),Z68]
  rw[e]
  simp only[eG,go_sem,Z2 S,Z1 S,zN0,zN1,zN2,zN3,zN4,zI0,zI1,zI2,zI3,reduceCtorEq,CG S,h,h2,Z2i,wd _ (show min i.toNat l.length<4611686018427387904 by omega)]
  rw[ZU,Z6 (on S _ _ [2,4,5,6,12] (by decide) rfl) rfl _ _ _ _ _ _ _ _ _ rfl]
  simp only[eG,go_sem,Z2 S,Z1 S,zN0,zN1,zN2,zN3,zN4,zI0,zI1,zI2,zI3,reduceCtorEq,CG S]
  refine Zen S dp p of l r hl _ (Md.BD of r) ?_ _ _ (Nat.min_le_right _ _) (by omega)
  intro T h4 h6
  obtain rfl | rfl | rfl | rfl:r=0∨r=1∨r=2∨r=3:=by omega
  ·simp only[eG,go_sem,Z2 S,Z1 S,zN0,zN1,zN2,zN3,zN4,zI0,zI1,zI2,zI3,reduceCtorEq,CG S,h4,h6,zI2,zI1,Int.toNat_zero,Int.reduceToNat,Nat.zero_mul,Md.BD];rfl
  ·simp only[eG,go_sem,Z2 S,Z1 S,zN0,zN1,zN2,zN3,zN4,zI0,zI1,zI2,zI3,reduceCtorEq,CG S,h4,h6,zI2,zI1,Int.reduceToNat,Nat.one_mul,Md.BD];rfl
  ·simp only[eG,go_sem,Z2 S,Z1 S,zN0,zN1,zN2,zN3,zN4,zI0,zI1,zI2,zI3,reduceCtorEq,CG S,h4,h6,zI2,zI1,Int.reduceToNat,Md.BD];rfl
  ·simp only[eG,go_sem,Z2 S,Z1 S,zN0,zN1,zN2,zN3,zN4,zI0,zI1,zI2,zI3,reduceCtorEq,CG S,h4,h6,zI2,zI1,Int.reduceToNat,Md.BD];rfl
theorem Z6o (dp:Nat)(p_w p_wn p_fu p_r0 p_r1 p_r2 p_r3:Int)(p_ms:List MemT)(p_ls:List Label)(p_is:List Ins)(of_r0 of_r1 of_r2 of_r3:Int)(l:List Ent)(i r:Int)(hl:l.length<1073741824)(A:List Blk)(nb:Nat)(us:List Nat):ZX false E (Z5 E fn (dp+2)) 119 A nb (some ([.agg [vi p_w,vi p_wn,vi p_fu,vi p_r0,vi p_r1,vi p_r2,vi p_r3,rD p_ms,rD p_ls,rD p_is],.agg [vi of_r0,vi of_r1,vi of_r2,vi of_r3],rD l,vi i,vi r],us))=some (.made (.d (.tup [vi (Md.reg (⟨p_w,p_wn,p_fu,⟨p_r0,p_r1,p_r2,p_r3⟩,p_ms,p_ls,p_is⟩:Prog) (⟨of_r0,of_r1,of_r2,of_r3⟩:Regs) l i r).1,vb (Md.reg (⟨p_w,p_wn,p_fu,⟨p_r0,p_r1,p_r2,p_r3⟩,p_ms,p_ls,p_is⟩:Prog) (⟨of_r0,of_r1,of_r2,of_r3⟩:Regs) l i r).2])) []):=
 Z7.flat (Zax S dp (⟨p_w,p_wn,p_fu,⟨p_r0,p_r1,p_r2,p_r3⟩,p_ms,p_ls,p_is⟩:Prog) (⟨of_r0,of_r1,of_r2,of_r3⟩:Regs) l i r hl) (np S 119 (by decide)) (rfl) A nb us
theorem Zat (dp:Nat)(p:Prog)(of:Regs)(l:List Ent)(i:Int)(v:Val)(hl:l.length<1073741824):Z7 E fn (dp+3) 74 [ZP p,.agg (KY of),rD l,vi i,.agg (Cl.cells v)] (.tup [vi (Md.val p of l i v).1,vb (Md.val p of l i v).2]):=by
 unfold Z7
 show Zz (Z5 E fn (dp+2+1) 74 [.d (ZP p),.d (.agg (KY of)),.d (rD l),.d (vi i),.d (.agg (Cl.cells v))] [])=_
 rw[Yx,S.Z4e,Yw,Z7z,Yq _ _ _ _ _ _ _ _ rfl]
 cases h:v.reg<;>simp only[eG,go_sem,Z2 S,Z1 S,zN0,zN1,zN2,zN3,zN4,zI0,zI1,zI2,zI3,reduceCtorEq,Zdo S,h,Md.val,Z6o S,hl,J5 S]
theorem WP (dp:Nat)(p_w p_wn p_fu p_r0 p_r1 p_r2 p_r3:Int)(p_ms:List MemT)(p_ls:List Label)(p_is:List Ins)(of_r0 of_r1 of_r2 of_r3:Int)(l:List Ent)(i:Int)(v_g:Bool)(v_n:Int)(hl:l.length<1073741824)(A:List Blk)(nb:Nat)(us:List Nat):ZX false E (Z5 E fn (dp+3)) 74 A nb (some ([.agg [vi p_w,vi p_wn,vi p_fu,vi p_r0,vi p_r1,vi p_r2,vi p_r3,rD p_ms,rD p_ls,rD p_is],.agg [vi of_r0,vi of_r1,vi of_r2,vi of_r3],rD l,vi i,.agg [vb v_g,vi v_n]],us))=some (.made (.d (.tup [vi (Md.val (⟨p_w,p_wn,p_fu,⟨p_r0,p_r1,p_r2,p_r3⟩,p_ms,p_ls,p_is⟩:Prog) (⟨of_r0,of_r1,of_r2,of_r3⟩:Regs) l i (⟨v_g,v_n⟩:Val)).1,vb (Md.val (⟨p_w,p_wn,p_fu,⟨p_r0,p_r1,p_r2,p_r3⟩,p_ms,p_ls,p_is⟩:Prog) (⟨of_r0,of_r1,of_r2,of_r3⟩:Regs) l i (⟨v_g,v_n⟩:Val)).2])) []):=
 Z7.flat (Zat S dp (⟨p_w,p_wn,p_fu,⟨p_r0,p_r1,p_r2,p_r3⟩,p_ms,p_ls,p_is⟩:Prog) (⟨of_r0,of_r1,of_r2,of_r3⟩:Regs) l i (⟨v_g,v_n⟩:Val) hl) (np S 74 (by decide)) (rfl) A nb us
theorem Zer (dp:Nat)(p:Prog)(l:List Ent)(i:Int)(hl:l.length<1073741824)(kx:Nat->K)
  (hx:∀ T,Zz (kx 0 (mk .bot 28 T) [.cells ((YH p).map .d) 0 false])=some (vb false)):
  ∀(m k fuel:Nat),k+m=(Md.cut l i).length->m<=fuel->Zz (MS (Zj E 118) (Z5 E fn (dp+1)) (Z9 6 MS (Zj E 118) (Z5 E fn (dp+1)) kx (YD 0 [.tmp 6]) fuel) kx (YD 0 [.tmp 6])
   (mk .bot 28 [(1,.d (rD l)),(2,aI i),(3,.ref 0 0 0),(7,aI k)]) [.cells ((YH p).map .d) 0 false])=
   some (vb (((Md.cut l i).drop k).any (Md.Tk p))):=by
 intro m
 have hcl:(Md.cut l i).length=min i.toNat l.length:=by simp[Md.cut]
 induction m with
 | zero=>
  intro k fuel hk _
  generalize Z9 6 MS _ _ kx _ fuel=KK
  rw[MS,List.drop_of_length_le (by omega)]
  by_cases h1:(k:Int)<i
  ·simp only [eG, go_sem, Z2 S, Z1 S, zN0, zN1, zN2, zN3, zN4, zI0, zI1, zI2, zI3, reduceCtorEq, HT S, h1, show ¬ (k : Int) < l.length by omega, List.any_nil]
   exact hx _
  ·simp only [eG, go_sem, Z2 S, Z1 S, zN0, zN1, zN2, zN3, zN4, zI0, zI1, zI2, zI3, reduceCtorEq, HT S, h1, List.any_nil]
   exact hx _
 | succ m ih=>
  intro k fuel hk hf
  obtain⟨e,he⟩:=QB (show k<l.length by omega)
  have hc:(Md.cut l i)[k]? =some e:=by unfold Md.cut;rw[List.getElem?_take,if_pos (by omega),he]
  obtain⟨fuel,rfl⟩:∃ m,fuel=m+1:=⟨fuel-1,by omega⟩
  generalize hK:Z9 6 MS _ _ kx _ (fuel+1)=KK
  rw[MS,E9 hc,List.any_cons]
  have h1:(k:Int)<i:=by omega
  have h2:(k:Int)<l.length:=by omega
  by_cases h3:(Md.at_ p e.pc).kind=10
  ·simp only[eG,go_sem,Z2 S,Z1 S,zN0,zN1,zN2,zN3,zN4,zI0,zI1,zI2,zI3,reduceCtorEq,HT S,ZF he,Zv S,wi k (by omega),h1,h2,h3,Md.Tk]
  ·simp only [eG, go_sem, Z2 S, Z1 S, zN0, zN1, zN2, zN3, zN4, zI0, zI1, zI2, zI3, reduceCtorEq, HT S, ZF he, Zv S, wi k (by omega), h1, h2, h3, Md.Tk]
   rw[<-hK,Z6 (on S _ _ [1,2,3,7] (by decide) rfl) rfl _ _ _ _ _ _ _ _ _ rfl]
   simp only[eG,go_sem,Z2 S,Z1 S,zN0,zN1,zN2,zN3,zN4,zI0,zI1,zI2,zI3,reduceCtorEq,HT S,ZF he,Zv S,wi k (by omega),h1,h2]
   exact ih (k+1) fuel (by omega) (by omega)
theorem Zbb (dp:Nat)(p:Prog)(l:List Ent)(i:Int)(hl:l.length<1073741824):Z7 E fn (dp+2) 118 [ZP p,rD l,vi i] (vb (Md.X5 p l i)):=by
 unfold Z7
 show Zz (Z5 E fn (dp+1+1) 118 [.d (ZP p),.d (rD l),.d (vi i)] [])=_
 rw[Yx,S.Z4v,Yw,Z8g,Yq _ _ _ _ _ _ _ _ rfl]
 simp only[eG,go_sem,Z2 S,Z1 S,zN0,zN1,zN2,zN3,zN4,zI0,zI1,zI2,zI3,reduceCtorEq,HT S]
 rw[ZU,Z6 (on S _ _ [1,2,3,7] (by decide) rfl) rfl _ _ _ _ _ _ _ _ _ rfl]
 simp only[eG,go_sem,Z2 S,Z1 S,zN0,zN1,zN2,zN3,zN4,zI0,zI1,zI2,zI3,reduceCtorEq,HT S]
 refine Zer S dp p l i hl _ ?_ (Md.cut l i).length 0 _ (by omega) (by have:=Rk l i;omega)
 intro T
 simp only[eG,go_sem,Z2 S,Z1 S,zN0,zN1,zN2,zN3,zN4,zI0,zI1,zI2,zI3,reduceCtorEq,HT S]
theorem Zi4 (dp:Nat)(p_w p_wn p_fu p_r0 p_r1 p_r2 p_r3:Int)(p_ms:List MemT)(p_ls:List Label)(p_is:List Ins)(l:List Ent)(i:Int)(hl:l.length<1073741824)(A:List Blk)(nb:Nat)(us:List Nat):ZX false E (Z5 E fn (dp+2)) 118 A nb (some ([.agg [vi p_w,vi p_wn,vi p_fu,vi p_r0,vi p_r1,vi p_r2,vi p_r3,rD p_ms,rD p_ls,rD p_is],rD l,vi i],us))=some (.made (.d (vb (Md.X5 (⟨p_w,p_wn,p_fu,⟨p_r0,p_r1,p_r2,p_r3⟩,p_ms,p_ls,p_is⟩:Prog) l i))) []):=
 Z7.flat (Zbb S dp (⟨p_w,p_wn,p_fu,⟨p_r0,p_r1,p_r2,p_r3⟩,p_ms,p_ls,p_is⟩:Prog) l i hl) (np S 118 (by decide)) (rfl) A nb us
theorem Zeo (dp:Nat)(p:Prog)(mem:List Int)(l:List Ent)(addr:Int)(hl:l.length<1073741824)(kx:Nat->K)
  (hx:∀ T,ZG .bot T 1=.d (rD mem)->ZG .bot T 4=aI addr->Zz (kx 0 (mk .bot 73 T) [.cells ((YH p).map .d) 0 false])=some (.tup [vi (Md.J6 p mem addr []).1,vi (Md.J6 p mem addr []).2.1,vb (Md.J6 p mem addr []).2.2])):
  ∀(k fuel:Nat),k<=l.length->k<fuel->Zz (MQ (Zj E 73) (Z5 E fn (dp+1)) (Z9 6 MQ (Zj E 73) (Z5 E fn (dp+1)) kx (YD 0 [.tmp 10,.tmp 11,.tmp 12]) fuel) kx (YD 0 [.tmp 10,.tmp 11,.tmp 12])
   (mk .bot 73 [(1,.d (rD mem)),(2,.d (rD l)),(4,aI addr),(5,.ref 0 0 0),(13,aI ((k:Int)-1))]) [.cells ((YH p).map .d) 0 false])=
   some (.tup [vi (Md.J6 p mem addr (l.take k).reverse).1,vi (Md.J6 p mem addr (l.take k).reverse).2.1,vb (Md.J6 p mem addr (l.take k).reverse).2.2]):=by
 intro k
 induction k with
 | zero=>
  intro fuel _ hf
  generalize Z9 6 MQ _ _ kx _ fuel=KK
  rw[MQ]
  simp only[eG,go_sem,Z2 S,Z1 S,zN0,zN1,zN2,zN3,zN4,zI0,zI1,zI2,zI3,reduceCtorEq,DG S,show ¬(((0:Nat):Int)-1>=0) by omega,List.take_zero,List.reverse_nil]
  exact hx _ rfl rfl
 | succ k ih=>
  intro fuel hk hf
  obtain⟨e,he⟩:=QB (show k<l.length by omega)
  obtain⟨fuel,rfl⟩:∃ m,fuel=m+1:=⟨fuel-1,by omega⟩
  rw[show(((k+1:Nat):Int)-1)=(k:Int) by omega,Z01 he]
  generalize hK:Z9 6 MQ _ _ kx _ (fuel+1)=KK
  rw[MQ]
  have hlen:(l.take k).reverse.length=k:=by simp;omega
  by_cases h1:(Md.at_ p e.pc).kind=3
  ·cases h2 : e.known with
   | true=>
    by_cases h3:e.addr=addr
    ·cases h4:e.done<;>simp only[eG,go_sem,Z2 S,Z1 S,zN0,zN1,zN2,zN3,zN4,zI0,zI1,zI2,zI3,reduceCtorEq,DG S,ZF he,Zv S,Int.natCast_nonneg,ge_iff_le,wd k (by omega),h1,h2,h3,h4,Md.J6,Md.Mw,hlen]
    ·simp only [eG, go_sem, Z2 S, Z1 S, zN0, zN1, zN2, zN3, zN4, zI0, zI1, zI2, zI3, reduceCtorEq, DG S, ZF he, Zv S, Int.natCast_nonneg, ge_iff_le, wd k (by omega), h1, h2, h3, Md.J6, Md.Mw]
     rw[<-hK,Z6 (on S _ _ [1,2,4,5,13] (by decide) rfl) rfl _ _ _ _ _ _ _ _ _ rfl]
     simp only[eG,go_sem,Z2 S,Z1 S,zN0,zN1,zN2,zN3,zN4,zI0,zI1,zI2,zI3,reduceCtorEq,DG S,ZF he,Zv S,Int.natCast_nonneg,ge_iff_le,wd k (by omega)]
     exact ih fuel (by omega) (by omega)
   | false=>
    simp only[eG,go_sem,Z2 S,Z1 S,zN0,zN1,zN2,zN3,zN4,zI0,zI1,zI2,zI3,reduceCtorEq,DG S,ZF he,Zv S,Int.natCast_nonneg,ge_iff_le,wd k (by omega),h1,h2,Md.J6,Md.Mw]
    rw[<-hK,Z6 (on S _ _ [1,2,4,5,13] (by decide) rfl) rfl _ _ _ _ _ _ _ _ _ rfl]
    simp only[eG,go_sem,Z2 S,Z1 S,zN0,zN1,zN2,zN3,zN4,zI0,zI1,zI2,zI3,reduceCtorEq,DG S,ZF he,Zv S,Int.natCast_nonneg,ge_iff_le,wd k (by omega)]
    exact ih fuel (by omega) (by omega)
  ·simp only [eG, go_sem, Z2 S, Z1 S, zN0, zN1, zN2, zN3, zN4, zI0, zI1, zI2, zI3, reduceCtorEq, DG S, ZF he, Zv S, Int.natCast_nonneg, ge_iff_le, wd k (by omega), h1, Md.J6, Md.Mw]
   rw[<-hK,Z6 (on S _ _ [1,2,4,5,13] (by decide) rfl) rfl _ _ _ _ _ _ _ _ _ rfl]
   simp only[eG,go_sem,Z2 S,Z1 S,zN0,zN1,zN2,zN3,zN4,zI0,zI1,zI2,zI3,reduceCtorEq,DG S,ZF he,Zv S,Int.natCast_nonneg,ge_iff_le,wd k (by omega)]
   exact ih fuel (by omega) (by omega)
theorem Zb1 (dp:Nat)(p:Prog)(mem:List Int)(l:List Ent)(i addr:Int)(hl:l.length<1073741824):Z7 E fn (dp+2) 73 [ZP p,rD mem,rD l,vi i,vi addr] (.tup [vi (Md.load p mem l i addr).1,vi (Md.load p mem l i addr).2.1,vb (Md.load p mem l i addr).2.2]):=by
 unfold Z7
 show Zz (Z5 E fn (dp+1+1) 73 [.d (ZP p),.d (rD mem),.d (rD l),.d (vi i),.d (vi addr)] [])=_
 rw[Yx,S.Z4l,Yw,Z86,Yq _ _ _ _ _ _ _ _ rfl]
 have e:Md.load p mem l i addr=Md.J6 p mem addr (l.take (min i.toNat l.length)).reverse:=by unfold Md.load;rw[Z68]
 rw[e]
 simp only[eG,go_sem,Z2 S,Z1 S,zN0,zN1,zN2,zN3,zN4,zI0,zI1,zI2,zI3,reduceCtorEq,DG S,Z2i,wd _ (show min i.toNat l.length<4611686018427387904 by omega)]
 rw[ZU,Z6 (on S _ _ [1,2,4,5,13] (by decide) rfl) rfl _ _ _ _ _ _ _ _ _ rfl]
 simp only[eG,go_sem,Z2 S,Z1 S,zN0,zN1,zN2,zN3,zN4,zI0,zI1,zI2,zI3,reduceCtorEq,DG S]
 refine Zeo S dp p mem l addr hl _ ?_ _ _ (Nat.min_le_right _ _) (by omega)
 intro T h1 h4
 by_cases h:addr<0
 ·simp only[eG,go_sem,Z2 S,Z1 S,zN0,zN1,zN2,zN3,zN4,zI0,zI1,zI2,zI3,reduceCtorEq,DG S,h1,h4,h,Md.J6]
 ·by_cases h2 : (mem.length : Int) <= addr
  ·simp only[eG,go_sem,Z2 S,Z1 S,zN0,zN1,zN2,zN3,zN4,zI0,zI1,zI2,zI3,reduceCtorEq,DG S,h1,h4,h,ge_iff_le,h2,Md.J6]
  ·obtain ⟨e, he⟩ := QB (show addr.toNat < mem.length by omega)
   simp only[eG,go_sem,Z2 S,Z1 S,zN0,zN1,zN2,zN3,zN4,zI0,zI1,zI2,zI3,reduceCtorEq,DG S,h1,h4,h,ge_iff_le,h2,Md.J6,EK (show 0<=addr by omega) he,he,Option.getD_some]
theorem B6 (dp:Nat)(p_w p_wn p_fu p_r0 p_r1 p_r2 p_r3:Int)(p_ms:List MemT)(p_ls:List Label)(p_is:List Ins)(mem:List Int)(l:List Ent)(i addr:Int)(hl:l.length<1073741824)(A:List Blk)(nb:Nat)(us:List Nat):ZX false E (Z5 E fn (dp+2)) 73 A nb (some ([.agg [vi p_w,vi p_wn,vi p_fu,vi p_r0,vi p_r1,vi p_r2,vi p_r3,rD p_ms,rD p_ls,rD p_is],rD mem,rD l,vi i,vi addr],us))=some (.made (.d (.tup [vi (Md.load (⟨p_w,p_wn,p_fu,⟨p_r0,p_r1,p_r2,p_r3⟩,p_ms,p_ls,p_is⟩:Prog) mem l i addr).1,vi (Md.load (⟨p_w,p_wn,p_fu,⟨p_r0,p_r1,p_r2,p_r3⟩,p_ms,p_ls,p_is⟩:Prog) mem l i addr).2.1,vb (Md.load (⟨p_w,p_wn,p_fu,⟨p_r0,p_r1,p_r2,p_r3⟩,p_ms,p_ls,p_is⟩:Prog) mem l i addr).2.2])) []):=
 Z7.flat (Zb1 S dp (⟨p_w,p_wn,p_fu,⟨p_r0,p_r1,p_r2,p_r3⟩,p_ms,p_ls,p_is⟩:Prog) mem l i addr hl) (np S 73 (by decide)) (rfl) A nb us
end
end Go.Aug.Mc
namespace Go.Aug.Md
open Go Go.Aug
def Z5o:Ent:=⟨0,0,0,0,0,false,false,false⟩
def ZA (l:List Ent)(i:Int):Ent:=(l[i.toNat]?).getD Z5o
def Bv (p:Prog)(c:Conf)(i:Int):Bool:=c.end_==0&&decide (0<=i)&&decide (i<c.buf.length)&& !X5 p c.buf i
def QA (p:Prog)(c:Conf)(i:Int):Ins:=at_ p (ZA c.buf i).pc
def YS (p:Prog)(c:Conf)(i:Int)(v:Val):Int×Bool:=val p c.state.regs c.buf i v
def CY (p:Prog)(c:Conf)(i r:Int):Int×Bool:=reg p c.state.regs c.buf i r
def EX (p:Prog)(c:Conf)(i addr:Int):Int×Int×Bool:=load p c.state.mem c.buf i addr
def ready (N:Int)(p:Prog)(c:Conf)(i:Int)(x:Ins)(a b d:Int×Bool):Bool:=
 if x.kind=1∨x.kind=5 then a.2&&b.2
 else if x.kind=4 then a.2&&b.2&&d.2
 else if x.kind=2 then a.2&&b.2&&(decide (ZR p.w (a.1+b.1)>=N) || (EX p c i (ZR p.w (a.1+b.1))).2.2)
 else if x.kind=3 then d.2
 else if x.kind=7 then a.2
 else decide (x.kind=9)
def can (N:Int)(p:Prog)(c:Conf)(i:Int):Bool:=
 Bv p c i&& !(ZA c.buf i).done&&ready N p c i (QA p c i) (YS p c i (QA p c i).a) (YS p c i (QA p c i).b) (CY p c i (QA p c i).d)
def put (c:Conf)(i:Int)(e:Ent):Conf:={ c with buf:=c.buf.set i.toNat e }
def BC (c:Conf)(i:Int)(e:Ent)(to:Int):Conf×List Obs:=
 (if e.next = to then put c i { e with done := true }
  else { c with buf:=(c.buf.set i.toNat { e with done:=true,next:=to }).take (i.toNat+1),state:={ c.state with pc:=to } },[⟨3,to⟩])
def Eq:Conf:=⟨⟨⟨0,0,0,0⟩,[],[],0⟩,[],[],0⟩
def G1 (l:List Int):Int:=l.getLast?.getD 0
def doK (N:Int)(p:Prog)(c:Conf)(i:Int)(e:Ent)(x:Ins)(a b d:Int):Conf×List Obs:=
 if x.kind=1 then(put c i { e with val:=EJ p.w x.op a b,done:=true },[])
 else if x.kind=4 then(put c i { e with val:=if a=0 then d else b,done:=true },[])
 else if x.kind=3 then(put c i { e with val:=d,done:=true },[])
 else if x.kind=2 then
  (if ZR p.w (a + b) >= N then (put c i ⟨e.pc, 0, ZR p.w (a + b), -1, e.next, true, true, true⟩, [])
   else(put c i ⟨e.pc,(EX p c i (ZR p.w (a+b))).1,ZR p.w (a+b),(EX p c i (ZR p.w (a+b))).2.1,e.next,true,true,e.fault⟩,[⟨1,ZR p.w (a+b)⟩]))
 else if x.kind=5 then BC c i e (if EJ p.w x.op a b=0 then Y1 (e.pc+1) else x.target)
 else if x.kind=7 then BC c i e (min a p.ins.length)
 else if x.kind=9 then
  (match real p c.state.stack c.buf i with
   | none=>(put c i { e with done:=true,fault:=true },[])
   | some l=>if l.length=0 then(put c i { e with done:=true,fault:=true },[]) else BC c i e (G1 l))
 else(put c i { e with done:=true },[])
def JZ (N:Int)(p:Prog)(c:Conf)(i:Int):Conf×List Obs:=
 doK N p c i (ZA c.buf i) (QA p c i) (YS p c i (QA p c i).a).1 (YS p c i (QA p c i).b).1 (CY p c i (QA p c i).d).1
def QX (p:Prog)(c:Conf)(i:Int):Bool:=
 Bv p c i&& !(ZA c.buf i).known&&decide ((QA p c i).kind=3)&&(YS p c i (QA p c i).a).2&&(YS p c i (QA p c i).b).2
def QP (p:Prog)(c:Conf)(i:Int):Int:=ZR p.w ((YS p c i (QA p c i).a).1+(YS p c i (QA p c i).b).1)
def MB (p:Prog)(c:Conf)(i addr:Int)(l:List Ent):Conf:=
 bif (JH p l i addr).2 then { c with buf:=l.take (JH p l i addr).1.toNat,state:={ c.state with pc:=(ZA l (JH p l i addr).1).pc } } else { c with buf:=l }
def NZ (N:Int)(p:Prog)(c:Conf)(i:Int)(e:Ent)(addr:Int):Conf×List Obs:=
 if addr>=N then(put c i { e with addr:=addr,known:=true,fault:=true },[])
 else(MB p c i addr (c.buf.set i.toNat { e with addr:=addr,known:=true,fault:=false }),[⟨2,addr⟩])
def addrM (N:Int)(p:Prog)(c:Conf)(i:Int):Conf×List Obs:=NZ N p c i (ZA c.buf i) (QP p c i)
def J7 (p:Prog)(c:Conf):Int:=
 if c.end_≠0∨c.state.pc= -1∨(c.buf.length:Int)>=p.window then 0
 else if(at_ p c.state.pc).kind=5 then 2
 else if(at_ p c.state.pc).kind=7∨(at_ p c.state.pc).kind=9/\c.rsb.length=0 then p.ins.length+1
 else 1
def J8 (p:Prog)(c:Conf)(g:Int):Ent×List Int:=
 let pc:=c.state.pc
 let x:=at_ p pc
 let e:Ent:=⟨pc,0,0,-1,Y1 (pc+1),false,false,false⟩
 if x.kind=5 then({ e with next:=if g=1 then x.target else Y1 (pc+1) },c.rsb)
 else if x.kind=6 then({ e with next:=x.target,done:=true },c.rsb)
 else if x.kind=7 then({ e with next:=g },c.rsb)
 else if x.kind=8 then({ e with next:=x.target,done:=true,fault:=match real p c.state.stack c.buf c.buf.length with | none=>true | some l=>decide (4<=l.length) },push c.rsb (Y1 (pc+1)))
 else if x.kind=9 then(if c.rsb.length=0 then({ e with next:=g },c.rsb) else({ e with next:=G1 c.rsb },c.rsb.dropLast))
 else if x.kind=11∨x.kind=12 then({ e with next:= -1,done:=true },c.rsb)
 else(e,c.rsb)
def Ew (p:Prog)(c:Conf)(g:Int):Bool:=decide (0<=g)&&decide (g<J7 p c)
def fetch (p:Prog)(c:Conf)(g:Int):Conf:=
 {c with buf:=c.buf++[(J8 p c g).1],rsb:=(J8 p c g).2,state:={ c.state with pc:=(J8 p c g).1.next } }
def QC (p:Prog)(c:Conf):Bool:=
 c.end_==0&&decide (c.buf.length≠0)&&((ZA c.buf 0).done || decide ((at_ p (ZA c.buf 0).pc).kind=10))&&(decide ((at_ p (ZA c.buf 0).pc).kind≠3) || (ZA c.buf 0).known)
def Jv (e:Ent):Ent:=if 0<=e.frm then { e with frm:=Y1 (e.frm-1) } else e
def JE (l:List Ent):List Ent:=(l.drop 1).map Jv
def BH (e:Ent)(x:Ins):Int:=bif e.fault || decide (x.kind=12) then 2 else if x.kind=11 then 1 else 0
def A8 (s:State)(e:Ent)(x:Ins):State:=
 if x.kind=1∨x.kind=2∨x.kind=4 then { s with regs:=AD s.regs x.d e.val }
 else if x.kind=3 then(if 0<=e.addr/\e.addr<s.mem.length then { s with mem:=s.mem.set e.addr.toNat e.val } else s)
 else if x.kind=8 then { s with stack:=s.stack++[Y1 (e.pc+1)] }
 else if x.kind=9 then { s with stack:=s.stack.dropLast }
 else s
def retire (p:Prog)(c:Conf):Conf:=
 let e:=ZA c.buf 0
 let x:=at_ p e.pc
 if BH e x=0 then { c with buf:=JE c.buf,state:=A8 c.state e x }
 else { c with buf:=[],rsb:=[],end_:=BH e x,state:={ c.state with pc:=e.pc } }
def all (N:Int)(p:Prog)(c:Conf):List Dir:=
 ((List.range (J7 p c).toNat).map fun n:Nat=>(⟨1,(n:Int)⟩:Dir))++
 (((List.range c.buf.length).filter fun n:Nat=>can N p c (n:Int)).map fun n:Nat=>(⟨2,(n:Int)⟩:Dir))++
 (((List.range c.buf.length).filter fun n:Nat=>QX p c (n:Int)).map fun n:Nat=>(⟨3,(n:Int)⟩:Dir))++
 (bif QC p c then[⟨4,0⟩] else[])
def Cz (N:Int)(p:Prog)(c:Conf)(d:Dir):Bool:=
 if d.kind=1 then Ew p c d.n else if d.kind=2 then can N p c d.n else if d.kind=3 then QX p c d.n
 else decide (d.kind=4)&&decide (d.n=0)&&QC p c
def say (N:Int)(p:Prog)(c:Conf)(d:Dir):Conf×List Obs:=
 if d.kind=1 then(fetch p c d.n,[]) else if d.kind=2 then JZ N p c d.n else if d.kind=3 then addrM N p c d.n else(retire p c,[])
end Go.Aug.Md
namespace Go.Aug.Mc
open Go Go.Aug
open Nat renaming reduceLT -> zN0, reduceEqDiff -> zN1, reduceAdd -> zN2, reduceMul -> zN3, reduceLeDiff -> zN4
open Int renaming reduceEq -> zI0, reduceLT -> zI1, reduceLE -> zI2, reduceNeg -> zI3
set_option linter.unusedSimpArgs false
set_option linter.unusedVariables false
set_option maxHeartbeats 40000000
theorem SP {p:Prog}{c:Conf}{i:Int}(h:Md.Bv p c i=true):0<=i/\c.buf[i.toNat]? =some (Md.ZA c.buf i)/\i<c.buf.length:=by
 simp only[Md.Bv,Bool.and_eq_true,decide_eq_true_eq] at h
 obtain⟨e,he⟩:=QB (show i.toNat<c.buf.length by omega)
 exact⟨h.1.1.2,by rw[Md.ZA,he];rfl,h.1.2⟩
variable {E:Env} {fn:FuncId->Option (Env->cT->cT)}
section
variable (S:Sur E fn)
include S
theorem SZ:E.lives 40 7=none/\E.lives 40 17=none/\E.lives 40 19=none/\E.lives 40 23=none/\E.lives 40 27=none/\E.lives 40 35=none/\E.lives 40 39=none:=⟨off S 40 7 (by decide) rfl,off S 40 17 (by decide) rfl,off S 40 19 (by decide) rfl,off S 40 23 (by decide) rfl,off S 40 27 (by decide) rfl,off S 40 35 (by decide) rfl,off S 40 39 (by decide) rfl⟩
theorem Zbc (dp:Nat)(s:State):Z7 E fn (dp+1) 29 [JD s] (ZY ⟨s,[],[],0⟩):=by
 unfold Z7
 show Zz (Z5 E fn (dp+1) 29 [.d (JD s)] [])=_
 rw[Yx,S.Z4w,Yw,Z8h,Yq _ _ _ _ _ _ _ _ rfl]
 simp only[eG,go_sem,Z2 S,Z1 S,zN0,zN1,zN2,zN3,zN4,zI0,zI1,zI2,zI3,reduceCtorEq]
theorem Zi5 (dp:Nat)(s_r0 s_r1 s_r2 s_r3:Int)(s_mm s_st:List Int)(s_pc:Int)(A:List Blk)(nb:Nat):ZX false E (Z5 E fn (dp+1)) 29 A nb (some ([.agg [vi s_r0,vi s_r1,vi s_r2,vi s_r3,rD s_mm,rD s_st,vi s_pc]],[]))=some (.made (.d (ZY ⟨(⟨⟨s_r0,s_r1,s_r2,s_r3⟩,s_mm,s_st,s_pc⟩:State),[],[],0⟩)) []):=
 Z7.deep (Zbc S dp (⟨⟨s_r0,s_r1,s_r2,s_r3⟩,s_mm,s_st,s_pc⟩:State) ) (np S 29 (by decide)) A nb
theorem Zas (dp:Nat)(p:Prog)(c:Conf)(i:Int)(hl:c.buf.length<1073741824):Z7 E fn (dp+3) 71 [ZP p,ZY c,vi i] (vb (Md.Bv p c i)):=by
 unfold Z7
 show Zz (Z5 E fn (dp+2+1) 71 [.d (ZP p),.d (ZY c),.d (vi i)] [])=_
 rw[Yx,S.Z4c,Yw,Z7x,Yq _ _ _ _ _ _ _ _ rfl]
 by_cases h1:c.end_=0
 ·by_cases h2 : 0 <= i
  ·by_cases h3 : i < c.buf.length
   ·simp only[eG,go_sem,Z2 S,Z1 S,zN0,zN1,zN2,zN3,zN4,zI0,zI1,zI2,zI3,reduceCtorEq,h1,h2,h3,ge_iff_le,Zi4 S,hl,Md.Bv]
   ·simp only[eG,go_sem,Z2 S,Z1 S,zN0,zN1,zN2,zN3,zN4,zI0,zI1,zI2,zI3,reduceCtorEq,h1,h2,h3,ge_iff_le,Md.Bv]
  ·simp only[eG,go_sem,Z2 S,Z1 S,zN0,zN1,zN2,zN3,zN4,zI0,zI1,zI2,zI3,reduceCtorEq,h1,h2,ge_iff_le,Md.Bv]
 ·simp only[eG,go_sem,Z2 S,Z1 S,zN0,zN1,zN2,zN3,zN4,zI0,zI1,zI2,zI3,reduceCtorEq,h1,Md.Bv]
theorem Kv (dp:Nat)(p_w p_wn p_fu p_r0 p_r1 p_r2 p_r3:Int)(p_ms:List MemT)(p_ls:List Label)(p_is:List Ins)(c_r0 c_r1 c_r2 c_r3:Int)(c_mm c_st:List Int)(c_pc:Int)(c_bf:List Ent)(c_rb:List Int)(c_en i:Int)(hl:(⟨⟨⟨c_r0,c_r1,c_r2,c_r3⟩,c_mm,c_st,c_pc⟩,c_bf,c_rb,c_en⟩:Conf).buf.length<1073741824)(A:List Blk)(nb:Nat)(us:List Nat):ZX false E (Z5 E fn (dp+3)) 71 A nb (some ([.agg [vi p_w,vi p_wn,vi p_fu,vi p_r0,vi p_r1,vi p_r2,vi p_r3,rD p_ms,rD p_ls,rD p_is],.agg [vi c_r0,vi c_r1,vi c_r2,vi c_r3,rD c_mm,rD c_st,vi c_pc,rD c_bf,rD c_rb,vi c_en],vi i],us))=some (.made (.d (vb (Md.Bv (⟨p_w,p_wn,p_fu,⟨p_r0,p_r1,p_r2,p_r3⟩,p_ms,p_ls,p_is⟩:Prog) (⟨⟨⟨c_r0,c_r1,c_r2,c_r3⟩,c_mm,c_st,c_pc⟩,c_bf,c_rb,c_en⟩:Conf) i))) []):=
 Z7.flat (Zas S dp (⟨p_w,p_wn,p_fu,⟨p_r0,p_r1,p_r2,p_r3⟩,p_ms,p_ls,p_is⟩:Prog) (⟨⟨⟨c_r0,c_r1,c_r2,c_r3⟩,c_mm,c_st,c_pc⟩,c_bf,c_rb,c_en⟩:Conf) i hl) (np S 71 (by decide)) (rfl) A nb us
theorem Zar (dp:Nat)(p:Prog)(c:Conf)(i:Int)(x:Ins)(hl:c.buf.length<1073741824):Z7 E fn (dp+4) 72 [ZP p,ZY c,vi i,.agg (Cl.cells x)] (.tup [vi (Md.YS p c i x.a).1,vi (Md.YS p c i x.b).1,vi (Md.CY p c i x.d).1,vb ((Md.YS p c i x.a).2&&(Md.YS p c i x.b).2),vb (Md.CY p c i x.d).2]):=by
 unfold Z7
 show Zz (Z5 E fn (dp+3+1) 72 [.d (ZP p),.d (ZY c),.d (vi i),.d (.agg (Cl.cells x))] [])=_
 rw[Yx,S.Z4b,Yw,Z7w,Yq _ _ _ _ _ _ _ _ rfl]
 cases h:(Md.val p c.state.regs c.buf i x.a).2<;>simp only[eG,go_sem,Z2 S,Z1 S,zN0,zN1,zN2,zN3,zN4,zI0,zI1,zI2,zI3,reduceCtorEq,h,WP S,Z6o S,hl,Md.YS,Md.CY]
theorem Jj (dp:Nat)(p_w p_wn p_fu p_r0 p_r1 p_r2 p_r3:Int)(p_ms:List MemT)(p_ls:List Label)(p_is:List Ins)(c_r0 c_r1 c_r2 c_r3:Int)(c_mm c_st:List Int)(c_pc:Int)(c_bf:List Ent)(c_rb:List Int)(c_en i x_k x_o x_d:Int)(x_ag:Bool)(x_an:Int)(x_bg:Bool)(x_bn:Int)(x_nm:ByteArray)(x_tg:Int)(hl:(⟨⟨⟨c_r0,c_r1,c_r2,c_r3⟩,c_mm,c_st,c_pc⟩,c_bf,c_rb,c_en⟩:Conf).buf.length<1073741824)(A:List Blk)(nb:Nat)(us:List Nat):ZX false E (Z5 E fn (dp+4)) 72 A nb (some ([.agg [vi p_w,vi p_wn,vi p_fu,vi p_r0,vi p_r1,vi p_r2,vi p_r3,rD p_ms,rD p_ls,rD p_is],.agg [vi c_r0,vi c_r1,vi c_r2,vi c_r3,rD c_mm,rD c_st,vi c_pc,rD c_bf,rD c_rb,vi c_en],vi i,.agg [vi x_k,vi x_o,vi x_d,vb x_ag,vi x_an,vb x_bg,vi x_bn,vt x_nm,vi x_tg]],us))=some (.made (.d (.tup [vi (Md.YS (⟨p_w,p_wn,p_fu,⟨p_r0,p_r1,p_r2,p_r3⟩,p_ms,p_ls,p_is⟩:Prog) (⟨⟨⟨c_r0,c_r1,c_r2,c_r3⟩,c_mm,c_st,c_pc⟩,c_bf,c_rb,c_en⟩:Conf) i (⟨x_k,x_o,x_d,⟨x_ag,x_an⟩,⟨x_bg,x_bn⟩,x_nm,x_tg⟩:Ins).a).1,vi (Md.YS (⟨p_w,p_wn,p_fu,⟨p_r0,p_r1,p_r2,p_r3⟩,p_ms,p_ls,p_is⟩:Prog) (⟨⟨⟨c_r0,c_r1,c_r2,c_r3⟩,c_mm,c_st,c_pc⟩,c_bf,c_rb,c_en⟩:Conf) i (⟨x_k,x_o,x_d,⟨x_ag,x_an⟩,⟨x_bg,x_bn⟩,x_nm,x_tg⟩:Ins).b).1,vi (Md.CY (⟨p_w,p_wn,p_fu,⟨p_r0,p_r1,p_r2,p_r3⟩,p_ms,p_ls,p_is⟩:Prog) (⟨⟨⟨c_r0,c_r1,c_r2,c_r3⟩,c_mm,c_st,c_pc⟩,c_bf,c_rb,c_en⟩:Conf) i (⟨x_k,x_o,x_d,⟨x_ag,x_an⟩,⟨x_bg,x_bn⟩,x_nm,x_tg⟩:Ins).d).1,vb ((Md.YS (⟨p_w,p_wn,p_fu,⟨p_r0,p_r1,p_r2,p_r3⟩,p_ms,p_ls,p_is⟩:Prog) (⟨⟨⟨c_r0,c_r1,c_r2,c_r3⟩,c_mm,c_st,c_pc⟩,c_bf,c_rb,c_en⟩:Conf) i (⟨x_k,x_o,x_d,⟨x_ag,x_an⟩,⟨x_bg,x_bn⟩,x_nm,x_tg⟩:Ins).a).2&&(Md.YS (⟨p_w,p_wn,p_fu,⟨p_r0,p_r1,p_r2,p_r3⟩,p_ms,p_ls,p_is⟩:Prog) (⟨⟨⟨c_r0,c_r1,c_r2,c_r3⟩,c_mm,c_st,c_pc⟩,c_bf,c_rb,c_en⟩:Conf) i (⟨x_k,x_o,x_d,⟨x_ag,x_an⟩,⟨x_bg,x_bn⟩,x_nm,x_tg⟩:Ins).b).2),vb (Md.CY (⟨p_w,p_wn,p_fu,⟨p_r0,p_r1,p_r2,p_r3⟩,p_ms,p_ls,p_is⟩:Prog) (⟨⟨⟨c_r0,c_r1,c_r2,c_r3⟩,c_mm,c_st,c_pc⟩,c_bf,c_rb,c_en⟩:Conf) i (⟨x_k,x_o,x_d,⟨x_ag,x_an⟩,⟨x_bg,x_bn⟩,x_nm,x_tg⟩:Ins).d).2])) []):=
 Z7.flat (Zar S dp (⟨p_w,p_wn,p_fu,⟨p_r0,p_r1,p_r2,p_r3⟩,p_ms,p_ls,p_is⟩:Prog) (⟨⟨⟨c_r0,c_r1,c_r2,c_r3⟩,c_mm,c_st,c_pc⟩,c_bf,c_rb,c_en⟩:Conf) i (⟨x_k,x_o,x_d,⟨x_ag,x_an⟩,⟨x_bg,x_bn⟩,x_nm,x_tg⟩:Ins) hl) (np S 72 (by decide)) (rfl) A nb us
theorem Zba (dp:Nat)(p:Prog)(c:Conf)(i:Int)(hl:c.buf.length<1073741824):Z7 E fn (dp+5) 40 [ZP p,ZY c,vi i] (vb (Md.can (c.state.mem.length:Int) p c i)):=by
 unfold Z7
 show Zz (Z5 E fn (dp+4+1) 40 [.d (ZP p),.d (ZY c),.d (vi i)] [])=_
 rw[Yx,S.Z4u,Yw,Z8f,Yq _ _ _ _ _ _ _ _ rfl]
 cases ho:Md.Bv p c i with
 | false=>simp only[eG,go_sem,Z2 S,Z1 S,zN0,zN1,zN2,zN3,zN4,zI0,zI1,zI2,zI3,reduceCtorEq,SZ S,Kv S,hl,ho,Md.can]
 | true=>
  obtain⟨h0,he,_⟩:=SP ho
  cases hd:(Md.ZA c.buf i).done with
  | true=>simp only[eG,go_sem,Z2 S,Z1 S,zN0,zN1,zN2,zN3,zN4,zI0,zI1,zI2,zI3,reduceCtorEq,SZ S,Kv S,hl,ho,EK h0 he,hd,Md.can]
  | false=>
   simp only[eG,go_sem,Z2 S,Z1 S,zN0,zN1,zN2,zN3,zN4,zI0,zI1,zI2,zI3,reduceCtorEq,SZ S,Kv S,hl,ho,EK h0 he,hd,Md.can,Zv S,Jj S,J5 S,B6 S,WP S,Md.Jx]
   have hm:Md.QA p c i=Md.at_ p (Md.ZA c.buf i).pc:=rfl
   rw[hm]
   generalize hx:Md.at_ p (Md.ZA c.buf i).pc=x
   cases hab:((Md.YS p c i x.a).2&&(Md.YS p c i x.b).2)<;>by_cases hN:Md.ZR p.w ((Md.YS p c i x.a).1+(Md.YS p c i x.b).1)>=(c.state.mem.length:Int)
   all_goals
    simp only[eG,go_sem,Z2 S,Z1 S,zN0,zN1,zN2,zN3,zN4,zI0,zI1,zI2,zI3,reduceCtorEq,SZ S,hab,hN,Kv S,hl,ho,EK h0 he,hd,Md.can,Zv S,Jj S,J5 S,B6 S,WP S,Md.Jx]
    by_cases k1:x.kind=1
    ·simp only[k1,Md.ready,hab,if_true,decide_true,cond_true,true_or]
    by_cases k5:x.kind=5
    ·simp only[k5,Md.ready,hab,if_true,decide_true,cond_true,or_true,zI0,decide_false,cond_false]
    by_cases k4:x.kind=4
    ·simp only[k4,Md.ready,hab,if_true,if_false,decide_true,cond_true,or_self,zI0,decide_false,cond_false,Bool.true_and,Bool.false_and]
    by_cases k2:x.kind=2
    ·simp only[k2,Md.ready,hab,hN,if_true,if_false,decide_true,cond_true,or_self,zI0,decide_false,cond_false,Bool.true_and,Bool.false_and,Bool.true_or,Bool.false_or,Md.EX]
    by_cases k3:x.kind=3
    ·simp only[k3,Md.ready,if_true,if_false,decide_true,cond_true,or_self,zI0,decide_false,cond_false]
    by_cases k7:x.kind=7
    ·simp only[k7,Md.ready,if_true,if_false,decide_true,cond_true,or_self,zI0,decide_false,cond_false,Md.YS]
    ·simp only[k1,k2,k3,k4,k5,k7,Md.ready,if_true,if_false,decide_true,cond_true,or_self,zI0,decide_false,cond_false]
theorem JB (dp:Nat)(p_w p_wn p_fu p_r0 p_r1 p_r2 p_r3:Int)(p_ms:List MemT)(p_ls:List Label)(p_is:List Ins)(c_r0 c_r1 c_r2 c_r3:Int)(c_mm c_st:List Int)(c_pc:Int)(c_bf:List Ent)(c_rb:List Int)(c_en i:Int)(hl:(⟨⟨⟨c_r0,c_r1,c_r2,c_r3⟩,c_mm,c_st,c_pc⟩,c_bf,c_rb,c_en⟩:Conf).buf.length<1073741824)(A:List Blk)(nb:Nat)(us:List Nat):ZX false E (Z5 E fn (dp+5)) 40 A nb (some ([.agg [vi p_w,vi p_wn,vi p_fu,vi p_r0,vi p_r1,vi p_r2,vi p_r3,rD p_ms,rD p_ls,rD p_is],.agg [vi c_r0,vi c_r1,vi c_r2,vi c_r3,rD c_mm,rD c_st,vi c_pc,rD c_bf,rD c_rb,vi c_en],vi i],us))=some (.made (.d (vb (Md.can ((⟨⟨⟨c_r0,c_r1,c_r2,c_r3⟩,c_mm,c_st,c_pc⟩,c_bf,c_rb,c_en⟩:Conf).state.mem.length:Int) (⟨p_w,p_wn,p_fu,⟨p_r0,p_r1,p_r2,p_r3⟩,p_ms,p_ls,p_is⟩:Prog) (⟨⟨⟨c_r0,c_r1,c_r2,c_r3⟩,c_mm,c_st,c_pc⟩,c_bf,c_rb,c_en⟩:Conf) i))) []):=
 Z7.flat (Zba S dp (⟨p_w,p_wn,p_fu,⟨p_r0,p_r1,p_r2,p_r3⟩,p_ms,p_ls,p_is⟩:Prog) (⟨⟨⟨c_r0,c_r1,c_r2,c_r3⟩,c_mm,c_st,c_pc⟩,c_bf,c_rb,c_en⟩:Conf) i hl) (np S 40 (by decide)) (rfl) A nb us
end
end Go.Aug.Mc
