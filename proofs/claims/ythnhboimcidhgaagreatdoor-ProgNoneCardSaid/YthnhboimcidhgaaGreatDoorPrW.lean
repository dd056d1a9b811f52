import Derived.Test.YthnhboimcidhgaaGreatDoorPrL
import Derived.Test.YthnhboimcidhgaaGreatDoorShB
import Derived.WalkKit
import Derived.BigCall
namespace Go.Proofs.YthnhboimcidhgaaGreatDoor
open Go Go.Aug Go.RowKit
def RawOk (raw:RawT):Prop:=∀ f ds x Ac,raw f ds=some (x,Ac)->∀(I:Nat->Prop) (w:World) (args:Array Value),(∀ b,I b->b<w.heap.size)->Gl I w->DRs I w ds args.toList->Calls Tryz.prog f args w (RawPost I w x Ac)
theorem ne5 {e:Nat}(h:okT e=true):e≠5:=by
 rintro rfl
 simp[okT] at h
theorem drs_vals {I:Nat->Prop}{w:World}:∀ l:List Value,(∀ x ∈ l,x.oneCell'=true)->DRs I w (l.map .v) l
 | [],_=>.nil
 | x::l,h=>.cons (.v x (h x (by simp))) (drs_vals l fun y hy=>h y (by simp[hy]))
set_option maxHeartbeats 4000000 in
set_option maxRecDepth 1000000 in
theorem walk1 (raw:RawT)(hraw:RawOk raw)(v0 v1 v2 v3 v4 v5 v6 v7 v8:Value)(ad:Option Addr)(n cap:Nat)(w:World)(I:Nat->Prop)(x:AV)(Ac:List Blk)(p:DV)(len:Nat)(cs:List AV)(vs:List Value)(r:Option ByteArray)
  (hI:∀ b,I b->b<w.heap.size) (hgl:Gl I w) (hd:DRs I w [p] [.agg #[v0,v1,v2,v3,v4,v5,v6,v7,v8,.slice ad n cap]]) (h32:¬32<n)
  (hit:raw 62 [p]=some (.sref 0 0 0 len 13 none,[.cells cs 0 false])) (hcs:cs.length=len*13) (hlen:len<=1000000) (hvs:valsOf cs=some vs)
  (hT:textsOf raw 63 len vs ByteArray.empty=some r) (hnone:r=none->ansT ByteArray.empty false=some (x,Ac))
  (hfin:∀ s,r=some s->∃ b,backOf raw 67 p (raw 28 [.v (.string s)])=some b/\ansT (if b then s else ByteArray.empty) b=some (x,Ac)):
  Calls Tryz.prog 31 #[.agg #[v0,v1,v2,v3,v4,v5,v6,v7,v8,.slice ad n cap]] w (RawPost I w x Ac):=by
 have hlt:(n:Int)<=32:=by omega
 have hk2:Kept w ((w.alloc (.cells #[v0,v1,v2,v3,v4,v5,v6,v7,v8,.slice ad n cap] 30)).alloc (.cells #[.pointer none,.slice none 0 0] 124)):=(kept_alloc w _).trans (kept_alloc _ _)
 have hIW:∀ b,I b->b<((w.alloc (.cells #[v0,v1,v2,v3,v4,v5,v6,v7,v8,.slice ad n cap] 30)).alloc (.cells #[.pointer none,.slice none 0 0] 124)).heap.size:=fun b hb=>Nat.lt_of_lt_of_le (hI b hb) hk2.size
 have hglW:Gl I ((w.alloc (.cells #[v0,v1,v2,v3,v4,v5,v6,v7,v8,.slice ad n cap] 30)).alloc (.cells #[.pointer none,.slice none 0 0] 124)):=hgl.mono (fun _ h=>h) fun b hb=>hk2.block b (hI b hb)
 have hdW:DRs I ((w.alloc (.cells #[v0,v1,v2,v3,v4,v5,v6,v7,v8,.slice ad n cap] 30)).alloc (.cells #[.pointer none,.slice none 0 0] 124)) [p] #[.agg #[v0,v1,v2,v3,v4,v5,v6,v7,v8,.slice ad n cap]].toList:=hd.mono (fun _ h=>h) fun b hb=>hk2.block b (hI b hb)
 have hs2:((w.alloc (.cells #[v0,v1,v2,v3,v4,v5,v6,v7,v8,.slice ad n cap] 30)).alloc (.cells #[.pointer none,.slice none 0 0] 124)).heap.size=w.heap.size+2:=by
  show((w.heap.push _).push _).size=_
  simp
 have hb0:((w.alloc (.cells #[v0,v1,v2,v3,v4,v5,v6,v7,v8,.slice ad n cap] 30)).alloc (.cells #[.pointer none,.slice none 0 0] 124)).heap[w.heap.size]? =some (.cells #[v0,v1,v2,v3,v4,v5,v6,v7,v8,.slice ad n cap] 30):=by
  show((w.heap.push _).push _)[w.heap.size]? =_
  simp[Array.getElem?_push]
 have hb1:((w.alloc (.cells #[v0,v1,v2,v3,v4,v5,v6,v7,v8,.slice ad n cap] 30)).alloc (.cells #[.pointer none,.slice none 0 0] 124)).heap[w.heap.size+1]? =some (.cells #[.pointer none,.slice none 0 0] 124):=by
  show((w.heap.push _).push _)[w.heap.size+1]? =_
  rw[Array.getElem?_push,if_pos (by simp)]
 go_enter Tryz.func31,Tryz.ntmps31
 go_wp2_with (go_at_call 62;refine(hraw 62 _ _ _ hit I _ _ hIW hglW hdW).mono ?_)
 rintro e W1 ⟨X,c1,rfl,rfl,kp,rel,hA,hx,g1,g2,g3⟩
 obtain⟨capi,rfl,hp0,_⟩:=hx.sref_inv (fun v hv=>by rw[hA] at hv;simp[verAt,Blk.ver] at hv;exact hv.symm)
 obtain⟨o,ho,⟨C,te,rfl,hsz,hvC,hok⟩,_⟩:=rel.blk 0 _ hp0 (by rw[hA];rfl)
 have hC:C.toList.take cs.length=vs:=valsOf_ok hvs hvC
 have hge:w.heap.size+2<=c1.ρ 0:=hs2 ▸ g3 0 hp0 ⟨_,by rw[hA];rfl,rfl⟩
 have hne5:=ne5 hok
 have hkw:Kept w c1.w:=hk2.trans kp
 have hbox:=(kp.block w.heap.size (by rw[hs2];omega)).trans hb0
 have hbld:=(kp.block (w.heap.size+1) (by rw[hs2];omega)).trans hb1
 generalize hbi0:c1.ρ 0=bi at *
 generalize c1.w=W at *
 clear hdW hglW hIW hk2 hs2 hb0 hb1 kp rel hA hx g1 g2 g3 hp0 hok hvC hsz hbi0 hit hvs
 go_wp2
 go_loopw [20] (fun i wr=>∃(k:Nat) (acc:List UInt8),i=.int .i64 k/\k<=len/\Lib.IsBuilderF 124 5 (w.heap.size+1) (w.heap.size+1) (Lib.byteCells acc) wr/\Kept w wr/\wr.heap[w.heap.size]? =some (.cells #[v0,v1,v2,v3,v4,v5,v6,v7,v8,.slice ad n cap] 30)/\wr.heap[bi]? =some (.cells C te (0,0))/\
   textsOf raw 63 (len-k) (vs.drop (k*13)) ⟨acc.toArray⟩=some r) (fun i _=>len-(intOf i).toNat)
 case atStart=>exact⟨0,[],rfl,Nat.zero_le _,bld_fresh hbld,hkw,hbox,ho,by simpa using(show textsOf raw 63 len vs ⟨#[]⟩=some r from hT)⟩
 case round=>
  obtain⟨k,acc,rfl,hk,hB,hK,hbx,hbi,htx⟩:=hrel
  have hbs:w.heap.size+1<wr.heap.size:=by
   rcases hB with h | h
   ·exact h.lt
   ·exact h.lt
  by_cases hkl:k<len
  ·obtain ⟨m, hm⟩ : ∃ m, len - k = m + 1 := ⟨len - k - 1, by omega⟩
   rw[hm] at htx
   obtain⟨a0,a1,a2,a3,a4,a5,a6,a7,a8,a9,a10,a11,a12,rest,hdrop,o1,hlo,hor⟩:=texts_step htx
   obtain⟨x1,A1,hr1,hshape⟩:=lineOf_ok hlo
   have q0:wr.cell? ⟨bi,k*13,none⟩=some (.int .i64 a0):=by simpa using cell_at hbi hC hdrop 0 rfl
   have q1:wr.cell? ⟨bi,k*13+1,none⟩=some (.int .i64 a1):=cell_at hbi hC hdrop 1 rfl
   have q2:wr.cell? ⟨bi,k*13+2,none⟩=some (.bool a2):=cell_at hbi hC hdrop 2 rfl
   have q3:wr.cell? ⟨bi,k*13+3,none⟩=some (.string a3):=cell_at hbi hC hdrop 3 rfl
   have q4:wr.cell? ⟨bi,k*13+4,none⟩=some (.int .i64 a4):=cell_at hbi hC hdrop 4 rfl
   have q5:wr.cell? ⟨bi,k*13+5,none⟩=some (.int .i64 a5):=cell_at hbi hC hdrop 5 rfl
   have q6:wr.cell? ⟨bi,k*13+6,none⟩=some (.int .i64 a6):=cell_at hbi hC hdrop 6 rfl
   have q7:wr.cell? ⟨bi,k*13+7,none⟩=some (.bool a7):=cell_at hbi hC hdrop 7 rfl
   have q8:wr.cell? ⟨bi,k*13+8,none⟩=some (.int .i64 a8):=cell_at hbi hC hdrop 8 rfl
   have q9:wr.cell? ⟨bi,k*13+9,none⟩=some (.bool a9):=cell_at hbi hC hdrop 9 rfl
   have q10:wr.cell? ⟨bi,k*13+10,none⟩=some (.int .i64 a10):=cell_at hbi hC hdrop 10 rfl
   have q11:wr.cell? ⟨bi,k*13+11,none⟩=some (.string a11):=cell_at hbi hC hdrop 11 rfl
   have q12:wr.cell? ⟨bi,k*13+12,none⟩=some (.int .i64 a12):=cell_at hbi hC hdrop 12 rfl
   have hk3:=kept_alloc wr (.cells #[.int .i64 a0,.int .i64 a1,.bool a2,.string a3,.int .i64 a4,.int .i64 a5,.int .i64 a6,.bool a7,.int .i64 a8,.bool a9,.int .i64 a10,.string a11,.int .i64 a12] 116)
   have hc63:Calls Tryz.prog 63 #[.agg #[.int .i64 a0,.int .i64 a1,.bool a2,.string a3,.int .i64 a4,.int .i64 a5,.int .i64 a6,.bool a7,.int .i64 a8,.bool a9,.int .i64 a10,.string a11,.int .i64 a12]] (wr.alloc (.cells #[.int .i64 a0,.int .i64 a1,.bool a2,.string a3,.int .i64 a4,.int .i64 a5,.int .i64 a6,.bool a7,.int .i64 a8,.bool a9,.int .i64 a10,.string a11,.int .i64 a12] 116)) (RawPost I (wr.alloc (.cells #[.int .i64 a0,.int .i64 a1,.bool a2,.string a3,.int .i64 a4,.int .i64 a5,.int .i64 a6,.bool a7,.int .i64 a8,.bool a9,.int .i64 a10,.string a11,.int .i64 a12] 116)) x1 A1):=
    hraw 63 _ _ _ hr1 I _ _ (fun b hb=>Nat.lt_of_lt_of_le (hI b hb) (hK.trans hk3).size) (hgl.mono (fun _ h=>h) fun b hb=>(hK.trans hk3).block b (hI b hb)) (.cons (.agg (drs_vals [.int .i64 a0,.int .i64 a1,.bool a2,.string a3,.int .i64 a4,.int .i64 a5,.int .i64 a6,.bool a7,.int .i64 a8,.bool a9,.int .i64 a10,.string a11,.int .i64 a12] (by simp[Value.oneCell']))) .nil)
   have Hm:Hid (m=len-(k+1)/\rest=vs.drop ((k+1)*13)):=⟨by omega,by rw[show(k+1)*13=k*13+13 by omega,<-List.drop_drop,hdrop];rfl⟩
   clear htx hlo hr1 hdrop hm
   go_wp2_with (go_at_call 63;refine hc63.mono ?_)
   rintro e w2 ⟨X2,c2,rfl,rfl,kp2,_,_,hx2,-,-,-⟩
   obtain⟨s,b,rfl,ho1⟩:=hshape c2 X2 hx2
   have hK2:Kept wr c2.w:=hk3.trans kp2
   have hKw:=hK.trans hK2
   have hB2:=bld_kept hB hK2
   have hbx2:=(hK2.block _ (Array.getElem?_eq_some_iff.1 hbx).1).trans hbx
   have hbi2:=(hK2.block _ (Array.getElem?_eq_some_iff.1 hbi).1).trans hbi
   have hsz2:w.heap.size+1<=c2.w.heap.size:=by have:=hK2.size;omega
   generalize c2.w=w2 at *
   clear hx2 kp2 hshape hc63 q0 q1 q2 q3 q4 q5 q6 q7 q8 q9 q10 q11 q12
   cases b with
   | false=>
    have hr:r=none:=by
     rcases hor with h | ⟨s',h,_⟩
     ·exact h.2
     ·rw[ho1] at h;simp at h
    have hans:=ans_post hI hKw ByteArray.empty false (hnone hr)
    clear hor ho1 hfin hnone hr
    go_wp2
    go_ret2
    exact hans
   | true=>
    obtain⟨hsl,htx2⟩:acc.length+s.size<=1000000000/\textsOf raw 63 m rest ((⟨acc.toArray⟩++s).push 10)=some r:=by
     rcases hor with h | ⟨s',h,h2,h3⟩
     ·rw[ho1] at h;simp at h
     ·rw [ho1] at h
      simp only[if_true,Option.some.injEq] at h
      subst h
      rw[size_mk] at h2
      exact⟨h2,h3⟩
    have hws:Calls Tryz.prog 64 #[.pointer (some ⟨w.heap.size+1,0,none⟩),.string s] w2 fun e w'=>e=.returned (.tuple #[.int .i64 s.size,.nilIface])/\(Lib.BuilderAtF 124 5 (w.heap.size+1) (w.heap.size+1) (.pointer (some ⟨w.heap.size+1,0,none⟩)) (Lib.byteCells acc++Lib.strCells s) w'/\Below (w.heap.size+1) w2 w'/\Lib.OthersKept 5 (some (w.heap.size+1)) w2 w'):=
     Any.Builder_WriteString_k Tryz.lays166 Tryz.bld_extra (w.heap.size+1) (w.heap.size+1) (Lib.byteCells acc) s w2 hB2 (by rw[Lib.byteCells_length];omega) hsz2
    have Hx:Hid (textsOf raw 63 m rest ((⟨acc.toArray⟩++s).push 10)=some r):=htx2
    clear htx2 hor ho1
    go_wp2_with (go_at_call 64;refine hws.mono ?_)
    rintro e w3 ⟨rfl,hB3,hbel3,hok3⟩
    have hKw3:=hKw.below (B:=w.heap.size+1) (by omega) hbel3
    have hbx3:=(hbel3.block w.heap.size (by omega)).trans hbx2
    have hbi3:=hok3 bi _ hbi2 (by simp;omega) (by intro c fz h;cases h;exact hne5 rfl)
    have hsz3:w.heap.size+1<=w3.heap.size:=by have:=hbel3.size;omega
    have hwb:Calls Tryz.prog 65 #[.pointer (some ⟨w.heap.size+1,0,none⟩),.int .u8 10] w3 fun e w'=>e=.returned .nilIface/\(Lib.BuilderAtF 124 5 (w.heap.size+1) (w.heap.size+1) (.pointer (some ⟨w.heap.size+1,0,none⟩)) ((Lib.byteCells acc++Lib.strCells s)++[.int .u8 10]) w'/\Below (w.heap.size+1) w3 w'/\Lib.OthersKept 5 (some (w.heap.size+1)) w3 w'):=
     Any.Builder_WriteByte_k Tryz.lays167 Tryz.bld_extra (w.heap.size+1) (w.heap.size+1) (Lib.byteCells acc++Lib.strCells s) 10 w3 (.inr hB3) (by rw[List.length_append,Lib.byteCells_length,Lib.strCells_length];omega) hsz3
    clear hws hbel3 hok3 hB3
    go_wp2_with (go_at_call 65;refine hwb.mono ?_)
    rintro e w4 ⟨rfl,hB4,hbel4,hok4⟩
    have hKw4:=hKw3.below (B:=w.heap.size+1) (by omega) hbel4
    have hbx4:=(hbel4.block w.heap.size (by omega)).trans hbx3
    have hbi4:=hok4 bi _ hbi3 (by simp;omega) (by intro c fz h;cases h;exact hne5 rfl)
    clear hwb hbel4 hok4
    go_wp2
    go_roundw
    case rel=>
     have Hx':textsOf raw 63 m rest ((⟨acc.toArray⟩++s).push 10)=some r:=Hx
     obtain⟨e1,e2⟩:m=len-(k+1)/\rest=vs.drop ((k+1)*13):=Hm
     refine⟨k+1,acc++s.data.toList++[10],by go_num,by omega,?_,hKw4,hbx4,hbi4,?_⟩
     ·rw[bytes_line];exact .inr hB4
     ·rw[<-e1,<-e2,<-bytes_push];exact Hx'
    case measure=>simp[intOf];omega
  ·have hke : k = len := by omega
   subst hke
   have hr:r=some ⟨acc.toArray⟩:=by
    rw[Nat.sub_self] at htx
    exact(Option.some.inj htx).symm
   obtain⟨b,hback,hans⟩:=hfin _ hr
   obtain⟨x2,A2,hr2,q,n2,m2,ok,htup,hag,hpc,hcase⟩:=back_inv hback
   have hst:Calls Tryz.prog 66 #[.pointer (some ⟨w.heap.size+1,0,none⟩)] wr fun e w'=>e=.returned (.string ⟨acc.toArray⟩)/\(Lib.IsBuilderF 124 5 (w.heap.size+1) (w.heap.size+1) (Lib.byteCells acc) w'/\Below (w.heap.size+1) wr w'/\Lib.OthersKept 5 (some (w.heap.size+1)) wr w'):=
    Any.Builder_String_any_k Tryz.lays169 Tryz.bld_extra (w.heap.size+1) (w.heap.size+1) acc wr hB (by omega)
   have Hhag:Hid (isAg q=true/\progCs q.cells=true/\tupOf x2=some [q,.d (.v (.int .i64 n2)),.d (.v (.int .i64 m2)),.d (.v (.bool ok))]/\((ok=false/\b=false)∨ok=true/\∃ ds u A2',mapD (deep A2 8) [q,.d p]=some (ds,u)/\raw 67 ds=some (.d (.v (.bool b)),A2'))):=⟨hag,hpc,htup,hcase⟩
   clear htx hr hback hag hpc htup hcase hnone hfin
   go_wp2_with (go_at_call 66;refine hst.mono ?_)
   rintro e w2 ⟨rfl,hB2,hbel2,-⟩
   have hK2:=hK.below (B:=w.heap.size+1) (by omega) hbel2
   have hbx2:=(hbel2.block w.heap.size (by omega)).trans hbx
   have hsz2:=hbel2.size
   have hps:Calls Tryz.prog 28 #[.string ⟨acc.toArray⟩] w2 (RawPost I w2 x2 A2):=
    hraw 28 _ _ _ hr2 I w2 _ (fun b hb=>Nat.lt_of_lt_of_le (hI b hb) hK2.size) (hgl.mono (fun _ h=>h) fun b hb=>hK2.block b (hI b hb)) (.cons (.v _ rfl) .nil)
   clear hst hr2 hbel2
   go_wp2_with (go_at_call 28;refine hps.mono ?_)
   rintro e w3 ⟨X3,c3,rfl,rfl,kp3,rel3,rfl,hx3,i1,i2,i3⟩
   obtain⟨hag,hpc,htup,hcase⟩:isAg q=true/\progCs q.cells=true/\tupOf x2=some [q,.d (.v (.int .i64 n2)),.d (.v (.int .i64 m2)),.d (.v (.bool ok))]/\((ok=false/\b=false)∨ok=true/\∃ ds u A2',mapD (deep c3.A 8) [q,.d p]=some (ds,u)/\raw 67 ds=some (.d (.v (.bool b)),A2')):=Hhag
   obtain⟨Xs,rfl,hvs3⟩:=tupOf_ok htup hx3
   obtain _ | ⟨hq,hvs3⟩:=hvs3
   obtain _ | ⟨hn2,hvs3⟩:=hvs3
   obtain _ | ⟨hm2,hvs3⟩:=hvs3
   obtain _ | ⟨hok2,hvs3⟩:=hvs3
   obtain _ | _:=hvs3
   obtain rfl:=hn2.int_inv
   obtain rfl:=hm2.int_inv
   obtain rfl:=hok2.bool_inv
   obtain⟨n0,n1,n2',n3,n4,n5,n6,am,lm,cm,al,ll,cl,ai,li,ci,rfl⟩:=prog_inv hag hpc hq
   have hK3:=hK2.trans kp3
   have hbx3:=(kp3.block w.heap.size (by omega)).trans hbx2
   have hB3:=bld_kept hB2 kp3
   have k4:=kept_alloc c3.w (.cells #[.int .i64 n0,.int .i64 n1,.int .i64 n2',.int .i64 n3,.int .i64 n4,.int .i64 n5,.int .i64 n6,.slice am lm cm,.slice al ll cl,.slice ai li ci] 30)
   have hK4:=hK3.trans k4
   have hsz3:w.heap.size+1<c3.w.heap.size:=by have:=kp3.size;omega
   rcases hcase with⟨rfl,rfl⟩ | ⟨rfl,ds,u,A3,hm,hr3⟩
   ·have hpost := ans_post hI hK4 ByteArray.empty false hans
    clear hx3 hq hn2 hm2 hok2 hps hag hpc htup hans
    go_wp2
    go_ret2
    exact hpost
   ·have hp3:DR c3.I c3.w p (.agg #[v0,v1,v2,v3,v4,v5,v6,v7,v8,.slice ad n cap]):=by
     cases hd with
     | cons h _=>exact h.mono (fun b hb=>i1 b hb) (fun b hb=>hK3.block b (hI b hb))
    have hds:=mapD_ok (fun x X r u=>deep_ok rel3 (Agr.refl c3) 8 x X r u) (VRs.cons hq (.cons (.d hp3) .nil)) hm
    have hI3:∀ b,IU c3 u b->b<c3.w.heap.size:=by
     rintro b (h | ⟨i,_,hp,rfl,cs,v,ro,hA⟩)
     ·exact rel3.lt b h
     ·exact rel3.lt_of hp hA
    have hgl3:Gl (IU c3 u) c3.w:=hgl.mono (fun b hb=>.inl (i1 b hb)) (fun b hb=>hK3.block b (hI b hb))
    have hsm:Calls Tryz.prog 67 #[.agg #[.int .i64 n0,.int .i64 n1,.int .i64 n2',.int .i64 n3,.int .i64 n4,.int .i64 n5,.int .i64 n6,.slice am lm cm,.slice al ll cl,.slice ai li ci],.agg #[v0,v1,v2,v3,v4,v5,v6,v7,v8,.slice ad n cap]] (c3.w.alloc (.cells #[.int .i64 n0,.int .i64 n1,.int .i64 n2',.int .i64 n3,.int .i64 n4,.int .i64 n5,.int .i64 n6,.slice am lm cm,.slice al ll cl,.slice ai li ci] 30)) (RawPost (IU c3 u) (c3.w.alloc (.cells #[.int .i64 n0,.int .i64 n1,.int .i64 n2',.int .i64 n3,.int .i64 n4,.int .i64 n5,.int .i64 n6,.slice am lm cm,.slice al ll cl,.slice ai li ci] 30)) (.d (.v (.bool b))) A3):=
     hraw 67 _ _ _ hr3 _ _ _ (fun b hb=>Nat.lt_of_lt_of_le (hI3 b hb) k4.size) (hgl3.mono (fun _ h=>h) fun b hb=>k4.block b (hI3 b hb)) (hds.mono (fun _ h=>h) fun b hb=>k4.block b (hI3 b hb))
    have hbx4:=(k4.block w.heap.size (by omega)).trans hbx3
    have r0:(c3.w.alloc (.cells #[.int .i64 n0,.int .i64 n1,.int .i64 n2',.int .i64 n3,.int .i64 n4,.int .i64 n5,.int .i64 n6,.slice am lm cm,.slice al ll cl,.slice ai li ci] 30)).cell? ⟨w.heap.size,0,none⟩=some v0:=by simp only[World.cell?,hbx4];rfl
    have r1:(c3.w.alloc (.cells #[.int .i64 n0,.int .i64 n1,.int .i64 n2',.int .i64 n3,.int .i64 n4,.int .i64 n5,.int .i64 n6,.slice am lm cm,.slice al ll cl,.slice ai li ci] 30)).cell? ⟨w.heap.size,1,none⟩=some v1:=by simp only[World.cell?,hbx4];rfl
    have r2:(c3.w.alloc (.cells #[.int .i64 n0,.int .i64 n1,.int .i64 n2',.int .i64 n3,.int .i64 n4,.int .i64 n5,.int .i64 n6,.slice am lm cm,.slice al ll cl,.slice ai li ci] 30)).cell? ⟨w.heap.size,2,none⟩=some v2:=by simp only[World.cell?,hbx4];rfl
    have r3:(c3.w.alloc (.cells #[.int .i64 n0,.int .i64 n1,.int .i64 n2',.int .i64 n3,.int .i64 n4,.int .i64 n5,.int .i64 n6,.slice am lm cm,.slice al ll cl,.slice ai li ci] 30)).cell? ⟨w.heap.size,3,none⟩=some v3:=by simp only[World.cell?,hbx4];rfl
    have r4:(c3.w.alloc (.cells #[.int .i64 n0,.int .i64 n1,.int .i64 n2',.int .i64 n3,.int .i64 n4,.int .i64 n5,.int .i64 n6,.slice am lm cm,.slice al ll cl,.slice ai li ci] 30)).cell? ⟨w.heap.size,4,none⟩=some v4:=by simp only[World.cell?,hbx4];rfl
    have r5:(c3.w.alloc (.cells #[.int .i64 n0,.int .i64 n1,.int .i64 n2',.int .i64 n3,.int .i64 n4,.int .i64 n5,.int .i64 n6,.slice am lm cm,.slice al ll cl,.slice ai li ci] 30)).cell? ⟨w.heap.size,5,none⟩=some v5:=by simp only[World.cell?,hbx4];rfl
    have r6:(c3.w.alloc (.cells #[.int .i64 n0,.int .i64 n1,.int .i64 n2',.int .i64 n3,.int .i64 n4,.int .i64 n5,.int .i64 n6,.slice am lm cm,.slice al ll cl,.slice ai li ci] 30)).cell? ⟨w.heap.size,6,none⟩=some v6:=by simp only[World.cell?,hbx4];rfl
    have r7:(c3.w.alloc (.cells #[.int .i64 n0,.int .i64 n1,.int .i64 n2',.int .i64 n3,.int .i64 n4,.int .i64 n5,.int .i64 n6,.slice am lm cm,.slice al ll cl,.slice ai li ci] 30)).cell? ⟨w.heap.size,7,none⟩=some v7:=by simp only[World.cell?,hbx4];rfl
    have r8:(c3.w.alloc (.cells #[.int .i64 n0,.int .i64 n1,.int .i64 n2',.int .i64 n3,.int .i64 n4,.int .i64 n5,.int .i64 n6,.slice am lm cm,.slice al ll cl,.slice ai li ci] 30)).cell? ⟨w.heap.size,8,none⟩=some v8:=by simp only[World.cell?,hbx4];rfl
    have r9:(c3.w.alloc (.cells #[.int .i64 n0,.int .i64 n1,.int .i64 n2',.int .i64 n3,.int .i64 n4,.int .i64 n5,.int .i64 n6,.slice am lm cm,.slice al ll cl,.slice ai li ci] 30)).cell? ⟨w.heap.size,9,none⟩=some (.slice ad n cap):=by simp only[World.cell?,hbx4];rfl
    have s0:c3.w.cell? ⟨w.heap.size,0,none⟩=some v0:=by simp only[World.cell?,hbx3];rfl
    have s1:c3.w.cell? ⟨w.heap.size,1,none⟩=some v1:=by simp only[World.cell?,hbx3];rfl
    have s2:c3.w.cell? ⟨w.heap.size,2,none⟩=some v2:=by simp only[World.cell?,hbx3];rfl
    have s3:c3.w.cell? ⟨w.heap.size,3,none⟩=some v3:=by simp only[World.cell?,hbx3];rfl
    have s4:c3.w.cell? ⟨w.heap.size,4,none⟩=some v4:=by simp only[World.cell?,hbx3];rfl
    have s5:c3.w.cell? ⟨w.heap.size,5,none⟩=some v5:=by simp only[World.cell?,hbx3];rfl
    have s6:c3.w.cell? ⟨w.heap.size,6,none⟩=some v6:=by simp only[World.cell?,hbx3];rfl
    have s7:c3.w.cell? ⟨w.heap.size,7,none⟩=some v7:=by simp only[World.cell?,hbx3];rfl
    have s8:c3.w.cell? ⟨w.heap.size,8,none⟩=some v8:=by simp only[World.cell?,hbx3];rfl
    have s9:c3.w.cell? ⟨w.heap.size,9,none⟩=some (.slice ad n cap):=by simp only[World.cell?,hbx3];rfl
    have hB4:=bld_kept hB3 k4
    clear hx3 hq hn2 hm2 hok2 hps hag hpc htup hm hds hp3 hr3
    go_wp2_with (go_at_call 67;refine hsm.mono ?_)
    rintro e w5 ⟨X5,c5,rfl,rfl,kp5,_,_,hx5,-,-,-⟩
    obtain rfl:=hx5.bool_inv
    have hK5:=hK4.trans kp5
    have hB5:=bld_kept hB4 kp5
    have hsz5:w.heap.size+1<=c5.w.heap.size:=by have:=kp5.size;have:=k4.size;omega
    generalize c5.w=w5 at *
    clear hx5 kp5 hsm r0 r1 r2 r3 r4 r5 r6 r7 r8 r9 s0 s1 s2 s3 s4 s5 s6 s7 s8 s9
    cases b with
    | false=>
     have hpost:=ans_post hI hK5 ByteArray.empty false hans
     clear hans
     go_wp2
     go_ret2
     exact hpost
    | true=>
     have hst2:Calls Tryz.prog 66 #[.pointer (some ⟨w.heap.size+1,0,none⟩)] w5 fun e w'=>e=.returned (.string ⟨acc.toArray⟩)/\(Lib.IsBuilderF 124 5 (w.heap.size+1) (w.heap.size+1) (Lib.byteCells acc) w'/\Below (w.heap.size+1) w5 w'/\Lib.OthersKept 5 (some (w.heap.size+1)) w5 w'):=
      Any.Builder_String_any_k Tryz.lays169 Tryz.bld_extra (w.heap.size+1) (w.heap.size+1) acc w5 hB5 hsz5
     have Hans:Hid (ansT ⟨acc.toArray⟩ true=some (x,Ac)):=hans
     clear hans
     go_wp2_with (go_at_call 66;refine hst2.mono ?_)
     rintro e w6 ⟨rfl,_,hbel6,-⟩
     have hpost:=ans_post hI (hK5.below (B:=w.heap.size+1) (by omega) hbel6) ⟨acc.toArray⟩ true (show ansT ⟨acc.toArray⟩ true=some (x,Ac) from Hans)
     clear hst2 hbel6
     go_wp2
     go_ret2
     exact hpost
end Go.Proofs.YthnhboimcidhgaaGreatDoor
