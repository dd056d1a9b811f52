import Derived.Test.YtogckbgcldmaeaaMc38
import Derived.Test.YtogckbgcldmaeaaMl5
namespace Go.Aug.Mc
open Go Go.Aug
open Nat renaming reduceLT -> zN0, reduceEqDiff -> zN1, reduceAdd -> zN2, reduceMul -> zN3, reduceLeDiff -> zN4
open Int renaming reduceEq -> zI0, reduceLT -> zI1, reduceLE -> zI2, reduceNeg -> zI3
set_option linter.unusedSimpArgs false
set_option linter.unusedVariables false
set_option maxHeartbeats 40000000
set_option maxRecDepth 200000
theorem fm_len : ∀ l : List Ent, (l.flatMap entI).length <= 8 * l.length
 | [] => Nat.le_refl _
 | e :: l => by
  have := fm_len l
  rw [List.flatMap_cons, List.length_append, List.length_cons]
  have h : (entI e).length = 8 := rfl
  omega
theorem ints9_len (c : Conf) : (ints9 c).length <= c.state.mem.length + c.state.stack.length + 8 * c.buf.length + c.rsb.length + 100 := by
 have := fm_len c.buf
 unfold ints9 ints7
 simp only [List.length_append, List.length_cons, List.length_nil]
 omega
theorem both_do {p : Prog} (hp : Md.Fine p) {c : Conf} (hI : Md.Inv (cellsI p.mems) p c) {k i : Nat} (hki : k < i) (hi : i < c.buf.length) (hci : Md.can (cellsI p.mems) p c (i : Int) = true) (hck : Md.can (cellsI p.mems) p c (k : Int) = true) :
  ∃ pa ba oa pb bb ob, doC (cellsI p.mems) p c (i : Int) = (⟨⟨c.state.regs, c.state.mem, c.state.stack, pa⟩, ba, c.rsb, 0⟩, oa) /\ doC (cellsI p.mems) p c (k : Int) = (⟨⟨c.state.regs, c.state.mem, c.state.stack, pb⟩, bb, c.rsb, 0⟩, ob) /\
   ba.length <= c.buf.length /\ bb.length <= c.buf.length /\ Md.Inv (cellsI p.mems) p ⟨⟨c.state.regs, c.state.mem, c.state.stack, pa⟩, ba, c.rsb, 0⟩ /\ Md.Inv (cellsI p.mems) p ⟨⟨c.state.regs, c.state.mem, c.state.stack, pb⟩, bb, c.rsb, 0⟩ /\
   (i < bb.length -> ∃ px bx ox oy, Md.can (cellsI p.mems) p ⟨⟨c.state.regs, c.state.mem, c.state.stack, pa⟩, ba, c.rsb, 0⟩ (k : Int) = true /\ Md.can (cellsI p.mems) p ⟨⟨c.state.regs, c.state.mem, c.state.stack, pb⟩, bb, c.rsb, 0⟩ (i : Int) = true /\
    doC (cellsI p.mems) p ⟨⟨c.state.regs, c.state.mem, c.state.stack, pa⟩, ba, c.rsb, 0⟩ (k : Int) = (⟨⟨c.state.regs, c.state.mem, c.state.stack, px⟩, bx, c.rsb, 0⟩, ox) /\
    doC (cellsI p.mems) p ⟨⟨c.state.regs, c.state.mem, c.state.stack, pb⟩, bb, c.rsb, 0⟩ (i : Int) = (⟨⟨c.state.regs, c.state.mem, c.state.stack, px⟩, bx, c.rsb, 0⟩, oy) /\ bx.length <= c.buf.length) := by
 obtain ⟨pa, ba, oa, hA, a1, a2, _⟩ := Md.kept_do hi hci
 obtain ⟨pb, bb, ob, hB, b1, b2, _⟩ := Md.kept_do (show k < c.buf.length by omega) hck
 have iA := hI.done hp hci
 have iB := hI.done hp hck
 have ei := fun h => Md.either hki hi hci hck h
 rw [hA] at iA ei
 rw [hB] at iB ei
 refine ⟨pa, ba, oa, pb, bb, ob, by unfold doC; rw [hci]; exact hA, by unfold doC; rw [hck]; exact hB, a2, b2, iA, iB, fun h => ?_⟩
 obtain ⟨e1, e2, e3⟩ := ei h
 simp only at e1 e2 e3
 obtain ⟨px, bx, ox, hX, x1, x2, _⟩ := Md.kept_do (show k < ba.length by omega) e1
 obtain ⟨py, bY, oy, hY, y1, y2, _⟩ := Md.kept_do h e2
 simp only at hX hY x2 y2
 rw [hX, hY] at e3
 simp only [Conf.mk.injEq, State.mk.injEq, true_and, and_true] at e3
 obtain ⟨rfl, rfl⟩ := e3
 exact ⟨px, bx, ox, oy, e1, e2, by unfold doC; rw [e1]; exact hX, by unfold doC; rw [e2]; exact hY, by omega⟩
variable {E : Env} {fn : FuncId -> Option (Env -> CallT -> CallT)}
section
variable (S : Sur E fn)
include S
theorem o6_44 : E.lives 6 1 = none /\ E.lives 6 35 = none := ⟨off S 6 1 (by decide) rfl, off S 6 35 (by decide) rfl⟩
theorem order_in (dp : Nat) (p : Prog) (hp : Md.Fine p) (hml : p.mems.length < 1000) (c : Conf) (hI : Md.Inv (cellsI p.mems) p c) (hN : cellsI p.mems <= 1000) (i : Nat) (hi : i < c.buf.length) (kx : Nat -> K) (D : Option (AV × List Blk))
  (hx : ∀ T, getS .bot T 7 = .ref 0 0 0 -> getS .bot T 10 = .ref 1 0 0 -> getS .bot T 43 = aint c.buf.length -> getS .bot T 44 = aint i -> kx 2 (mk .bot 111 T) [.cells ((progC p).map .d) 0 false, .cells ((confC c).map .d) 0 false] = D) :
  ∀ (m q f : Nat), q + m = i -> m <= f ->
  B18_w15_ExecOrder (inn E 6) (evC E fn (dp + 10)) (loopK 18 B18_w15_ExecOrder (inn E 6) (evC E fn (dp + 10)) kx (kEnd 0 [.tmp 6]) f) kx (kEnd 0 [.tmp 6]) (mk .bot 111 [(7, .ref 0 0 0), (10, .ref 1 0 0), (12, aint i), (13, aint q), (43, aint c.buf.length), (44, aint i)]) [.cells ((progC p).map .d) 0 false, .cells ((confC c).map .d) 0 false] = D := by
 have hm := hI.mem
 have hb := hI.buf
 have hw := hp.win
 obtain ⟨q1, q2, q3, q4, q5, yi, _⟩ := inv_hyps hp hI hN ⟨0, (i : Int)⟩
 have yi' : (getO (Md.real p c.state.stack c.buf (i : Int))).length < 1073741824 := yi
 have g0 : p.mems.length < 1073741824 := by omega
 have g2 : c.buf.length < 1073741824 := by omega
 have g3 : c.state.mem.length < 1073741824 := by omega
 have g4 : c.state.stack.length < 1073741824 := by omega
 have g5 : c.rsb.length < 1073741824 := by omega
 intro m
 induction m with
 | zero =>
  intro q f hq _
  obtain rfl : q = i := by omega
  generalize loopK 18 B18_w15_ExecOrder _ _ kx _ f = KK
  first | (conv => lhs; rw [B18_w15_ExecOrder]) | rw [B18_w15_ExecOrder]
  simp only [eG, go_sem, thq S, nbr S, zN0, zN1, zN2, zN3, zN4, zI0, zI1, zI2, zI3, reduceCtorEq, o6_44 S, Int.cast_ofNat_Int, Int.lt_irrefl]
  exact hx _ rfl rfl rfl rfl
 | succ m ih =>
  intro q f hq hf
  obtain ⟨f, rfl⟩ : ∃ g, f = g + 1 := ⟨f - 1, by omega⟩
  have next := ih (q + 1) f (by omega) (by omega)
  simp only [Int.natCast_add, Int.cast_ofNat_Int] at next
  have hqi : (q : Int) < (i : Int) := by omega
  have wq : IntKind.i64.wrap ((q : Int) + 1) = (q : Int) + 1 := wrap_i64 (by omega) (by omega)
  obtain ⟨_, _, _, _, _, yk, _⟩ := inv_hyps hp hI hN ⟨0, (q : Int)⟩
  have yk' : (getO (Md.real p c.state.stack c.buf (q : Int))).length < 1073741824 := yk
  generalize hK : loopK 18 B18_w15_ExecOrder _ _ kx _ (f + 1) = KK
  first | (conv => lhs; rw [B18_w15_ExecOrder]) | rw [B18_w15_ExecOrder]
  cases hci : Md.can (cellsI p.mems) p c (i : Int) with
  | false =>
   simp only [eG, go_sem, thq S, nbr S, zN0, zN1, zN2, zN3, zN4, zI0, zI1, zI2, zI3, reduceCtorEq, o6_44 S, c_exec_Do S, g0, g2, g3, g4, g5, yi', yk', Int.cast_ofNat_Int, wq, d_endD0, hqi, hci, Bool.not_false]
   rw [<- hK, loop_in (on S _ _ [7, 10, 12, 13, 43, 44] (by decide) rfl) rfl _ _ _ _ _ _ _ _ _ rfl]
   simp only [eG, go_sem, thq S, nbr S, zN0, zN1, zN2, zN3, zN4, zI0, zI1, zI2, zI3, reduceCtorEq, o6_44 S]
   exact next
  | true =>
   cases hck : Md.can (cellsI p.mems) p c (q : Int) with
   | false =>
    simp only [eG, go_sem, thq S, nbr S, zN0, zN1, zN2, zN3, zN4, zI0, zI1, zI2, zI3, reduceCtorEq, o6_44 S, c_exec_Do S, g0, g2, g3, g4, g5, yi', yk', Int.cast_ofNat_Int, wq, d_endD0, hqi, hci, hck, Bool.not_false, Bool.not_true]
    rw [<- hK, loop_in (on S _ _ [7, 10, 12, 13, 43, 44] (by decide) rfl) rfl _ _ _ _ _ _ _ _ _ rfl]
    simp only [eG, go_sem, thq S, nbr S, zN0, zN1, zN2, zN3, zN4, zI0, zI1, zI2, zI3, reduceCtorEq, o6_44 S]
    exact next
   | true =>
    obtain ⟨pa, ba, oa, pb, bb, ob, hA, hB, a2, b2, iA, iB, rest⟩ := both_do hp hI (show q < i by omega) hi hci hck
    by_cases hlen : bb.length <= i
    ·have hle : (bb.length : Int) <= (i : Int) := by omega
     simp only [eG, go_sem, thq S, nbr S, zN0, zN1, zN2, zN3, zN4, zI0, zI1, zI2, zI3, reduceCtorEq, o6_44 S, c_exec_Do S, g0, g2, g3, g4, g5, yi', yk', Int.cast_ofNat_Int, wq, d_endD0, hqi, hci, hck, hA, hB, hle, Bool.not_false, Bool.not_true]
     rw [<- hK, loop_in (on S _ _ [7, 10, 12, 13, 43, 44] (by decide) rfl) rfl _ _ _ _ _ _ _ _ _ rfl]
     simp only [eG, go_sem, thq S, nbr S, zN0, zN1, zN2, zN3, zN4, zI0, zI1, zI2, zI3, reduceCtorEq, o6_44 S]
     exact next
    ·have hle : ¬ (bb.length : Int) <= (i : Int) := by omega
     obtain ⟨px, bx, ox, oy, e1, e2, hX, hY, x2⟩ := rest (by omega)
     obtain ⟨_, _, _, _, _, ya, _⟩ := inv_hyps hp iA hN ⟨0, (q : Int)⟩
     have ya' : (getO (Md.real p c.state.stack ba (q : Int))).length < 1073741824 := ya
     obtain ⟨_, _, _, _, _, yb, _⟩ := inv_hyps hp iB hN ⟨0, (i : Int)⟩
     have yb' : (getO (Md.real p c.state.stack bb (i : Int))).length < 1073741824 := yb
     have ga : ba.length < 1073741824 := by omega
     have gb : bb.length < 1073741824 := by omega
     have gx : bx.length < 1073741824 := by omega
     have h9 : (ints9 ⟨⟨c.state.regs, c.state.mem, c.state.stack, px⟩, bx, c.rsb, 0⟩).length < 1073741824 := by
      have := ints9_len ⟨⟨c.state.regs, c.state.mem, c.state.stack, px⟩, bx, c.rsb, 0⟩
      simp only at this
      omega
     simp only [eG, go_sem, thq S, nbr S, zN0, zN1, zN2, zN3, zN4, zI0, zI1, zI2, zI3, reduceCtorEq, o6_44 S, c_exec_Do S, g0, g2, g3, g4, g5, yi', yk', Int.cast_ofNat_Int, wq, d_endD0, hqi, hci, hck, hA, hB, hle, e1, e2, hX, hY, ya', yb', ga, gb, gx, h9, c_r9_Same S, Bool.not_false, Bool.not_true]
     rw [<- hK, loop_in (on S _ _ [7, 10, 12, 13, 43, 44] (by decide) rfl) rfl _ _ _ _ _ _ _ _ _ rfl]
     simp only [eG, go_sem, thq S, nbr S, zN0, zN1, zN2, zN3, zN4, zI0, zI1, zI2, zI3, reduceCtorEq, o6_44 S]
     exact next
theorem order_out (dp : Nat) (p : Prog) (hp : Md.Fine p) (hml : p.mems.length < 1000) (c : Conf) (hI : Md.Inv (cellsI p.mems) p c) (hN : cellsI p.mems <= 1000) (kx : Nat -> K) (D : Option (AV × List Blk))
  (hx : ∀ T, kx 0 (mk .bot 111 T) [.cells ((progC p).map .d) 0 false, .cells ((confC c).map .d) 0 false] = D) :
  ∀ (m k f : Nat), k + m = c.buf.length -> m <= f ->
  B12_w15_ExecOrder (inn E 6) (evC E fn (dp + 10)) (loopK 12 B12_w15_ExecOrder (inn E 6) (evC E fn (dp + 10)) kx (kEnd 0 [.tmp 6]) f) kx (kEnd 0 [.tmp 6]) (mk .bot 111 [(7, .ref 0 0 0), (10, .ref 1 0 0), (43, aint c.buf.length), (44, aint k)]) [.cells ((progC p).map .d) 0 false, .cells ((confC c).map .d) 0 false] = D := by
 have hb := hI.buf
 have hw := hp.win
 intro m
 induction m with
 | zero =>
  intro k f hk _
  obtain rfl : k = c.buf.length := by omega
  generalize loopK 12 B12_w15_ExecOrder _ _ kx _ f = KK
  first | (conv => lhs; rw [B12_w15_ExecOrder]) | rw [B12_w15_ExecOrder]
  simp only [eG, go_sem, thq S, nbr S, zN0, zN1, zN2, zN3, zN4, zI0, zI1, zI2, zI3, reduceCtorEq, o6_44 S, Int.lt_irrefl]
  exact hx _
 | succ m ih =>
  intro k f hk hf
  obtain ⟨f, rfl⟩ : ∃ g, f = g + 1 := ⟨f - 1, by omega⟩
  have next := ih (k + 1) f (by omega) (by omega)
  have inner := fun (kx' : Nat -> K) hx' => order_in S dp p hp hml c hI hN k (by omega) kx' D hx' k 0 999999999999999999999999999999 (by omega) (by omega)
  simp only [Int.cast_ofNat_Int] at inner
  generalize hK : loopK 12 B12_w15_ExecOrder _ _ kx _ (f + 1) = KK
  first | (conv => lhs; rw [B12_w15_ExecOrder]) | rw [B12_w15_ExecOrder]
  simp only [eG, go_sem, thq S, nbr S, zN0, zN1, zN2, zN3, zN4, zI0, zI1, zI2, zI3, reduceCtorEq, o6_44 S, show (k : Int) < c.buf.length by omega]
  rw [big_eq, loop_in (on S _ _ [7, 10, 12, 13, 43, 44] (by decide) rfl) rfl _ _ _ _ _ _ _ _ _ rfl]
  simp only [eG, go_sem, thq S, nbr S, zN0, zN1, zN2, zN3, zN4, zI0, zI1, zI2, zI3, reduceCtorEq, o6_44 S]
  refine inner _ ?_
  intro T t7 t10 t36 t37
  simp only [eG, go_sem, thq S, nbr S, zN0, zN1, zN2, zN3, zN4, zI0, zI1, zI2, zI3, reduceCtorEq, o6_44 S, t7, t10, t36, t37, wi k (by omega)]
  rw [<- hK, loop_in (on S _ _ [7, 10, 43, 44] (by decide) rfl) rfl _ _ _ _ _ _ _ _ _ rfl]
  simp only [eG, go_sem, thq S, nbr S, zN0, zN1, zN2, zN3, zN4, zI0, zI1, zI2, zI3, reduceCtorEq, o6_44 S, t7, t10, t36, t37]
  exact next
end
variable {E : Env} {fn : FuncId -> Option (Env -> CallT -> CallT)}
section
variable (S : Sur E fn)
include S
theorem o6_45 : E.lives 6 1 = none /\ E.lives 6 35 = none := ⟨off S 6 1 (by decide) rfl, off S 6 35 (by decide) rfl⟩
theorem raw_lawOrder (ha : E.prim 25 = some trueG) (dp : Nat) (m l w : List Int) : evC E fn (dp + 11) 6 [.d (rowD m), .d (rowD l), .d (rowD w)] [] = some (abool true, []) := by
 have hp := mk_fine m
 have hN := mk_cells m
 have hml := mk_ml m
 obtain ⟨s, s', hS, o1, o2⟩ := says_States S (dp + 5) (Md.make m) (mk_ms m) hml l
 obtain ⟨c, o, hW, hI⟩ := says_Walk S (dp + 2) (Md.make m) hp _ hN s (o1.inv hp) w
 have cS := fun (A : List Blk) (nb : Nat) => Says.deep hS (np S 27 (by decide)) A nb
 have cW := fun (A : List Blk) (nb : Nat) => Says.deep hW (np S 28 (by decide)) A nb
 simp only [progD, progC, stateD, stateC, confD, confC] at cS cW
 have hlen : c.buf.length <= 3 := by have := hI.buf; have := hp.win; omega
 have go := fun (kx : Nat -> K) (D : Option (AV × List Blk)) hx => order_out S dp (Md.make m) hp hml c hI hN kx D hx c.buf.length 0 999999999999999999999999999999 (by omega) (by omega)
 simp only [Int.cast_ofNat_Int] at go
 show evC E fn (dp + 10 + 1) 6 [.d (rowD m), .d (rowD l), .d (rowD w)] [] = _
 rw [evC_succ, S.f_w15_ExecOrder, apF_some, F_w15_ExecOrder, mkF_run _ _ _ _ _ _ _ _ rfl]
 simp only [eG, go_sem, thq S, nbr S, Nat.reduceLT, Nat.reduceEqDiff, Nat.reduceAdd, Nat.reduceMul, Nat.reduceLeDiff, Int.reduceEq, Int.reduceLT, Int.reduceLE, Int.reduceNeg, reduceCtorEq, o6_45 S, c_w6_Make S, cS, cW]
 rw [big_eq, loop_in (on S _ _ [7, 10, 43, 44] (by decide) rfl) rfl _ _ _ _ _ _ _ _ _ rfl]
 simp only [eG, go_sem, thq S, nbr S, Nat.reduceLT, Nat.reduceEqDiff, Nat.reduceAdd, Nat.reduceMul, Nat.reduceLeDiff, Int.reduceEq, Int.reduceLT, Int.reduceLE, Int.reduceNeg, reduceCtorEq, o6_45 S]
 refine go _ _ ?_
 intro T
 simp only [eG, go_sem, thq S, nbr S, Nat.reduceLT, Nat.reduceEqDiff, Nat.reduceAdd, Nat.reduceMul, Nat.reduceLeDiff, Int.reduceEq, Int.reduceLT, Int.reduceLE, Int.reduceNeg, reduceCtorEq, o6_45 S, c_told ha]
end
end Go.Aug.Mc
