import Derived.Test.YtogckbgcldmaeaaMc38
import Derived.Test.YtogckbgcldmaeaaMl4
namespace Go.Aug.Mc
open Go Go.Aug
open Nat renaming reduceLT -> zN0, reduceEqDiff -> zN1, reduceAdd -> zN2, reduceMul -> zN3, reduceLeDiff -> zN4
open Int renaming reduceEq -> zI0, reduceLT -> zI1, reduceLE -> zI2, reduceNeg -> zI3
set_option linter.unusedSimpArgs false
set_option linter.unusedVariables false
set_option maxHeartbeats 40000000
set_option maxRecDepth 200000
variable {E : Env} {fn : FuncId -> Option (Env -> CallT -> CallT)}
section
variable (S : Sur E fn)
include S
theorem o10_42 : E.lives 10 1 = none /\ E.lives 10 27 = none /\ E.lives 10 37 = none /\ E.lives 10 41 = none /\ E.lives 10 47 = none := ⟨off S 10 1 (by decide) rfl, off S 10 27 (by decide) rfl, off S 10 37 (by decide) rfl, off S 10 41 (by decide) rfl, off S 10 47 (by decide) rfl⟩
theorem keeps_in (dp : Nat) (p : Prog) (hp : Md.Fine p) (hml : p.mems.length < 1000) (c : Conf) (hI : Md.Inv (cellsI p.mems) p c) (hN : cellsI p.mems <= 1000) (k : Nat) (hk : k < c.buf.length) (kx : Nat -> K) (D : Option (AV × List Blk))
  (hx : ∀ T, getS .bot T 7 = .ref 0 0 0 -> getS .bot T 10 = .ref 1 0 0 -> getS .bot T 36 = aint c.buf.length -> getS .bot T 37 = aint k -> kx 2 (mk .bot 164 T) [.cells ((progC p).map .d) 0 false, .cells ((confC c).map .d) 0 false] = D) :
  ∀ (m q f : Nat), q + m = 2 -> m <= f ->
  B18_augurylaw15_ExecKeeps (inn E 10) (evC E fn (dp + 10)) (loopK 18 B18_augurylaw15_ExecKeeps (inn E 10) (evC E fn (dp + 10)) kx (kEnd 0 [.tmp 6]) f) kx (kEnd 0 [.tmp 6]) (mk .bot 164 [(7, .ref 0 0 0), (10, .ref 1 0 0), (12, aint k), (13, aint q), (36, aint c.buf.length), (37, aint k)]) [.cells ((progC p).map .d) 0 false, .cells ((confC c).map .d) 0 false] = D := by
 have hm := hI.mem
 have hb := hI.buf
 have hw := hp.win
 obtain ⟨q1, q2, q3, q4, q5, y1, _⟩ := inv_hyps hp hI hN ⟨0, (k : Int)⟩
 have y1' : (getO (Md.real p c.state.stack c.buf (k : Int))).length < 1073741824 := y1
 have g0 : p.mems.length < 1073741824 := by omega
 have g2 : c.buf.length < 1073741824 := by omega
 have g3 : c.state.mem.length < 1073741824 := by omega
 have g4 : c.state.stack.length < 1073741824 := by omega
 have g5 : c.rsb.length < 1073741824 := by omega
 have h5 : (ints7 c.state).length < 1073741824 := by unfold ints7; simp; omega
 have hlt : (c.buf.take k).length < 1073741824 := by rw [List.length_take]; omega
 have wk : IntKind.i64.wrap ((k : Int) + 1) = (k : Int) + 1 := wrap_i64 (by omega) (by omega)
 intro m
 induction m with
 | zero =>
  intro q f hq _
  obtain rfl : q = 2 := by omega
  generalize loopK 18 B18_augurylaw15_ExecKeeps _ _ kx _ f = KK
  first | (conv => lhs; rw [B18_augurylaw15_ExecKeeps]) | rw [B18_augurylaw15_ExecKeeps]
  simp only [eG, go_sem, thq S, nbr S, zN0, zN1, zN2, zN3, zN4, zI0, zI1, zI2, zI3, reduceCtorEq, o10_42 S, Int.cast_ofNat_Int]
  exact hx _ rfl rfl rfl rfl
 | succ m ih =>
  intro q f hq hf
  obtain ⟨f, rfl⟩ : ∃ g, f = g + 1 := ⟨f - 1, by omega⟩
  have next := ih (q + 1) f (by omega) (by omega)
  generalize hK : loopK 18 B18_augurylaw15_ExecKeeps _ _ kx _ (f + 1) = KK
  first | (conv => lhs; rw [B18_augurylaw15_ExecKeeps]) | rw [B18_augurylaw15_ExecKeeps]
  have hq2 : q = 0 ∨ q = 1 := by omega
  rcases hq2 with rfl | rfl
  ·cases hcan : Md.can (cellsI p.mems) p c (k : Int) with
   | false =>
    simp only [eG, go_sem, thq S, nbr S, zN0, zN1, zN2, zN3, zN4, zI0, zI1, zI2, zI3, reduceCtorEq, o10_42 S, c_exec_Do S, c_exec_Addr S, g0, g2, g3, g4, g5, y1', Int.cast_ofNat_Int, wk, d_endD0, hcan, Bool.not_false]
    rw [<- hK, loop_in (on S _ _ [7, 10, 12, 13, 36, 37] (by decide) rfl) rfl _ _ _ _ _ _ _ _ _ rfl]
    simp only [eG, go_sem, thq S, nbr S, zN0, zN1, zN2, zN3, zN4, zI0, zI1, zI2, zI3, reduceCtorEq, o10_42 S]
    exact next
   | true =>
    obtain ⟨px, bx, ob, hR0, f1, f2, f3, f5, f6, f7⟩ := Md.kept_do hk hcan
    have hR : doC (cellsI p.mems) p c (k : Int) = (⟨⟨c.state.regs, c.state.mem, c.state.stack, px⟩, bx, c.rsb, 0⟩, ob) := by unfold doC; rw [hcan, cond_true]; exact hR0
    have f2' : ¬ (bx.length : Int) <= (k : Int) := by omega
    have f3' : ¬ (c.buf.length : Int) < (bx.length : Int) := by omega
    have f4' : ¬ (1 : Int) < (ob.length : Int) := by omega
    have bd1 := bndsV_hi bx.length .i64 (k : Int) (by omega) (by omega)
    have bd2 := bndsV_hi c.buf.length .i64 (k : Int) (by omega) (by omega)
    by_cases ha : bx.length = c.buf.length
    ·have ha1 : (bx.length : Int) = (c.buf.length : Int) := by omega
     have ha2 : ¬ (bx.length : Int) < (c.buf.length : Int) := by omega
     by_cases hb1 : (k : Int) + 1 < (c.buf.length : Int)
     ·have hpx := f6 ha (by omega)
      simp only [eG, go_sem, thq S, nbr S, zN0, zN1, zN2, zN3, zN4, zI0, zI1, zI2, zI3, reduceCtorEq, o10_42 S, c_exec_Do S, c_exec_Addr S, g0, g2, g3, g4, g5, y1', Int.cast_ofNat_Int, wk, d_endD0, hR, f2', f3', f4', h5, hlt, f5, c_auguryref7_Same S, c_auguryref9_SameEnts S, bd1, bd2, Int.toNat_natCast, List.drop_zero, Nat.sub_zero, Bool.not_true, Bool.not_false, gt_iff_lt, hcan, eq_true ha1, ha2, hb1, eq_true hpx]
      rw [<- hK, loop_in (on S _ _ [7, 10, 12, 13, 36, 37] (by decide) rfl) rfl _ _ _ _ _ _ _ _ _ rfl]
      simp only [eG, go_sem, thq S, nbr S, zN0, zN1, zN2, zN3, zN4, zI0, zI1, zI2, zI3, reduceCtorEq, o10_42 S]
      exact next
     ·simp only [eG, go_sem, thq S, nbr S, zN0, zN1, zN2, zN3, zN4, zI0, zI1, zI2, zI3, reduceCtorEq, o10_42 S, c_exec_Do S, c_exec_Addr S, g0, g2, g3, g4, g5, y1', Int.cast_ofNat_Int, wk, d_endD0, hR, f2', f3', f4', h5, hlt, f5, c_auguryref7_Same S, c_auguryref9_SameEnts S, bd1, bd2, Int.toNat_natCast, List.drop_zero, Nat.sub_zero, Bool.not_true, Bool.not_false, gt_iff_lt, hcan, eq_true ha1, ha2, hb1]
      rw [<- hK, loop_in (on S _ _ [7, 10, 12, 13, 36, 37] (by decide) rfl) rfl _ _ _ _ _ _ _ _ _ rfl]
      simp only [eG, go_sem, thq S, nbr S, zN0, zN1, zN2, zN3, zN4, zI0, zI1, zI2, zI3, reduceCtorEq, o10_42 S]
      exact next
    ·have ha1 : ¬ (bx.length : Int) = (c.buf.length : Int) := by omega
     have ha2 : (bx.length : Int) < (c.buf.length : Int) := by omega
     by_cases hb1 : (k : Int) + 1 < (bx.length : Int)
     ·obtain ⟨e, he, hpx⟩ := f7 (by omega) (by omega)
      simp only [eG, go_sem, thq S, nbr S, zN0, zN1, zN2, zN3, zN4, zI0, zI1, zI2, zI3, reduceCtorEq, o10_42 S, c_exec_Do S, c_exec_Addr S, g0, g2, g3, g4, g5, y1', Int.cast_ofNat_Int, wk, d_endD0, hR, f2', f3', f4', h5, hlt, f5, c_auguryref7_Same S, c_auguryref9_SameEnts S, bd1, bd2, Int.toNat_natCast, List.drop_zero, Nat.sub_zero, Bool.not_true, Bool.not_false, gt_iff_lt, hcan, ha1, ha2, hb1, w_ix he, eq_true hpx]
      rw [<- hK, loop_in (on S _ _ [7, 10, 12, 13, 36, 37] (by decide) rfl) rfl _ _ _ _ _ _ _ _ _ rfl]
      simp only [eG, go_sem, thq S, nbr S, zN0, zN1, zN2, zN3, zN4, zI0, zI1, zI2, zI3, reduceCtorEq, o10_42 S]
      exact next
     ·simp only [eG, go_sem, thq S, nbr S, zN0, zN1, zN2, zN3, zN4, zI0, zI1, zI2, zI3, reduceCtorEq, o10_42 S, c_exec_Do S, c_exec_Addr S, g0, g2, g3, g4, g5, y1', Int.cast_ofNat_Int, wk, d_endD0, hR, f2', f3', f4', h5, hlt, f5, c_auguryref7_Same S, c_auguryref9_SameEnts S, bd1, bd2, Int.toNat_natCast, List.drop_zero, Nat.sub_zero, Bool.not_true, Bool.not_false, gt_iff_lt, hcan, ha1, ha2, hb1]
      rw [<- hK, loop_in (on S _ _ [7, 10, 12, 13, 36, 37] (by decide) rfl) rfl _ _ _ _ _ _ _ _ _ rfl]
      simp only [eG, go_sem, thq S, nbr S, zN0, zN1, zN2, zN3, zN4, zI0, zI1, zI2, zI3, reduceCtorEq, o10_42 S]
      exact next
  ·cases hcan : Md.canAddr p c (k : Int) with
   | false =>
    simp only [eG, go_sem, thq S, nbr S, zN0, zN1, zN2, zN3, zN4, zI0, zI1, zI2, zI3, reduceCtorEq, o10_42 S, c_exec_Do S, c_exec_Addr S, g0, g2, g3, g4, g5, y1', Int.cast_ofNat_Int, wk, d_endD0, hcan, Bool.not_false]
    rw [<- hK, loop_in (on S _ _ [7, 10, 12, 13, 36, 37] (by decide) rfl) rfl _ _ _ _ _ _ _ _ _ rfl]
    simp only [eG, go_sem, thq S, nbr S, zN0, zN1, zN2, zN3, zN4, zI0, zI1, zI2, zI3, reduceCtorEq, o10_42 S]
    exact next
   | true =>
    obtain ⟨px, bx, ob, hR0, f1, f2, f3, f5, f6, f7⟩ := Md.kept_addr (N := cellsI p.mems) hk hcan
    have hR : addrC (cellsI p.mems) p c (k : Int) = (⟨⟨c.state.regs, c.state.mem, c.state.stack, px⟩, bx, c.rsb, 0⟩, ob) := by unfold addrC; rw [hcan, cond_true]; exact hR0
    have f2' : ¬ (bx.length : Int) <= (k : Int) := by omega
    have f3' : ¬ (c.buf.length : Int) < (bx.length : Int) := by omega
    have f4' : ¬ (1 : Int) < (ob.length : Int) := by omega
    have bd1 := bndsV_hi bx.length .i64 (k : Int) (by omega) (by omega)
    have bd2 := bndsV_hi c.buf.length .i64 (k : Int) (by omega) (by omega)
    by_cases ha : bx.length = c.buf.length
    ·have ha1 : (bx.length : Int) = (c.buf.length : Int) := by omega
     have ha2 : ¬ (bx.length : Int) < (c.buf.length : Int) := by omega
     by_cases hb1 : (k : Int) + 1 < (c.buf.length : Int)
     ·have hpx := f6 ha (by omega)
      simp only [eG, go_sem, thq S, nbr S, zN0, zN1, zN2, zN3, zN4, zI0, zI1, zI2, zI3, reduceCtorEq, o10_42 S, c_exec_Do S, c_exec_Addr S, g0, g2, g3, g4, g5, y1', Int.cast_ofNat_Int, wk, d_endD0, hR, f2', f3', f4', h5, hlt, f5, c_auguryref7_Same S, c_auguryref9_SameEnts S, bd1, bd2, Int.toNat_natCast, List.drop_zero, Nat.sub_zero, Bool.not_true, Bool.not_false, gt_iff_lt, hcan, eq_true ha1, ha2, hb1, eq_true hpx]
      rw [<- hK, loop_in (on S _ _ [7, 10, 12, 13, 36, 37] (by decide) rfl) rfl _ _ _ _ _ _ _ _ _ rfl]
      simp only [eG, go_sem, thq S, nbr S, zN0, zN1, zN2, zN3, zN4, zI0, zI1, zI2, zI3, reduceCtorEq, o10_42 S]
      exact next
     ·simp only [eG, go_sem, thq S, nbr S, zN0, zN1, zN2, zN3, zN4, zI0, zI1, zI2, zI3, reduceCtorEq, o10_42 S, c_exec_Do S, c_exec_Addr S, g0, g2, g3, g4, g5, y1', Int.cast_ofNat_Int, wk, d_endD0, hR, f2', f3', f4', h5, hlt, f5, c_auguryref7_Same S, c_auguryref9_SameEnts S, bd1, bd2, Int.toNat_natCast, List.drop_zero, Nat.sub_zero, Bool.not_true, Bool.not_false, gt_iff_lt, hcan, eq_true ha1, ha2, hb1]
      rw [<- hK, loop_in (on S _ _ [7, 10, 12, 13, 36, 37] (by decide) rfl) rfl _ _ _ _ _ _ _ _ _ rfl]
      simp only [eG, go_sem, thq S, nbr S, zN0, zN1, zN2, zN3, zN4, zI0, zI1, zI2, zI3, reduceCtorEq, o10_42 S]
      exact next
    ·have ha1 : ¬ (bx.length : Int) = (c.buf.length : Int) := by omega
     have ha2 : (bx.length : Int) < (c.buf.length : Int) := by omega
     by_cases hb1 : (k : Int) + 1 < (bx.length : Int)
     ·obtain ⟨e, he, hpx⟩ := f7 (by omega) (by omega)
      simp only [eG, go_sem, thq S, nbr S, zN0, zN1, zN2, zN3, zN4, zI0, zI1, zI2, zI3, reduceCtorEq, o10_42 S, c_exec_Do S, c_exec_Addr S, g0, g2, g3, g4, g5, y1', Int.cast_ofNat_Int, wk, d_endD0, hR, f2', f3', f4', h5, hlt, f5, c_auguryref7_Same S, c_auguryref9_SameEnts S, bd1, bd2, Int.toNat_natCast, List.drop_zero, Nat.sub_zero, Bool.not_true, Bool.not_false, gt_iff_lt, hcan, ha1, ha2, hb1, w_ix he, eq_true hpx]
      rw [<- hK, loop_in (on S _ _ [7, 10, 12, 13, 36, 37] (by decide) rfl) rfl _ _ _ _ _ _ _ _ _ rfl]
      simp only [eG, go_sem, thq S, nbr S, zN0, zN1, zN2, zN3, zN4, zI0, zI1, zI2, zI3, reduceCtorEq, o10_42 S]
      exact next
     ·simp only [eG, go_sem, thq S, nbr S, zN0, zN1, zN2, zN3, zN4, zI0, zI1, zI2, zI3, reduceCtorEq, o10_42 S, c_exec_Do S, c_exec_Addr S, g0, g2, g3, g4, g5, y1', Int.cast_ofNat_Int, wk, d_endD0, hR, f2', f3', f4', h5, hlt, f5, c_auguryref7_Same S, c_auguryref9_SameEnts S, bd1, bd2, Int.toNat_natCast, List.drop_zero, Nat.sub_zero, Bool.not_true, Bool.not_false, gt_iff_lt, hcan, ha1, ha2, hb1]
      rw [<- hK, loop_in (on S _ _ [7, 10, 12, 13, 36, 37] (by decide) rfl) rfl _ _ _ _ _ _ _ _ _ rfl]
      simp only [eG, go_sem, thq S, nbr S, zN0, zN1, zN2, zN3, zN4, zI0, zI1, zI2, zI3, reduceCtorEq, o10_42 S]
      exact next
theorem keeps_out (dp : Nat) (p : Prog) (hp : Md.Fine p) (hml : p.mems.length < 1000) (c : Conf) (hI : Md.Inv (cellsI p.mems) p c) (hN : cellsI p.mems <= 1000) (kx : Nat -> K) (D : Option (AV × List Blk))
  (hx : ∀ T, kx 0 (mk .bot 164 T) [.cells ((progC p).map .d) 0 false, .cells ((confC c).map .d) 0 false] = D) :
  ∀ (m k f : Nat), k + m = c.buf.length -> m <= f ->
  B12_augurylaw15_ExecKeeps (inn E 10) (evC E fn (dp + 10)) (loopK 12 B12_augurylaw15_ExecKeeps (inn E 10) (evC E fn (dp + 10)) kx (kEnd 0 [.tmp 6]) f) kx (kEnd 0 [.tmp 6]) (mk .bot 164 [(7, .ref 0 0 0), (10, .ref 1 0 0), (36, aint c.buf.length), (37, aint k)]) [.cells ((progC p).map .d) 0 false, .cells ((confC c).map .d) 0 false] = D := by
 have hb := hI.buf
 have hw := hp.win
 intro m
 induction m with
 | zero =>
  intro k f hk _
  obtain rfl : k = c.buf.length := by omega
  generalize loopK 12 B12_augurylaw15_ExecKeeps _ _ kx _ f = KK
  first | (conv => lhs; rw [B12_augurylaw15_ExecKeeps]) | rw [B12_augurylaw15_ExecKeeps]
  simp only [eG, go_sem, thq S, nbr S, zN0, zN1, zN2, zN3, zN4, zI0, zI1, zI2, zI3, reduceCtorEq, o10_42 S, Int.lt_irrefl]
  exact hx _
 | succ m ih =>
  intro k f hk hf
  obtain ⟨f, rfl⟩ : ∃ g, f = g + 1 := ⟨f - 1, by omega⟩
  have next := ih (k + 1) f (by omega) (by omega)
  have inner := fun (kx' : Nat -> K) hx' => keeps_in S dp p hp hml c hI hN k (by omega) kx' D hx' 2 0 999999999999999999999999999999 (by omega) (by omega)
  simp only [Int.cast_ofNat_Int] at inner
  generalize hK : loopK 12 B12_augurylaw15_ExecKeeps _ _ kx _ (f + 1) = KK
  first | (conv => lhs; rw [B12_augurylaw15_ExecKeeps]) | rw [B12_augurylaw15_ExecKeeps]
  simp only [eG, go_sem, thq S, nbr S, zN0, zN1, zN2, zN3, zN4, zI0, zI1, zI2, zI3, reduceCtorEq, o10_42 S, show (k : Int) < c.buf.length by omega]
  rw [big_eq, loop_in (on S _ _ [7, 10, 12, 13, 36, 37] (by decide) rfl) rfl _ _ _ _ _ _ _ _ _ rfl]
  simp only [eG, go_sem, thq S, nbr S, zN0, zN1, zN2, zN3, zN4, zI0, zI1, zI2, zI3, reduceCtorEq, o10_42 S]
  refine inner _ ?_
  intro T t7 t10 t36 t37
  simp only [eG, go_sem, thq S, nbr S, zN0, zN1, zN2, zN3, zN4, zI0, zI1, zI2, zI3, reduceCtorEq, o10_42 S, t7, t10, t36, t37, wi k (by omega)]
  rw [<- hK, loop_in (on S _ _ [7, 10, 36, 37] (by decide) rfl) rfl _ _ _ _ _ _ _ _ _ rfl]
  simp only [eG, go_sem, thq S, nbr S, zN0, zN1, zN2, zN3, zN4, zI0, zI1, zI2, zI3, reduceCtorEq, o10_42 S, t7, t10, t36, t37]
  exact next
end
section
variable (S : Sur E fn)
include S
theorem o10_43 : E.lives 10 1 = none /\ E.lives 10 27 = none /\ E.lives 10 37 = none /\ E.lives 10 41 = none /\ E.lives 10 47 = none := ⟨off S 10 1 (by decide) rfl, off S 10 27 (by decide) rfl, off S 10 37 (by decide) rfl, off S 10 41 (by decide) rfl, off S 10 47 (by decide) rfl⟩
theorem raw_lawKeeps (ha : E.prim 25 = some trueG) (dp : Nat) (m l w : List Int) : evC E fn (dp + 11) 10 [.d (rowD m), .d (rowD l), .d (rowD w)] [] = some (abool true, []) := by
 have hp := mk_fine m
 have hN := mk_cells m
 have hml := mk_ml m
 obtain ⟨s, s', hS, o1, o2⟩ := says_States S (dp + 5) (Md.make m) (mk_ms m) hml l
 obtain ⟨c, o, hW, hI⟩ := says_Walk S (dp + 2) (Md.make m) hp _ hN s (o1.inv hp) w
 have cS := fun (A : List Blk) (nb : Nat) => Says.deep hS (np S 27 (by decide)) A nb
 have cW := fun (A : List Blk) (nb : Nat) => Says.deep hW (np S 28 (by decide)) A nb
 simp only [progD, progC, stateD, stateC, confD, confC] at cS cW
 have hlen : c.buf.length <= 3 := by have := hI.buf; have := hp.win; omega
 have go := fun (kx : Nat -> K) (D : Option (AV × List Blk)) hx => keeps_out S dp (Md.make m) hp hml c hI hN kx D hx c.buf.length 0 999999999999999999999999999999 (by omega) (by omega)
 simp only [Int.cast_ofNat_Int] at go
 show evC E fn (dp + 10 + 1) 10 [.d (rowD m), .d (rowD l), .d (rowD w)] [] = _
 rw [evC_succ, S.f_augurylaw15_ExecKeeps, apF_some, F_augurylaw15_ExecKeeps, mkF_run _ _ _ _ _ _ _ _ rfl]
 simp only [eG, go_sem, thq S, nbr S, Nat.reduceLT, Nat.reduceEqDiff, Nat.reduceAdd, Nat.reduceMul, Nat.reduceLeDiff, Int.reduceEq, Int.reduceLT, Int.reduceLE, Int.reduceNeg, reduceCtorEq, o10_43 S, c_augurylaw6_Make S, cS, cW]
 rw [big_eq, loop_in (on S _ _ [7, 10, 36, 37] (by decide) rfl) rfl _ _ _ _ _ _ _ _ _ rfl]
 simp only [eG, go_sem, thq S, nbr S, Nat.reduceLT, Nat.reduceEqDiff, Nat.reduceAdd, Nat.reduceMul, Nat.reduceLeDiff, Int.reduceEq, Int.reduceLT, Int.reduceLE, Int.reduceNeg, reduceCtorEq, o10_43 S]
 refine go _ _ ?_
 intro T
 simp only [eG, go_sem, thq S, nbr S, Nat.reduceLT, Nat.reduceEqDiff, Nat.reduceAdd, Nat.reduceMul, Nat.reduceLeDiff, Int.reduceEq, Int.reduceLT, Int.reduceLE, Int.reduceNeg, reduceCtorEq, o10_43 S, c_told ha]
end
end Go.Aug.Mc
