import Derived.Test.YtogckbgcldmaeaaMc31
import Derived.Test.YtogckbgcldmaeaaMc26
namespace Go.Aug.Mc
open Go Go.Aug
open Nat renaming reduceLT -> zN0, reduceEqDiff -> zN1, reduceAdd -> zN2, reduceMul -> zN3, reduceLeDiff -> zN4
open Int renaming reduceEq -> zI0, reduceLT -> zI1, reduceLE -> zI2, reduceNeg -> zI3
set_option linter.unusedSimpArgs false
set_option linter.unusedVariables false
set_option maxHeartbeats 40000000
set_option maxRecDepth 200000
theorem app_fresh0' (A : List Blk) (s bytes n : Nat) (new : List AV) (h0 : n ≠ 0) (h1 : n * bytes <= limA) (h2 : n <= limA) : evApp A s bytes (.d (.lst [] 0 (some 0))) new n = some (.fresh new n) := by
 obtain ⟨m, rfl⟩ : ∃ m, n = m + 1 := ⟨n - 1, by omega⟩
 rw [app_lst0, Nat.zero_add, if_pos ⟨by omega, by simp, h1, h2⟩]; rfl
theorem wrI {l : List Int} {k : Nat} (h : k < l.length) (i v : Nat) (A : List Blk) (n : Int) : storeAt A i v (k * 1) [.d (vi n)] 1 (some (.cells ((rowC l).map .d) v false)) = some (A.set i (.cells ((rowC (l.set k n)).map .d) v false)) := by
 have he : l[k]? = some l[k] := List.getElem?_eq_getElem h
 exact st_row (o := 0) (e' := n) [vi n] he rfl rfl rfl rfl (by show 0 + 1 <= 1; decide) 1 rfl _ rfl
theorem dpI_len (l : List Int) (n : Nat) (hn : n <= l.length) : n * 1 <= ((rowC l).map AV.d).length := by
 rw [List.length_map, rowC_len]; exact Nat.mul_le_mul_right _ hn
theorem dpI_take (A : List Blk) (m n : Nat) (l : List Int) : mapD (deep A (m + 1)) (((rowC l).map AV.d).take (n * 1)) = some (rowC (l.take n), []) := by
 rw [<- List.map_take, show n * 1 = n * Cl.n Int from rfl, rowC_take, mapD_dd]
theorem nc1 (A : List Blk) (x : DV) (k : Option Nat) : newCells A false 1 (.d (.lst [x] 1 k)) = some ([.d x], 1) := rfl
theorem foldT (l : List Int) (n : Nat) (h : n <= l.length) : DV.lst (rowC (l.take n)) n none = rowD (l.take n) := by
 unfold rowD; rw [List.length_take, Nat.min_eq_left h]
theorem takeS (l : List Int) (k : Nat) (v : Int) : (l.set k v).take l.length = l.set k v := List.take_of_length_le (by rw [List.length_set]; exact Nat.le_refl _)
theorem foldS (l : List Int) (k : Nat) (v : Int) : DV.lst (rowC (l.set k v)) l.length none = rowD (l.set k v) := by
 unfold rowD; rw [List.length_set]
def retC (p : Prog) (c : Conf) : Conf := bif Md.canRetire p c then Md.retire p c else Md.conf0
theorem retire_some {p : Prog} {c : Conf} (h : Md.canRetire p c = true) : ∃ e, c.buf[0]? = some e /\ Md.entAt c.buf 0 = e /\ c.end_ = 0 := by
 simp only [Md.canRetire, Bool.and_eq_true, beq_iff_eq, decide_eq_true_eq] at h
 obtain ⟨e, he⟩ := get_of (show 0 < c.buf.length by omega)
 exact ⟨e, he, by unfold Md.entAt; rw [show (0 : Int).toNat = 0 from rfl, he]; rfl, h.1.1.1⟩
theorem and3 {n : Int} (h : n = 0 ∨ n = 1 ∨ n = 2 ∨ n = 3) : evBin .and (.d (vi n)) (.d (vi 3)) = some (.d (vi n)) := by
 rcases h with rfl | rfl | rfl | rfl <;> rfl
variable {E : Env} {fn : FuncId -> Option (Env -> CallT -> CallT)}
section
variable (S : Sur E fn)
include S
theorem o110_33 : E.lives 110 7 = none /\ E.lives 110 21 = none /\ E.lives 110 25 = none /\ E.lives 110 29 = none /\ E.lives 110 33 = none /\ E.lives 110 37 = none /\ E.lives 110 41 = none /\ E.lives 110 45 = none := ⟨off S 110 7 (by decide) rfl, off S 110 21 (by decide) rfl, off S 110 25 (by decide) rfl, off S 110 29 (by decide) rfl, off S 110 33 (by decide) rfl, off S 110 37 (by decide) rfl, off S 110 41 (by decide) rfl, off S 110 45 (by decide) rfl⟩
theorem raw_r9_Retire (dp : Nat) (p : Prog) (c : Conf) (hl : c.buf.length < 1073741824) (hm : c.state.mem.length < 1073741824) (hs : c.state.stack.length < 1073741823) (hd : 0 <= (Md.at_ p (Md.entAt c.buf 0).pc).d /\ (Md.at_ p (Md.entAt c.buf 0).pc).d <= 3) (hx : Md.canRetire p c = true -> (Md.at_ p (Md.entAt c.buf 0).pc).kind = 3 -> (Md.entAt c.buf 0).fault = false -> 0 <= (Md.entAt c.buf 0).addr /\ (Md.entAt c.buf 0).addr < c.state.mem.length) (hy : Md.canRetire p c = true -> (Md.at_ p (Md.entAt c.buf 0).pc).kind = 9 -> (Md.entAt c.buf 0).fault = false -> c.state.stack ≠ []) : Says E fn (dp + 4) 110 [progD p, confD c] (.tup [confD (retC p c), vb (Md.canRetire p c)]) := by
 unfold Says
 show ansOf (evC E fn (dp + 3 + 1) 110 [.d (progD p), .d (confD c)] []) = _
 rw [evC_succ, S.f_r9_Retire, apF_some, F_r9_Retire, mkF_run _ _ _ _ _ _ _ _ rfl]
 cases hcan : Md.canRetire p c with
 | false => simp only [eG, go_sem, thq S, nbr S, zN0, zN1, zN2, zN3, zN4, zI0, zI1, zI2, zI3, reduceCtorEq, o110_33 S, c_r9_CanRetire S, hcan, Bool.not_false, retC, Md.conf0]
 | true =>
  replace hx := hx hcan
  replace hy := hy hcan
  obtain ⟨e, he, he0, hend⟩ := retire_some hcan
  rw [he0] at hx hy hd
  have hgo := he0
  generalize hxx : Md.at_ p e.pc = x at *
  have w0 := w_ixI (l := c.buf) (i := 0) (by decide) he .i64 8 rfl
  have n1 : c.state.mem.length * 8 <= limA := by unfold limA; omega
  have n2 : c.state.mem.length <= limA := by unfold limA; omega
  have n3 : c.state.stack.length * 8 <= limA := by unfold limA; omega
  have n4 : c.state.stack.length <= limA := by unfold limA; omega
  have n5 : (c.state.stack.length + 1) * 8 <= limA := by unfold limA; omega
  have n6 : c.state.stack.length + 1 <= limA := by unfold limA; omega
  have e1 : c.state.mem.length = 0 -> c.state.mem = [] := List.length_eq_zero_iff.1
  have e2 : c.state.stack.length = 0 -> c.state.stack = [] := List.length_eq_zero_iff.1
  have hdl : deep [.cells ((rowC (c.state.stack ++ [IntKind.i64.wrap (e.pc + 1)])).map .d) 0 false] 6 (.sref 0 0 0 (c.state.stack.length + 1) 1 none) = some (.lst (rowC (c.state.stack ++ [IntKind.i64.wrap (e.pc + 1)])) (c.state.stack ++ [IntKind.i64.wrap (e.pc + 1)]).length none, [0]) := deep_alone _ (by simp) _ (by simp) 4 1 none rfl
  have d4 : x.d = 0 ∨ x.d = 1 ∨ x.d = 2 ∨ x.d = 3 := by omega
  have hdl2 : deep [.cells ((rowC c.state.mem).map .d) 0 false, .cells ((rowC (c.state.stack ++ [IntKind.i64.wrap (e.pc + 1)])).map .d) 0 false] 6 (.sref 1 0 0 (c.state.stack.length + 1) 1 none) = some (.lst (rowC (c.state.stack ++ [IntKind.i64.wrap (e.pc + 1)])) (c.state.stack ++ [IntKind.i64.wrap (e.pc + 1)]).length none, [1]) := by
   rw [show c.state.stack.length + 1 = (c.state.stack ++ [IntKind.i64.wrap (e.pc + 1)]).length by simp]
   exact deep_all rfl (by simp) 4 _ 1 none rfl rfl
  have hand := and3 d4
  have d0 := hd.1
  have d1 : x.d < 4 := by omega
  have hst : ∀ (A : List Blk) (m s q : AV), storeAt A 5 0 (x.d.toNat * 1) [.d (vi e.val)] 1 (some (.cells [.d (vi c.state.regs.r0), .d (vi c.state.regs.r1), .d (vi c.state.regs.r2), .d (vi c.state.regs.r3), m, s, q] 0 false)) = some (A.set 5 (.cells [.d (vi (Md.setR c.state.regs x.d e.val).r0), .d (vi (Md.setR c.state.regs x.d e.val).r1), .d (vi (Md.setR c.state.regs x.d e.val).r2), .d (vi (Md.setR c.state.regs x.d e.val).r3), m, s, q] 0 false)) := fun A m s q => by
   rcases d4 with d | d | d | d <;> rw [d] <;> rfl
  by_cases m0 : c.state.mem.length = 0 <;> by_cases s0 : c.state.stack.length = 0
  all_goals
   generalize hB : (cBlock 0 _ : CT) = BB
   simp only [eG, go_sem, thq S, nbr S, zN0, zN1, zN2, zN3, zN4, zI0, zI1, zI2, zI3, reduceCtorEq, o110_33 S, c_r9_CanRetire S, hcan, Bool.not_true, Bool.not_false, w0, cA7 S, hxx, c_r9_Pop S, hl, sw_t, sw_s, dl_nil, dl_cons, rep0', rep1', app_fresh0', n1, n2, n3, n4, n5, n6, ne_eq, not_false_eq_true, not_true_eq_false, Nat.zero_add, Nat.add_zero, Nat.zero_mul, deep_sr, dpI_len, dpI_take, Nat.le_refl, Option.bind_some, Option.map_some, Option.map_none, foldT, takeS, foldS, List.take_length, w_fold, List.length_set, retC, Md.retire, he0, Md.endedM, Md.commitM, eq_true hend, Md.w64, m0, s0]
   rw [<- hB]
   clear hB BB
   cases hf : e.fault with
   | true => simp only [eG, go_sem, thq S, nbr S, zN0, zN1, zN2, zN3, zN4, zI0, zI1, zI2, zI3, reduceCtorEq, o110_33 S, c_r9_CanRetire S, hcan, Bool.not_true, Bool.not_false, w0, cA7 S, hxx, c_r9_Pop S, hl, sw_t, sw_s, dl_nil, dl_cons, rep0', rep1', app_fresh0', n1, n2, n3, n4, n5, n6, ne_eq, not_false_eq_true, not_true_eq_false, Nat.zero_add, Nat.add_zero, Nat.zero_mul, deep_sr, dpI_len, dpI_take, Nat.le_refl, Option.bind_some, Option.map_some, Option.map_none, foldT, takeS, foldS, List.take_length, w_fold, List.length_set, retC, Md.retire, he0, Md.endedM, Md.commitM, eq_true hend, Md.w64, m0, s0, hf]; (first | done | rfl | (rw [e1 m0]; rfl) | (rw [e2 s0]; rfl) | (rw [e1 m0, e2 s0]; rfl))
   | false =>
    by_cases k12 : x.kind = 12
    ·simp only [eG, go_sem, thq S, nbr S, zN0, zN1, zN2, zN3, zN4, zI0, zI1, zI2, zI3, reduceCtorEq, o110_33 S, c_r9_CanRetire S, hcan, Bool.not_true, Bool.not_false, w0, cA7 S, hxx, c_r9_Pop S, hl, sw_t, sw_s, dl_nil, dl_cons, rep0', rep1', app_fresh0', n1, n2, n3, n4, n5, n6, ne_eq, not_false_eq_true, not_true_eq_false, Nat.zero_add, Nat.add_zero, Nat.zero_mul, deep_sr, dpI_len, dpI_take, Nat.le_refl, Option.bind_some, Option.map_some, Option.map_none, foldT, takeS, foldS, List.take_length, w_fold, List.length_set, retC, Md.retire, he0, Md.endedM, Md.commitM, eq_true hend, Md.w64, m0, s0, hf, k12]; (first | done | rfl | (rw [e1 m0]; rfl) | (rw [e2 s0]; rfl) | (rw [e1 m0, e2 s0]; rfl))
    by_cases k11 : x.kind = 11
    ·simp only [eG, go_sem, thq S, nbr S, zN0, zN1, zN2, zN3, zN4, zI0, zI1, zI2, zI3, reduceCtorEq, o110_33 S, c_r9_CanRetire S, hcan, Bool.not_true, Bool.not_false, w0, cA7 S, hxx, c_r9_Pop S, hl, sw_t, sw_s, dl_nil, dl_cons, rep0', rep1', app_fresh0', n1, n2, n3, n4, n5, n6, ne_eq, not_false_eq_true, not_true_eq_false, Nat.zero_add, Nat.add_zero, Nat.zero_mul, deep_sr, dpI_len, dpI_take, Nat.le_refl, Option.bind_some, Option.map_some, Option.map_none, foldT, takeS, foldS, List.take_length, w_fold, List.length_set, retC, Md.retire, he0, Md.endedM, Md.commitM, eq_true hend, Md.w64, m0, s0, hf, k11]; (first | done | rfl | (rw [e1 m0]; rfl) | (rw [e2 s0]; rfl) | (rw [e1 m0, e2 s0]; rfl))
    by_cases k1 : x.kind = 1
    ·simp only [eG, go_sem, thq S, nbr S, zN0, zN1, zN2, zN3, zN4, zI0, zI1, zI2, zI3, reduceCtorEq, o110_33 S, c_r9_CanRetire S, hcan, Bool.not_true, Bool.not_false, w0, cA7 S, hxx, c_r9_Pop S, hl, sw_t, sw_s, dl_nil, dl_cons, rep0', rep1', app_fresh0', n1, n2, n3, n4, n5, n6, ne_eq, not_false_eq_true, not_true_eq_false, Nat.zero_add, Nat.add_zero, Nat.zero_mul, deep_sr, dpI_len, dpI_take, Nat.le_refl, Option.bind_some, Option.map_some, Option.map_none, foldT, takeS, foldS, List.take_length, w_fold, List.length_set, retC, Md.retire, he0, Md.endedM, Md.commitM, eq_true hend, Md.w64, Int.cast_ofNat_Int, true_and, if_true, hand, d0, d1, hst, m0, s0, hf, k1]; (first | done | rfl | (rw [e1 m0]; rfl) | (rw [e2 s0]; rfl) | (rw [e1 m0, e2 s0]; rfl))
    by_cases k2 : x.kind = 2
    ·simp only [eG, go_sem, thq S, nbr S, zN0, zN1, zN2, zN3, zN4, zI0, zI1, zI2, zI3, reduceCtorEq, o110_33 S, c_r9_CanRetire S, hcan, Bool.not_true, Bool.not_false, w0, cA7 S, hxx, c_r9_Pop S, hl, sw_t, sw_s, dl_nil, dl_cons, rep0', rep1', app_fresh0', n1, n2, n3, n4, n5, n6, ne_eq, not_false_eq_true, not_true_eq_false, Nat.zero_add, Nat.add_zero, Nat.zero_mul, deep_sr, dpI_len, dpI_take, Nat.le_refl, Option.bind_some, Option.map_some, Option.map_none, foldT, takeS, foldS, List.take_length, w_fold, List.length_set, retC, Md.retire, he0, Md.endedM, Md.commitM, eq_true hend, Md.w64, Int.cast_ofNat_Int, true_and, if_true, hand, d0, d1, hst, m0, s0, hf, k2]; (first | done | rfl | (rw [e1 m0]; rfl) | (rw [e2 s0]; rfl) | (rw [e1 m0, e2 s0]; rfl))
    by_cases k4 : x.kind = 4
    ·simp only [eG, go_sem, thq S, nbr S, zN0, zN1, zN2, zN3, zN4, zI0, zI1, zI2, zI3, reduceCtorEq, o110_33 S, c_r9_CanRetire S, hcan, Bool.not_true, Bool.not_false, w0, cA7 S, hxx, c_r9_Pop S, hl, sw_t, sw_s, dl_nil, dl_cons, rep0', rep1', app_fresh0', n1, n2, n3, n4, n5, n6, ne_eq, not_false_eq_true, not_true_eq_false, Nat.zero_add, Nat.add_zero, Nat.zero_mul, deep_sr, dpI_len, dpI_take, Nat.le_refl, Option.bind_some, Option.map_some, Option.map_none, foldT, takeS, foldS, List.take_length, w_fold, List.length_set, retC, Md.retire, he0, Md.endedM, Md.commitM, eq_true hend, Md.w64, Int.cast_ofNat_Int, true_and, if_true, hand, d0, d1, hst, m0, s0, hf, k4]; (first | done | rfl | (rw [e1 m0]; rfl) | (rw [e2 s0]; rfl) | (rw [e1 m0, e2 s0]; rfl))
    by_cases k3 : x.kind = 3
    ·obtain ⟨a0, a1⟩ := hx k3 hf
     have a2 : e.addr.toNat < c.state.mem.length := by omega
     first
      | (exfalso; omega)
      | (simp only [eG, go_sem, thq S, nbr S, zN0, zN1, zN2, zN3, zN4, zI0, zI1, zI2, zI3, reduceCtorEq, o110_33 S, c_r9_CanRetire S, hcan, Bool.not_true, Bool.not_false, w0, cA7 S, hxx, c_r9_Pop S, hl, sw_t, sw_s, dl_nil, dl_cons, rep0', rep1', app_fresh0', n1, n2, n3, n4, n5, n6, ne_eq, not_false_eq_true, not_true_eq_false, Nat.zero_add, Nat.add_zero, Nat.zero_mul, deep_sr, dpI_len, dpI_take, Nat.le_refl, Option.bind_some, Option.map_some, Option.map_none, foldT, takeS, foldS, List.take_length, w_fold, List.length_set, retC, Md.retire, he0, Md.endedM, Md.commitM, eq_true hend, Md.w64, m0, s0, hf, k3, a0, a1, wrI a2, and_self]; (first | done | rfl | (rw [e1 m0]; rfl) | (rw [e2 s0]; rfl) | (rw [e1 m0, e2 s0]; rfl)))
    by_cases k8 : x.kind = 8
    ·simp only [eG, go_sem, thq S, nbr S, zN0, zN1, zN2, zN3, zN4, zI0, zI1, zI2, zI3, reduceCtorEq, o110_33 S, c_r9_CanRetire S, hcan, Bool.not_true, Bool.not_false, w0, cA7 S, hxx, c_r9_Pop S, hl, sw_t, sw_s, dl_nil, dl_cons, rep0', rep1', app_fresh0', n1, n2, n3, n4, n5, n6, ne_eq, not_false_eq_true, not_true_eq_false, Nat.zero_add, Nat.add_zero, Nat.zero_mul, deep_sr, dpI_len, dpI_take, Nat.le_refl, Option.bind_some, Option.map_some, Option.map_none, foldT, takeS, foldS, List.take_length, w_fold, List.length_set, retC, Md.retire, he0, Md.endedM, Md.commitM, eq_true hend, Md.w64, m0, s0, hf, k8, nc1, app_endI, show (1 : Nat) * 8 <= limA by decide, show (8 : Nat) <= limA by decide, show (1 : Nat) <= limA by decide, show (1 : Nat) * 1 <= 1 by decide, Nat.lt_add_one, Nat.one_ne_zero, Nat.one_mul, show (0 : Nat) < 1 by decide, hdl, hdl2]; (first | done | rfl | (rw [e1 m0]; rfl) | (rw [e2 s0]; rfl) | (rw [e1 m0, e2 s0]; rfl))
    by_cases k9 : x.kind = 9
    ·have hne : c.state.stack.length ≠ 0 := fun h => hy k9 hf (List.length_eq_zero_iff.1 h)
     have wl : IntKind.i64.wrap ((c.state.stack.length : Int) - 1) = ((c.state.stack.length - 1 : Nat) : Int) := by rw [wrap_i64 (by omega) (by omega)]; omega
     have bd := bndsV_hi c.state.stack.length .i64 ((c.state.stack.length - 1 : Nat) : Int) (by omega) (by omega)
     have le1 : c.state.stack.length - 1 <= c.state.stack.length := by omega
     by_cases s1 : c.state.stack.length - 1 = 0
     ·have dl : c.state.stack.dropLast = [] := by rw [List.dropLast_eq_take, s1]; rfl
      have bd0 := bd
      rw [s1] at bd0
      first
       | (exfalso; omega)
       | (simp only [eG, go_sem, thq S, nbr S, zN0, zN1, zN2, zN3, zN4, zI0, zI1, zI2, zI3, reduceCtorEq, o110_33 S, c_r9_CanRetire S, hcan, Bool.not_true, Bool.not_false, w0, cA7 S, hxx, c_r9_Pop S, hl, sw_t, sw_s, dl_nil, dl_cons, rep0', rep1', app_fresh0', n1, n2, n3, n4, n5, n6, ne_eq, not_false_eq_true, not_true_eq_false, Nat.zero_add, Nat.add_zero, Nat.zero_mul, deep_sr, dpI_len, dpI_take, Nat.le_refl, Option.bind_some, Option.map_some, Option.map_none, foldT, takeS, foldS, List.take_length, w_fold, List.length_set, retC, Md.retire, he0, Md.endedM, Md.commitM, eq_true hend, Md.w64, m0, s0, hf, k9, wl, bd0, Int.toNat_natCast, s1, dl, Nat.sub_zero, and_false]; (first | done | rfl | (rw [e1 m0]; rfl) | (rw [e2 s0]; rfl) | (rw [e1 m0, e2 s0]; rfl)))
     ·first
       | (exfalso; omega)
       | (simp only [eG, go_sem, thq S, nbr S, zN0, zN1, zN2, zN3, zN4, zI0, zI1, zI2, zI3, reduceCtorEq, o110_33 S, c_r9_CanRetire S, hcan, Bool.not_true, Bool.not_false, w0, cA7 S, hxx, c_r9_Pop S, hl, sw_t, sw_s, dl_nil, dl_cons, rep0', rep1', app_fresh0', n1, n2, n3, n4, n5, n6, ne_eq, not_false_eq_true, not_true_eq_false, Nat.zero_add, Nat.add_zero, Nat.zero_mul, deep_sr, dpI_len, dpI_take, Nat.le_refl, Option.bind_some, Option.map_some, Option.map_none, foldT, takeS, foldS, List.take_length, w_fold, List.length_set, retC, Md.retire, he0, Md.endedM, Md.commitM, eq_true hend, Md.w64, m0, s0, hf, k9, wl, bd, Int.toNat_natCast, s1, le1, List.dropLast_eq_take, Nat.sub_zero, and_false]; (first | done | rfl | (rw [e1 m0]; rfl) | (rw [e2 s0]; rfl) | (rw [e1 m0, e2 s0]; rfl)))
    simp only [eG, go_sem, thq S, nbr S, zN0, zN1, zN2, zN3, zN4, zI0, zI1, zI2, zI3, reduceCtorEq, o110_33 S, c_r9_CanRetire S, hcan, Bool.not_true, Bool.not_false, w0, cA7 S, hxx, c_r9_Pop S, hl, sw_t, sw_s, dl_nil, dl_cons, rep0', rep1', app_fresh0', n1, n2, n3, n4, n5, n6, ne_eq, not_false_eq_true, not_true_eq_false, Nat.zero_add, Nat.add_zero, Nat.zero_mul, deep_sr, dpI_len, dpI_take, Nat.le_refl, Option.bind_some, Option.map_some, Option.map_none, foldT, takeS, foldS, List.take_length, w_fold, List.length_set, retC, Md.retire, he0, Md.endedM, Md.commitM, eq_true hend, Md.w64, m0, s0, hf, k1, k2, k3, k4, k8, k9, k11, k12]; (first | done | rfl | (rw [e1 m0]; rfl) | (rw [e2 s0]; rfl) | (rw [e1 m0, e2 s0]; rfl))
end
end Go.Aug.Mc
