/- Fetching: what the reference answers. -/
import Derived.Test.YtogckbgcldmaeaaMc8
namespace Go.Aug.Mc
open Go Go.Aug
set_option linter.unusedSimpArgs false
set_option linter.unusedVariables false
set_option maxHeartbeats 40000000
theorem last_get {l : List Int} (h : l.length ≠ 0) : l[l.length - 1]? = some (Md.lastI l) := by
  unfold Md.lastI
  rw [List.getLast?_eq_getElem?]
  obtain ⟨e, he⟩ := get_of (show l.length - 1 < l.length by omega)
  rw [he]; rfl
theorem lt_len {A : List Blk} {i : Nat} {b : Blk} (h : A[i]? = some b) : ¬ A.length ≤ i := by
  intro hl
  rw [List.getElem?_eq_none hl] at h
  cases h
/-- A machine whose row of entries is its own. -/
theorem ans_conf {L : List Ent} {A : List Blk} {j v len : Nat} {k : Option Nat} {r0 r1 r2 r3 mm sk pc rb en x : DV}
    (hA : A[j]? = some (.cells ((rowC L).map .d) v false)) (h0 : L ≠ []) (hl : len = L.length) (f0 : [r0, r1, r2, r3, mm, sk, pc, rb, en].map (fk 2) = [r0, r1, r2, r3, mm, sk, pc, rb, en]) (fx : fk 3 x = x) :
    ansOf (endN 0 (some (.tup [.agg [.d r0, .d r1, .d r2, .d r3, .d mm, .d sk, .d pc, .sref j v 0 len 8 k, .d rb, .d en], .d x], A))) = some (.tup [.agg [r0, r1, r2, r3, mm, sk, pc, rowD L, rb, en], x]) := by
  subst hl
  have hi := lt_len hA
  have hd := deep_alone L h0 L.length rfl 4 8 k rfl
  simp only [List.map_cons, List.map_nil, List.cons.injEq, and_true] at f0
  simp only [endN_gen, go_sem, f_reach, hA, hi, List.not_mem_nil, false_or, or_false, Nat.not_lt_zero, if_false, hd, f0, fx]
  rfl
/-- A machine whose two rows are its own. -/
theorem ans_conf2 {L : List Ent} {R : List Int} {A : List Blk} {j v len j2 v2 len2 : Nat} {k k2 : Option Nat} {r0 r1 r2 r3 mm sk pc en x : DV}
    (hA : A[j]? = some (.cells ((rowC L).map .d) v false)) (h0 : L ≠ []) (hl : len = L.length) (hB : A[j2]? = some (.cells ((rowC R).map .d) v2 false)) (h2 : len2 = R.length) (hj : j ≠ j2) (f0 : [r0, r1, r2, r3, mm, sk, pc, en].map (fk 2) = [r0, r1, r2, r3, mm, sk, pc, en]) (fx : fk 3 x = x) :
    ansOf (endN 0 (some (.tup [.agg [.d r0, .d r1, .d r2, .d r3, .d mm, .d sk, .d pc, .sref j v 0 len 8 k, .sref j2 v2 0 len2 1 k2, .d en], .d x], A))) = some (.tup [.agg [r0, r1, r2, r3, mm, sk, pc, rowD L, rowD R, en], x]) := by
  subst hl h2
  have hi := lt_len hA
  have hi2 := lt_len hB
  have hj' : j2 ≠ j := fun e => hj e.symm
  have hd : deep [.cells ((rowC L).map .d) 0 false, .cells ((rowC R).map .d) 0 false] 6 (.sref 0 0 0 L.length 8 k) = some (.lst (rowC L) L.length k, [0]) := deep_all rfl h0 4 _ 8 k rfl rfl
  simp only [List.map_cons, List.map_nil, List.cons.injEq, and_true] at f0
  by_cases hR : R = []
  · subst hR
    simp only [endN_gen, go_sem, f_reach, hA, hB, hi, hi2, hj, hj', List.not_mem_nil, List.mem_cons, false_or, or_false, Nat.not_lt_zero, if_false, f0, fx] at hd ⊢
    simp only [hd, go_sem, f0, fx]
    rfl
  · have hd2 : deep [.cells ((rowC L).map .d) 0 false, .cells ((rowC R).map .d) 0 false] 6 (.sref 1 0 0 R.length 1 k2) = some (.lst (rowC R) R.length k2, [1]) := deep_all rfl hR 4 _ 1 k2 rfl rfl
    simp only [endN_gen, go_sem, f_reach, hA, hB, hi, hi2, hj, hj', List.not_mem_nil, List.mem_cons, false_or, or_false, Nat.not_lt_zero, if_false, hd, hd2, f0, fx]
    rfl
/-- The same, of a row to which an entry was put. -/
theorem ans_conf' {l : List Ent} {e : Ent} {D : DV} {A : List Blk} {j v len : Nat} {k : Option Nat} {r0 r1 r2 r3 mm sk pc rb en x : DV}
    (hA : A[j]? = some (.cells ((rowC (l ++ [e])).map .d) v false)) (hD : D = .tup [.agg [r0, r1, r2, r3, mm, sk, pc, rowD (l ++ [e]), rb, en], x]) (f0 : [r0, r1, r2, r3, mm, sk, pc, rb, en].map (fk 2) = [r0, r1, r2, r3, mm, sk, pc, rb, en]) (hl : len = (l ++ [e]).length) (fx : fk 3 x = x) (_ : 0 = 0) :
    ansOf (endN 0 (some (.tup [.agg [.d r0, .d r1, .d r2, .d r3, .d mm, .d sk, .d pc, .sref j v 0 len 8 k, .d rb, .d en], .d x], A))) = some D := by
  rw [hD]; exact ans_conf hA (by simp) hl f0 fx
theorem ans_conf2' {l : List Ent} {e : Ent} {R : List Int} {D : DV} {A : List Blk} {j v len j2 v2 len2 : Nat} {k k2 : Option Nat} {r0 r1 r2 r3 mm sk pc en x : DV}
    (hA : A[j]? = some (.cells ((rowC (l ++ [e])).map .d) v false)) (hB : A[j2]? = some (.cells ((rowC R).map .d) v2 false)) (hD : D = .tup [.agg [r0, r1, r2, r3, mm, sk, pc, rowD (l ++ [e]), rowD R, en], x]) (hj : j ≠ j2) (hl : len = (l ++ [e]).length) (f0 : [r0, r1, r2, r3, mm, sk, pc, en].map (fk 2) = [r0, r1, r2, r3, mm, sk, pc, en]) (fx : fk 3 x = x) (h2 : len2 = R.length := by first | rfl | simp) :
    ansOf (endN 0 (some (.tup [.agg [.d r0, .d r1, .d r2, .d r3, .d mm, .d sk, .d pc, .sref j v 0 len 8 k, .sref j2 v2 0 len2 1 k2, .d en], .d x], A))) = some D := by
  rw [hD]; exact ans_conf2 hA (by simp) hl hB h2 hj f0 fx
def fetchC (p : Prog) (c : Conf) (g : Int) : Conf := bif Md.canFetch p c g then Md.fetch p c g else Md.conf0
variable {E : Env} {fn : FuncId → Option (Env → CallT → CallT)}
section
variable (S : Sur E fn)
include S
theorem raw_auguryref9_Fetch (dp : Nat) (p : Prog) (c : Conf) (g : Int) (hi : p.ins.length < 1073741824) (hb : c.buf.length < 1073741823) (hs : c.state.stack.length < 1073741824) (hr : c.rsb.length < 1073741823) : Says E fn (dp + 3) 22 [progD p, confD c, vi g] (.tup [confD (fetchC p c g), vb (Md.canFetch p c g)]) := by
  unfold Says
  show ansOf (evC E fn (dp + 2 + 1) 22 [.d (progD p), .d (confD c), .d (vi g)] []) = _
  rw [evC_succ, S.f_auguryref9_Fetch, apF_some, F_auguryref9_Fetch, mkF_run _ _ _ _ _ _ _ _ rfl]
  have hb' : c.buf.length < 1073741824 := by omega
  by_cases g0 : g < 0
  · simp only [endN_gen, go_sem, Nat.reduceLT, Nat.reduceEqDiff, Nat.reduceAdd, Nat.reduceMul, Nat.reduceLeDiff, thq S, nbr S, TH, f_reach, Bool.beq_eq_decide_eq, bne, decide_true, decide_false, Int.reduceEq, Int.reduceLT, Int.reduceLE, Int.reduceNeg, reduceCtorEq, List.mem_cons, List.not_mem_nil, or_false, false_or, or_true, true_or, Nat.not_lt_zero, Bool.true_and, Bool.false_and, Bool.and_true, Bool.and_false, Bool.or_true, Bool.or_false, Bool.true_or, Bool.false_or, off S 22 7 (by decide) rfl, off S 22 19 (by decide) rfl, off S 22 21 (by decide) rfl, off S 22 25 (by decide) rfl, off S 22 29 (by decide) rfl, off S 22 33 (by decide) rfl, off S 22 39 (by decide) rfl, off S 22 45 (by decide) rfl, off S 22 53 (by decide) rfl, off S 22 55 (by decide) rfl, g0, fetchC, Md.canFetch, show ¬ 0 ≤ g by omega, Md.conf0]
  by_cases g1 : g ≥ Md.guesses p c
  · simp only [endN_gen, go_sem, Nat.reduceLT, Nat.reduceEqDiff, Nat.reduceAdd, Nat.reduceMul, Nat.reduceLeDiff, thq S, nbr S, TH, f_reach, Bool.beq_eq_decide_eq, bne, decide_true, decide_false, Int.reduceEq, Int.reduceLT, Int.reduceLE, Int.reduceNeg, reduceCtorEq, List.mem_cons, List.not_mem_nil, or_false, false_or, or_true, true_or, Nat.not_lt_zero, Bool.true_and, Bool.false_and, Bool.and_true, Bool.and_false, Bool.or_true, Bool.or_false, Bool.true_or, Bool.false_or, off S 22 7 (by decide) rfl, off S 22 19 (by decide) rfl, off S 22 21 (by decide) rfl, off S 22 25 (by decide) rfl, off S 22 29 (by decide) rfl, off S 22 33 (by decide) rfl, off S 22 39 (by decide) rfl, off S 22 45 (by decide) rfl, off S 22 53 (by decide) rfl, off S 22 55 (by decide) rfl, g0, g1, fetchC, Md.canFetch, show ¬ g < Md.guesses p c by omega, Md.conf0, c_auguryref9_Guesses S, hi]
  have hc : Md.canFetch p c g = true := by simp [Md.canFetch]; omega
  unfold fetchC
  rw [hc, cond_true]
  by_cases h0 : c.buf.length = 0
  · have hbn : c.buf = [] := List.length_eq_zero_iff.1 h0
    simp only [go_sem, Nat.reduceLT, Nat.reduceEqDiff, Nat.reduceAdd, Nat.reduceMul, Nat.reduceLeDiff, thq S, nbr S, TH, f_reach, Bool.beq_eq_decide_eq, bne, decide_true, decide_false, Int.reduceEq, Int.reduceLT, Int.reduceLE, Int.reduceNeg, reduceCtorEq, List.mem_cons, List.not_mem_nil, or_false, false_or, or_true, true_or, Nat.not_lt_zero, Bool.true_and, Bool.false_and, Bool.and_true, Bool.and_false, Bool.or_true, Bool.or_false, Bool.true_or, Bool.false_or, off S 22 7 (by decide) rfl, off S 22 19 (by decide) rfl, off S 22 21 (by decide) rfl, off S 22 25 (by decide) rfl, off S 22 29 (by decide) rfl, off S 22 33 (by decide) rfl, off S 22 39 (by decide) rfl, off S 22 45 (by decide) rfl, off S 22 53 (by decide) rfl, off S 22 55 (by decide) rfl, g0, g1, c_auguryref9_Guesses S, hi, c_auguryref7_At S, c_auguryref9_Real S, c_auguryref9_Push S, hb, hb', hs, hr, rep0', rep1', show (1 : Nat) * 48 ≤ limA by decide, show (1 : Nat) ≤ limA by decide, ne_eq, not_false_eq_true, Nat.one_ne_zero, Md.w64, Md.fetch, Md.entry, if_true, if_false, app_endE, app_zero (cs := []), false_and, and_false, h0]
    by_cases k5 : (Md.at_ p c.state.pc).kind = 5
    · by_cases hg : g = 1
      · simp only [k5, hg, decide_true, decide_false, cond_true, cond_false, if_true, if_false, Int.reduceEq, or_self, or_true, true_or]
        rw [hbn]
        refine ans_conf' (l := []) ?_ rfl rfl ?_ rfl rfl
        · rfl
        · first | rfl | simp
      · simp only [k5, hg, decide_true, decide_false, cond_true, cond_false, if_true, if_false, Int.reduceEq, or_self, or_true, true_or]
        rw [hbn]
        refine ans_conf' (l := []) ?_ rfl rfl ?_ rfl rfl
        · rfl
        · first | rfl | simp
    by_cases k6 : (Md.at_ p c.state.pc).kind = 6
    · simp only [k6, decide_true, decide_false, cond_true, cond_false, if_true, if_false, Int.reduceEq, or_self, or_true, true_or]
      rw [hbn]
      refine ans_conf' (l := []) ?_ rfl rfl ?_ rfl rfl
      · rfl
      · first | rfl | simp
    by_cases k7 : (Md.at_ p c.state.pc).kind = 7
    · simp only [k7, decide_true, decide_false, cond_true, cond_false, if_true, if_false, Int.reduceEq, or_self, or_true, true_or]
      rw [hbn]
      refine ans_conf' (l := []) ?_ rfl rfl ?_ rfl rfl
      · rfl
      · first | rfl | simp
    by_cases k9 : (Md.at_ p c.state.pc).kind = 9
    · by_cases hz : c.rsb.length = 0
      · simp only [k9, hz, decide_true, decide_false, cond_true, cond_false, if_true, if_false, Int.reduceEq, or_self, or_true, true_or, show ¬ ((0 : Nat) : Int) > 0 by omega]
        rw [hbn]
        refine ans_conf' (l := []) ?_ rfl rfl ?_ rfl rfl
        · rfl
        · first | rfl | simp
      · have w2 : IntKind.i64.wrap ((c.rsb.length : Int) - 1) = ((c.rsb.length - 1 : Nat) : Int) := by rw [wrap_i64 (by omega) (by omega)]; omega
        have bd := bndsV_hi c.rsb.length .i64 ((c.rsb.length - 1 : Nat) : Int) (by omega) (by omega)
        have hlast := last_get hz
        have hdl : c.rsb.take (c.rsb.length - 1) = c.rsb.dropLast := List.dropLast_eq_take.symm
        simp only [k9, hz, decide_true, decide_false, cond_true, cond_false, if_true, if_false, Int.reduceEq, or_self, or_true, true_or, show (c.rsb.length : Int) > 0 by omega]
        by_cases hq : c.rsb.dropLast.length = 0
        · have hq2 : c.rsb.dropLast = [] := List.length_eq_zero_iff.1 hq
          simp only [go_sem, Nat.reduceLT, Nat.reduceEqDiff, Nat.reduceAdd, Nat.reduceMul, Nat.reduceLeDiff, thq S, nbr S, TH, f_reach, Bool.beq_eq_decide_eq, bne, decide_true, decide_false, Int.reduceEq, Int.reduceLT, Int.reduceLE, Int.reduceNeg, reduceCtorEq, List.mem_cons, List.not_mem_nil, or_false, false_or, or_true, true_or, Nat.not_lt_zero, Bool.true_and, Bool.false_and, Bool.and_true, Bool.and_false, Bool.or_true, Bool.or_false, Bool.true_or, Bool.false_or, off S 22 7 (by decide) rfl, off S 22 19 (by decide) rfl, off S 22 21 (by decide) rfl, off S 22 25 (by decide) rfl, off S 22 29 (by decide) rfl, off S 22 33 (by decide) rfl, off S 22 39 (by decide) rfl, off S 22 45 (by decide) rfl, off S 22 53 (by decide) rfl, off S 22 55 (by decide) rfl, g0, g1, c_auguryref9_Guesses S, hi, c_auguryref7_At S, c_auguryref9_Real S, c_auguryref9_Push S, hb, hb', hs, hr, rep0', rep1', show (1 : Nat) * 48 ≤ limA by decide, show (1 : Nat) ≤ limA by decide, ne_eq, not_false_eq_true, Nat.one_ne_zero, Md.w64, Md.fetch, Md.entry, if_true, if_false, app_endE, app_zero (cs := []), false_and, and_false, h0, w2, bd, w_ix hlast, Int.toNat_natCast, List.drop_zero, Nat.sub_zero, hdl, hq2]
          rw [hbn]
          refine ans_conf2' (l := []) (R := []) ?_ ?_ rfl ?_ ?_ rfl rfl ?_
          · rfl
          · rfl
          · decide
          · first | rfl | simp
          · first | rfl | simp
        · have q1 : c.rsb.dropLast.length * 8 ≤ limA := by unfold limA; simp; omega
          have q2 : c.rsb.dropLast.length ≤ limA := by unfold limA; simp; omega
          have q3 : (((rowC c.rsb.dropLast).map AV.d).all AV.one) = true := one_row _
          simp only [go_sem, Nat.reduceLT, Nat.reduceEqDiff, Nat.reduceAdd, Nat.reduceMul, Nat.reduceLeDiff, thq S, nbr S, TH, f_reach, Bool.beq_eq_decide_eq, bne, decide_true, decide_false, Int.reduceEq, Int.reduceLT, Int.reduceLE, Int.reduceNeg, reduceCtorEq, List.mem_cons, List.not_mem_nil, or_false, false_or, or_true, true_or, Nat.not_lt_zero, Bool.true_and, Bool.false_and, Bool.and_true, Bool.and_false, Bool.or_true, Bool.or_false, Bool.true_or, Bool.false_or, off S 22 7 (by decide) rfl, off S 22 19 (by decide) rfl, off S 22 21 (by decide) rfl, off S 22 25 (by decide) rfl, off S 22 29 (by decide) rfl, off S 22 33 (by decide) rfl, off S 22 39 (by decide) rfl, off S 22 45 (by decide) rfl, off S 22 53 (by decide) rfl, off S 22 55 (by decide) rfl, g0, g1, c_auguryref9_Guesses S, hi, c_auguryref7_At S, c_auguryref9_Real S, c_auguryref9_Push S, hb, hb', hs, hr, rep0', rep1', show (1 : Nat) * 48 ≤ limA by decide, show (1 : Nat) ≤ limA by decide, ne_eq, not_false_eq_true, Nat.one_ne_zero, Md.w64, Md.fetch, Md.entry, if_true, if_false, app_endE, app_zero (cs := []), false_and, and_false, h0, w2, bd, w_ix hlast, Int.toNat_natCast, List.drop_zero, Nat.sub_zero, hdl, hq, q1, q2, q3]
          rw [hbn]
          refine ans_conf2' (l := []) (R := c.rsb.dropLast) ?_ ?_ rfl ?_ ?_ rfl rfl ?_
          · rfl
          · rfl
          · decide
          · first | rfl | simp
          · first | rfl | simp
    by_cases k8 : (Md.at_ p c.state.pc).kind = 8
    · simp only [k8, decide_true, decide_false, cond_true, cond_false, if_true, if_false, Int.reduceEq, or_self, or_true, true_or]
      cases hreal : Md.real p c.state.stack c.buf c.buf.length with
      | none =>
        rw [h0] at hreal
        have hr4 := hreal
        simp only [go_sem, Nat.reduceLT, Nat.reduceEqDiff, Nat.reduceAdd, Nat.reduceMul, Nat.reduceLeDiff, thq S, nbr S, TH, f_reach, Bool.beq_eq_decide_eq, bne, decide_true, decide_false, Int.reduceEq, Int.reduceLT, Int.reduceLE, Int.reduceNeg, reduceCtorEq, List.mem_cons, List.not_mem_nil, or_false, false_or, or_true, true_or, Nat.not_lt_zero, Bool.true_and, Bool.false_and, Bool.and_true, Bool.and_false, Bool.or_true, Bool.or_false, Bool.true_or, Bool.false_or, off S 22 7 (by decide) rfl, off S 22 19 (by decide) rfl, off S 22 21 (by decide) rfl, off S 22 25 (by decide) rfl, off S 22 29 (by decide) rfl, off S 22 33 (by decide) rfl, off S 22 39 (by decide) rfl, off S 22 45 (by decide) rfl, off S 22 53 (by decide) rfl, off S 22 55 (by decide) rfl, g0, g1, c_auguryref9_Guesses S, hi, c_auguryref7_At S, c_auguryref9_Real S, c_auguryref9_Push S, hb, hb', hs, hr, rep0', rep1', show (1 : Nat) * 48 ≤ limA by decide, show (1 : Nat) ≤ limA by decide, ne_eq, not_false_eq_true, Nat.one_ne_zero, Md.w64, Md.fetch, Md.entry, if_true, if_false, app_endE, app_zero (cs := []), false_and, and_false, h0, hreal, getO, boolO, hr4]
        rw [hbn]
        refine ans_conf' (l := []) ?_ rfl rfl ?_ rfl rfl
        · rfl
        · first | rfl | simp
      | some r =>
        have hr4 : decide ((r.length : Int) ≥ 4) = decide (4 ≤ r.length) := decide_eq_decide.2 (by omega)
        rw [h0] at hreal
        simp only [go_sem, Nat.reduceLT, Nat.reduceEqDiff, Nat.reduceAdd, Nat.reduceMul, Nat.reduceLeDiff, thq S, nbr S, TH, f_reach, Bool.beq_eq_decide_eq, bne, decide_true, decide_false, Int.reduceEq, Int.reduceLT, Int.reduceLE, Int.reduceNeg, reduceCtorEq, List.mem_cons, List.not_mem_nil, or_false, false_or, or_true, true_or, Nat.not_lt_zero, Bool.true_and, Bool.false_and, Bool.and_true, Bool.and_false, Bool.or_true, Bool.or_false, Bool.true_or, Bool.false_or, off S 22 7 (by decide) rfl, off S 22 19 (by decide) rfl, off S 22 21 (by decide) rfl, off S 22 25 (by decide) rfl, off S 22 29 (by decide) rfl, off S 22 33 (by decide) rfl, off S 22 39 (by decide) rfl, off S 22 45 (by decide) rfl, off S 22 53 (by decide) rfl, off S 22 55 (by decide) rfl, g0, g1, c_auguryref9_Guesses S, hi, c_auguryref7_At S, c_auguryref9_Real S, c_auguryref9_Push S, hb, hb', hs, hr, rep0', rep1', show (1 : Nat) * 48 ≤ limA by decide, show (1 : Nat) ≤ limA by decide, ne_eq, not_false_eq_true, Nat.one_ne_zero, Md.w64, Md.fetch, Md.entry, if_true, if_false, app_endE, app_zero (cs := []), false_and, and_false, h0, hreal, getO, boolO, hr4]
        rw [hbn]
        refine ans_conf' (l := []) ?_ rfl rfl ?_ rfl rfl
        · rfl
        · first | rfl | simp
    by_cases k11 : (Md.at_ p c.state.pc).kind = 11
    · simp only [k11, decide_true, decide_false, cond_true, cond_false, if_true, if_false, Int.reduceEq, or_self, or_true, true_or]
      rw [hbn]
      refine ans_conf' (l := []) ?_ rfl rfl ?_ rfl rfl
      · rfl
      · first | rfl | simp
    by_cases k12 : (Md.at_ p c.state.pc).kind = 12
    · simp only [k12, decide_true, decide_false, cond_true, cond_false, if_true, if_false, Int.reduceEq, or_self, or_true, true_or]
      rw [hbn]
      refine ans_conf' (l := []) ?_ rfl rfl ?_ rfl rfl
      · rfl
      · first | rfl | simp
    · simp only [k5, k6, k7, k8, k9, k11, k12, decide_true, decide_false, cond_true, cond_false, if_true, if_false, Int.reduceEq, or_self, or_true, true_or]
      rw [hbn]
      refine ans_conf' (l := []) ?_ rfl rfl ?_ rfl rfl
      · rfl
      · first | rfl | simp
  · have l1 : c.buf.length * 48 ≤ limA := by unfold limA; omega
    have l2 : c.buf.length ≤ limA := by unfold limA; omega
    have l3 : (((rowC c.buf).map AV.d).all AV.one) = true := one_row _
    have l4 : (c.buf.length + 1) * 48 ≤ limA := by unfold limA; omega
    have l5 : c.buf.length + 1 ≤ limA := by unfold limA; omega
    simp only [go_sem, Nat.reduceLT, Nat.reduceEqDiff, Nat.reduceAdd, Nat.reduceMul, Nat.reduceLeDiff, thq S, nbr S, TH, f_reach, Bool.beq_eq_decide_eq, bne, decide_true, decide_false, Int.reduceEq, Int.reduceLT, Int.reduceLE, Int.reduceNeg, reduceCtorEq, List.mem_cons, List.not_mem_nil, or_false, false_or, or_true, true_or, Nat.not_lt_zero, Bool.true_and, Bool.false_and, Bool.and_true, Bool.and_false, Bool.or_true, Bool.or_false, Bool.true_or, Bool.false_or, off S 22 7 (by decide) rfl, off S 22 19 (by decide) rfl, off S 22 21 (by decide) rfl, off S 22 25 (by decide) rfl, off S 22 29 (by decide) rfl, off S 22 33 (by decide) rfl, off S 22 39 (by decide) rfl, off S 22 45 (by decide) rfl, off S 22 53 (by decide) rfl, off S 22 55 (by decide) rfl, g0, g1, c_auguryref9_Guesses S, hi, c_auguryref7_At S, c_auguryref9_Real S, c_auguryref9_Push S, hb, hb', hs, hr, rep0', rep1', show (1 : Nat) * 48 ≤ limA by decide, show (1 : Nat) ≤ limA by decide, ne_eq, not_false_eq_true, Nat.one_ne_zero, Md.w64, Md.fetch, Md.entry, if_true, if_false, app_endE, app_zero (cs := []), false_and, and_false, h0, l1, l2, l3, l4, l5]
    by_cases k5 : (Md.at_ p c.state.pc).kind = 5
    · by_cases hg : g = 1
      · simp only [k5, hg, decide_true, decide_false, cond_true, cond_false, if_true, if_false, Int.reduceEq, or_self, or_true, true_or]
        refine ans_conf' (l := c.buf) ?_ rfl rfl ?_ rfl rfl
        · rfl
        · first | rfl | simp
      · simp only [k5, hg, decide_true, decide_false, cond_true, cond_false, if_true, if_false, Int.reduceEq, or_self, or_true, true_or]
        refine ans_conf' (l := c.buf) ?_ rfl rfl ?_ rfl rfl
        · rfl
        · first | rfl | simp
    by_cases k6 : (Md.at_ p c.state.pc).kind = 6
    · simp only [k6, decide_true, decide_false, cond_true, cond_false, if_true, if_false, Int.reduceEq, or_self, or_true, true_or]
      refine ans_conf' (l := c.buf) ?_ rfl rfl ?_ rfl rfl
      · rfl
      · first | rfl | simp
    by_cases k7 : (Md.at_ p c.state.pc).kind = 7
    · simp only [k7, decide_true, decide_false, cond_true, cond_false, if_true, if_false, Int.reduceEq, or_self, or_true, true_or]
      refine ans_conf' (l := c.buf) ?_ rfl rfl ?_ rfl rfl
      · rfl
      · first | rfl | simp
    by_cases k9 : (Md.at_ p c.state.pc).kind = 9
    · by_cases hz : c.rsb.length = 0
      · simp only [k9, hz, decide_true, decide_false, cond_true, cond_false, if_true, if_false, Int.reduceEq, or_self, or_true, true_or, show ¬ ((0 : Nat) : Int) > 0 by omega]
        refine ans_conf' (l := c.buf) ?_ rfl rfl ?_ rfl rfl
        · rfl
        · first | rfl | simp
      · have w2 : IntKind.i64.wrap ((c.rsb.length : Int) - 1) = ((c.rsb.length - 1 : Nat) : Int) := by rw [wrap_i64 (by omega) (by omega)]; omega
        have bd := bndsV_hi c.rsb.length .i64 ((c.rsb.length - 1 : Nat) : Int) (by omega) (by omega)
        have hlast := last_get hz
        have hdl : c.rsb.take (c.rsb.length - 1) = c.rsb.dropLast := List.dropLast_eq_take.symm
        simp only [k9, hz, decide_true, decide_false, cond_true, cond_false, if_true, if_false, Int.reduceEq, or_self, or_true, true_or, show (c.rsb.length : Int) > 0 by omega]
        by_cases hq : c.rsb.dropLast.length = 0
        · have hq2 : c.rsb.dropLast = [] := List.length_eq_zero_iff.1 hq
          simp only [go_sem, Nat.reduceLT, Nat.reduceEqDiff, Nat.reduceAdd, Nat.reduceMul, Nat.reduceLeDiff, thq S, nbr S, TH, f_reach, Bool.beq_eq_decide_eq, bne, decide_true, decide_false, Int.reduceEq, Int.reduceLT, Int.reduceLE, Int.reduceNeg, reduceCtorEq, List.mem_cons, List.not_mem_nil, or_false, false_or, or_true, true_or, Nat.not_lt_zero, Bool.true_and, Bool.false_and, Bool.and_true, Bool.and_false, Bool.or_true, Bool.or_false, Bool.true_or, Bool.false_or, off S 22 7 (by decide) rfl, off S 22 19 (by decide) rfl, off S 22 21 (by decide) rfl, off S 22 25 (by decide) rfl, off S 22 29 (by decide) rfl, off S 22 33 (by decide) rfl, off S 22 39 (by decide) rfl, off S 22 45 (by decide) rfl, off S 22 53 (by decide) rfl, off S 22 55 (by decide) rfl, g0, g1, c_auguryref9_Guesses S, hi, c_auguryref7_At S, c_auguryref9_Real S, c_auguryref9_Push S, hb, hb', hs, hr, rep0', rep1', show (1 : Nat) * 48 ≤ limA by decide, show (1 : Nat) ≤ limA by decide, ne_eq, not_false_eq_true, Nat.one_ne_zero, Md.w64, Md.fetch, Md.entry, if_true, if_false, app_endE, app_zero (cs := []), false_and, and_false, h0, l1, l2, l3, l4, l5, w2, bd, w_ix hlast, Int.toNat_natCast, List.drop_zero, Nat.sub_zero, hdl, hq2]
          refine ans_conf2' (l := c.buf) (R := []) ?_ ?_ rfl ?_ ?_ rfl rfl ?_
          · rfl
          · rfl
          · decide
          · first | rfl | simp
          · first | rfl | simp
        · have q1 : c.rsb.dropLast.length * 8 ≤ limA := by unfold limA; simp; omega
          have q2 : c.rsb.dropLast.length ≤ limA := by unfold limA; simp; omega
          have q3 : (((rowC c.rsb.dropLast).map AV.d).all AV.one) = true := one_row _
          simp only [go_sem, Nat.reduceLT, Nat.reduceEqDiff, Nat.reduceAdd, Nat.reduceMul, Nat.reduceLeDiff, thq S, nbr S, TH, f_reach, Bool.beq_eq_decide_eq, bne, decide_true, decide_false, Int.reduceEq, Int.reduceLT, Int.reduceLE, Int.reduceNeg, reduceCtorEq, List.mem_cons, List.not_mem_nil, or_false, false_or, or_true, true_or, Nat.not_lt_zero, Bool.true_and, Bool.false_and, Bool.and_true, Bool.and_false, Bool.or_true, Bool.or_false, Bool.true_or, Bool.false_or, off S 22 7 (by decide) rfl, off S 22 19 (by decide) rfl, off S 22 21 (by decide) rfl, off S 22 25 (by decide) rfl, off S 22 29 (by decide) rfl, off S 22 33 (by decide) rfl, off S 22 39 (by decide) rfl, off S 22 45 (by decide) rfl, off S 22 53 (by decide) rfl, off S 22 55 (by decide) rfl, g0, g1, c_auguryref9_Guesses S, hi, c_auguryref7_At S, c_auguryref9_Real S, c_auguryref9_Push S, hb, hb', hs, hr, rep0', rep1', show (1 : Nat) * 48 ≤ limA by decide, show (1 : Nat) ≤ limA by decide, ne_eq, not_false_eq_true, Nat.one_ne_zero, Md.w64, Md.fetch, Md.entry, if_true, if_false, app_endE, app_zero (cs := []), false_and, and_false, h0, l1, l2, l3, l4, l5, w2, bd, w_ix hlast, Int.toNat_natCast, List.drop_zero, Nat.sub_zero, hdl, hq, q1, q2, q3]
          refine ans_conf2' (l := c.buf) (R := c.rsb.dropLast) ?_ ?_ rfl ?_ ?_ rfl rfl ?_
          · rfl
          · rfl
          · decide
          · first | rfl | simp
          · first | rfl | simp
    by_cases k8 : (Md.at_ p c.state.pc).kind = 8
    · simp only [k8, decide_true, decide_false, cond_true, cond_false, if_true, if_false, Int.reduceEq, or_self, or_true, true_or]
      cases hreal : Md.real p c.state.stack c.buf c.buf.length with
      | none =>
        have hr4 := hreal
        simp only [go_sem, Nat.reduceLT, Nat.reduceEqDiff, Nat.reduceAdd, Nat.reduceMul, Nat.reduceLeDiff, thq S, nbr S, TH, f_reach, Bool.beq_eq_decide_eq, bne, decide_true, decide_false, Int.reduceEq, Int.reduceLT, Int.reduceLE, Int.reduceNeg, reduceCtorEq, List.mem_cons, List.not_mem_nil, or_false, false_or, or_true, true_or, Nat.not_lt_zero, Bool.true_and, Bool.false_and, Bool.and_true, Bool.and_false, Bool.or_true, Bool.or_false, Bool.true_or, Bool.false_or, off S 22 7 (by decide) rfl, off S 22 19 (by decide) rfl, off S 22 21 (by decide) rfl, off S 22 25 (by decide) rfl, off S 22 29 (by decide) rfl, off S 22 33 (by decide) rfl, off S 22 39 (by decide) rfl, off S 22 45 (by decide) rfl, off S 22 53 (by decide) rfl, off S 22 55 (by decide) rfl, g0, g1, c_auguryref9_Guesses S, hi, c_auguryref7_At S, c_auguryref9_Real S, c_auguryref9_Push S, hb, hb', hs, hr, rep0', rep1', show (1 : Nat) * 48 ≤ limA by decide, show (1 : Nat) ≤ limA by decide, ne_eq, not_false_eq_true, Nat.one_ne_zero, Md.w64, Md.fetch, Md.entry, if_true, if_false, app_endE, app_zero (cs := []), false_and, and_false, h0, l1, l2, l3, l4, l5, hreal, getO, boolO, hr4]
        refine ans_conf' (l := c.buf) ?_ rfl rfl ?_ rfl rfl
        · rfl
        · first | rfl | simp
      | some r =>
        have hr4 : decide ((r.length : Int) ≥ 4) = decide (4 ≤ r.length) := decide_eq_decide.2 (by omega)
        simp only [go_sem, Nat.reduceLT, Nat.reduceEqDiff, Nat.reduceAdd, Nat.reduceMul, Nat.reduceLeDiff, thq S, nbr S, TH, f_reach, Bool.beq_eq_decide_eq, bne, decide_true, decide_false, Int.reduceEq, Int.reduceLT, Int.reduceLE, Int.reduceNeg, reduceCtorEq, List.mem_cons, List.not_mem_nil, or_false, false_or, or_true, true_or, Nat.not_lt_zero, Bool.true_and, Bool.false_and, Bool.and_true, Bool.and_false, Bool.or_true, Bool.or_false, Bool.true_or, Bool.false_or, off S 22 7 (by decide) rfl, off S 22 19 (by decide) rfl, off S 22 21 (by decide) rfl, off S 22 25 (by decide) rfl, off S 22 29 (by decide) rfl, off S 22 33 (by decide) rfl, off S 22 39 (by decide) rfl, off S 22 45 (by decide) rfl, off S 22 53 (by decide) rfl, off S 22 55 (by decide) rfl, g0, g1, c_auguryref9_Guesses S, hi, c_auguryref7_At S, c_auguryref9_Real S, c_auguryref9_Push S, hb, hb', hs, hr, rep0', rep1', show (1 : Nat) * 48 ≤ limA by decide, show (1 : Nat) ≤ limA by decide, ne_eq, not_false_eq_true, Nat.one_ne_zero, Md.w64, Md.fetch, Md.entry, if_true, if_false, app_endE, app_zero (cs := []), false_and, and_false, h0, l1, l2, l3, l4, l5, hreal, getO, boolO, hr4]
        refine ans_conf' (l := c.buf) ?_ rfl rfl ?_ rfl rfl
        · rfl
        · first | rfl | simp
    by_cases k11 : (Md.at_ p c.state.pc).kind = 11
    · simp only [k11, decide_true, decide_false, cond_true, cond_false, if_true, if_false, Int.reduceEq, or_self, or_true, true_or]
      refine ans_conf' (l := c.buf) ?_ rfl rfl ?_ rfl rfl
      · rfl
      · first | rfl | simp
    by_cases k12 : (Md.at_ p c.state.pc).kind = 12
    · simp only [k12, decide_true, decide_false, cond_true, cond_false, if_true, if_false, Int.reduceEq, or_self, or_true, true_or]
      refine ans_conf' (l := c.buf) ?_ rfl rfl ?_ rfl rfl
      · rfl
      · first | rfl | simp
    · simp only [k5, k6, k7, k8, k9, k11, k12, decide_true, decide_false, cond_true, cond_false, if_true, if_false, Int.reduceEq, or_self, or_true, true_or]
      refine ans_conf' (l := c.buf) ?_ rfl rfl ?_ rfl rfl
      · rfl
      · first | rfl | simp
theorem c_auguryref9_Fetch (dp : Nat) (p_w : Int) (p_wn : Int) (p_fu : Int) (p_r0 : Int) (p_r1 : Int) (p_r2 : Int) (p_r3 : Int) (p_ms : List MemT) (p_ls : List Label) (p_is : List Ins) (c_r0 : Int) (c_r1 : Int) (c_r2 : Int) (c_r3 : Int) (c_mm : List Int) (c_st : List Int) (c_pc : Int) (c_bf : List Ent) (c_rb : List Int) (c_en : Int) (g : Int) (hi : (⟨p_w, p_wn, p_fu, ⟨p_r0, p_r1, p_r2, p_r3⟩, p_ms, p_ls, p_is⟩ : Prog).ins.length < 1073741824) (hb : (⟨⟨⟨c_r0, c_r1, c_r2, c_r3⟩, c_mm, c_st, c_pc⟩, c_bf, c_rb, c_en⟩ : Conf).buf.length < 1073741823) (hs : (⟨⟨⟨c_r0, c_r1, c_r2, c_r3⟩, c_mm, c_st, c_pc⟩, c_bf, c_rb, c_en⟩ : Conf).state.stack.length < 1073741824) (hr : (⟨⟨⟨c_r0, c_r1, c_r2, c_r3⟩, c_mm, c_st, c_pc⟩, c_bf, c_rb, c_en⟩ : Conf).rsb.length < 1073741823) (A : List Blk) (nb : Nat) : evOwnK false E (evC E fn (dp + 3)) 22 A nb (some ([.agg [vi p_w, vi p_wn, vi p_fu, vi p_r0, vi p_r1, vi p_r2, vi p_r3, rowD p_ms, rowD p_ls, rowD p_is], .agg [vi c_r0, vi c_r1, vi c_r2, vi c_r3, rowD c_mm, rowD c_st, vi c_pc, rowD c_bf, rowD c_rb, vi c_en], vi g], [])) = some (.made (.d (.tup [confD (fetchC (⟨p_w, p_wn, p_fu, ⟨p_r0, p_r1, p_r2, p_r3⟩, p_ms, p_ls, p_is⟩ : Prog) (⟨⟨⟨c_r0, c_r1, c_r2, c_r3⟩, c_mm, c_st, c_pc⟩, c_bf, c_rb, c_en⟩ : Conf) g), vb (Md.canFetch (⟨p_w, p_wn, p_fu, ⟨p_r0, p_r1, p_r2, p_r3⟩, p_ms, p_ls, p_is⟩ : Prog) (⟨⟨⟨c_r0, c_r1, c_r2, c_r3⟩, c_mm, c_st, c_pc⟩, c_bf, c_rb, c_en⟩ : Conf) g)])) []) :=
  Says.deep (raw_auguryref9_Fetch S dp (⟨p_w, p_wn, p_fu, ⟨p_r0, p_r1, p_r2, p_r3⟩, p_ms, p_ls, p_is⟩ : Prog) (⟨⟨⟨c_r0, c_r1, c_r2, c_r3⟩, c_mm, c_st, c_pc⟩, c_bf, c_rb, c_en⟩ : Conf) g hi hb hs hr) (np S 22 (by decide)) A nb
theorem u_auguryref9_Fetch (dp : Nat) (p_w : Int) (p_wn : Int) (p_fu : Int) (p_r0 : Int) (p_r1 : Int) (p_r2 : Int) (p_r3 : Int) (p_ms : List MemT) (p_ls : List Label) (p_is : List Ins) (c_r0 : Int) (c_r1 : Int) (c_r2 : Int) (c_r3 : Int) (c_mm : List Int) (c_st : List Int) (c_pc : Int) (c_bf : List Ent) (c_rb : List Int) (c_en : Int) (g : Int) (hi : (⟨p_w, p_wn, p_fu, ⟨p_r0, p_r1, p_r2, p_r3⟩, p_ms, p_ls, p_is⟩ : Prog).ins.length < 1073741824) (hb : (⟨⟨⟨c_r0, c_r1, c_r2, c_r3⟩, c_mm, c_st, c_pc⟩, c_bf, c_rb, c_en⟩ : Conf).buf.length < 1073741823) (hs : (⟨⟨⟨c_r0, c_r1, c_r2, c_r3⟩, c_mm, c_st, c_pc⟩, c_bf, c_rb, c_en⟩ : Conf).state.stack.length < 1073741824) (hr : (⟨⟨⟨c_r0, c_r1, c_r2, c_r3⟩, c_mm, c_st, c_pc⟩, c_bf, c_rb, c_en⟩ : Conf).rsb.length < 1073741823) (hf : DV.flat 8 (.tup [confD (fetchC (⟨p_w, p_wn, p_fu, ⟨p_r0, p_r1, p_r2, p_r3⟩, p_ms, p_ls, p_is⟩ : Prog) (⟨⟨⟨c_r0, c_r1, c_r2, c_r3⟩, c_mm, c_st, c_pc⟩, c_bf, c_rb, c_en⟩ : Conf) g), vb (Md.canFetch (⟨p_w, p_wn, p_fu, ⟨p_r0, p_r1, p_r2, p_r3⟩, p_ms, p_ls, p_is⟩ : Prog) (⟨⟨⟨c_r0, c_r1, c_r2, c_r3⟩, c_mm, c_st, c_pc⟩, c_bf, c_rb, c_en⟩ : Conf) g)]) = false) (A : List Blk) (nb ui : Nat) (us : List Nat) : evOwnK false E (evC E fn (dp + 3)) 22 A nb (some ([.agg [vi p_w, vi p_wn, vi p_fu, vi p_r0, vi p_r1, vi p_r2, vi p_r3, rowD p_ms, rowD p_ls, rowD p_is], .agg [vi c_r0, vi c_r1, vi c_r2, vi c_r3, rowD c_mm, rowD c_st, vi c_pc, rowD c_bf, rowD c_rb, vi c_en], vi g], ui :: us)) = some (.turned (.d (.tup [confD (fetchC (⟨p_w, p_wn, p_fu, ⟨p_r0, p_r1, p_r2, p_r3⟩, p_ms, p_ls, p_is⟩ : Prog) (⟨⟨⟨c_r0, c_r1, c_r2, c_r3⟩, c_mm, c_st, c_pc⟩, c_bf, c_rb, c_en⟩ : Conf) g), vb (Md.canFetch (⟨p_w, p_wn, p_fu, ⟨p_r0, p_r1, p_r2, p_r3⟩, p_ms, p_ls, p_is⟩ : Prog) (⟨⟨⟨c_r0, c_r1, c_r2, c_r3⟩, c_mm, c_st, c_pc⟩, c_bf, c_rb, c_en⟩ : Conf) g)])) (setRo A (ui :: us))) :=
  Says.used (raw_auguryref9_Fetch S dp (⟨p_w, p_wn, p_fu, ⟨p_r0, p_r1, p_r2, p_r3⟩, p_ms, p_ls, p_is⟩ : Prog) (⟨⟨⟨c_r0, c_r1, c_r2, c_r3⟩, c_mm, c_st, c_pc⟩, c_bf, c_rb, c_en⟩ : Conf) g hi hb hs hr) (np S 22 (by decide)) hf A nb ui us
end
end Go.Aug.Mc


