/- ExecFaults: the law's run. -/
import Derived.Test.YtogckbgcldmaeaaMc20
import Derived.Test.YtogckbgcldmaeaaMc9
namespace Go.Aug.Mc
open Go Go.Aug
set_option linter.unusedSimpArgs false
set_option linter.unusedVariables false
set_option maxHeartbeats 40000000
set_option maxRecDepth 200000
namespace Flt
def z4 : Regs := ⟨0, 0, 0, 0⟩
def v0 : Val := ⟨false, 0⟩
def P (k a : Int) : Prog := ⟨4, 2, 0, z4, [⟨⟨#[109]⟩, false, 5⟩], [], [⟨k, 0, 1, ⟨false, a⟩, v0, ⟨#[]⟩, 0⟩, ⟨11, 0, 0, v0, v0, ⟨#[]⟩, 0⟩]⟩
def S0 (pc : Int) : State := ⟨z4, [3, 3, 3, 3, 3], [], pc⟩
def X0 : Ent := ⟨0, 0, 0, -1, 1, false, false, false⟩
def X1 : Ent := ⟨1, 0, 0, -1, -1, true, false, false⟩
def G (v a : Int) (d k f : Bool) : Ent := ⟨0, v, a, -1, 1, d, k, f⟩
def cf (pc : Int) (l : List Ent) : Conf := ⟨S0 pc, l, [], 0⟩
abbrev lo (a : Int) : Prop := a = 0 ∨ a = 1 ∨ a = 2 ∨ a = 3 ∨ a = 4
abbrev hi (a : Int) : Prop := a = 5 ∨ a = 6 ∨ a = 7 ∨ a = 8 ∨ a = 9 ∨ a = 10 ∨ a = 11 ∨ a = 12 ∨ a = 13 ∨ a = 14 ∨ a = 15
theorem kL {a : Int} (h : lo a ∨ hi a) : Md.can 5 (P 2 a) (cf (-1) [X0, X1]) 0 = true := by
  rcases h with h | h
  · rcases h with rfl | rfl | rfl | rfl | rfl <;> rfl
  · rcases h with rfl | rfl | rfl | rfl | rfl | rfl | rfl | rfl | rfl | rfl | rfl <;> rfl
theorem kS {a : Int} : Md.can 5 (P 3 a) (cf (-1) [X0, X1]) 0 = true := rfl
theorem dL {a : Int} (h : lo a) : doC 5 (P 2 a) (cf (-1) [X0, X1]) 0 = (cf (-1) [G 3 a true true false, X1], [⟨1, a⟩]) := by rcases h with rfl | rfl | rfl | rfl | rfl <;> rfl
theorem dH {a : Int} (h : hi a) : doC 5 (P 2 a) (cf (-1) [X0, X1]) 0 = (cf (-1) [G 0 a true true true, X1], []) := by rcases h with rfl | rfl | rfl | rfl | rfl | rfl | rfl | rfl | rfl | rfl | rfl <;> rfl
theorem dS {a : Int} : doC 5 (P 3 a) (cf (-1) [X0, X1]) 0 = (cf (-1) [G 0 0 true false false, X1], []) := rfl
theorem kA {a : Int} : Md.canAddr (P 3 a) (cf (-1) [X0, X1]) 0 = true := rfl
theorem aL {a : Int} (h : lo a) : addrC 5 (P 3 a) (cf (-1) [X0, X1]) 0 = (cf (-1) [G 0 a false true false, X1], [⟨2, a⟩]) := by rcases h with rfl | rfl | rfl | rfl | rfl <;> rfl
theorem aH {a : Int} (h : hi a) : addrC 5 (P 3 a) (cf (-1) [X0, X1]) 0 = (cf (-1) [G 0 a false true true, X1], []) := by rcases h with rfl | rfl | rfl | rfl | rfl | rfl | rfl | rfl | rfl | rfl | rfl <;> rfl
end Flt
open Flt
variable {E : Env} {fn : FuncId → Option (Env → CallT → CallT)}
section
variable (S : Sur E fn)
include S
theorem raw_lawFlt (ha : E.prim 25 = some trueG) (dp : Nat) (xa : Int) (st : Bool) : evC E fn (dp + 12) 7 [aint xa, abool st] [] = some (abool true, []) := by
  rw [evC_succ, S.f_augurylaw15_ExecFaults, apF_some, F_augurylaw15_ExecFaults, mkF_run _ _ _ _ _ _ _ _ rfl]
  have r5 : ∀ {α : Type} (l : List α), rep l 5 = l ++ (l ++ (l ++ (l ++ l))) := fun l => by simp [rep]
  have r2 : ∀ {α : Type} (l : List α), rep l 2 = l ++ l := fun l => by simp [rep]
  obtain ⟨an, la, q0⟩ := mask_of xa 4 (by decide)
  simp only [Nat.reducePow, Nat.reduceSub, Int.cast_ofNat_Int] at q0 la
  have hx : 0 ≤ (an : Int) ∧ (an : Int) < 16 := by omega
  generalize (an : Int) = a at q0 hx
  by_cases h5 : 5 ≤ a
  · have hh : hi a := by unfold hi; omega
    cases st
    · have b1 : ∀ A nb, evOwnK false E (evC E fn (dp + 11)) 21 A nb (some ([stateD (S0 0)], [])) = some (.made (.d (confD (cf 0 []))) []) := fun A nb => by
        have := raw_auguryref9_Begin S (dp + 10) (S0 0)
        exact Says.deep this (np S _ (by decide)) A nb
      have f1 : ∀ A nb, evOwnK false E (evC E fn (dp + 11)) 22 A nb (some ([progD (P 2 a), confD (cf 0 []), vi 0], [])) = some (.made (.d (.tup [confD (cf 1 [X0]), vb true])) []) := fun A nb => by
        have := raw_auguryref9_Fetch S (dp + 8) (P 2 a) (cf 0 []) 0 (by show (2 : Nat) < _; decide) (by show (0 : Nat) < _; decide) (by show (0 : Nat) < _; decide) (by show (0 : Nat) < _; decide)
        exact Says.deep this (np S _ (by decide)) A nb
      have f2 : ∀ A nb, evOwnK false E (evC E fn (dp + 11)) 22 A nb (some ([progD (P 2 a), confD (cf 1 [X0]), vi 0], [])) = some (.made (.d (.tup [confD (cf (-1) [X0, X1]), vb true])) []) := fun A nb => by
        have := raw_auguryref9_Fetch S (dp + 8) (P 2 a) (cf 1 [X0]) 0 (by show (2 : Nat) < _; decide) (by show (1 : Nat) < _; decide) (by show (0 : Nat) < _; decide) (by show (0 : Nat) < _; decide)
        exact Says.deep this (np S _ (by decide)) A nb
      have d1 : ∀ A nb, evOwnK false E (evC E fn (dp + 11)) 23 A nb (some ([progD (P 2 a), confD (cf (-1) [X0, X1]), vi 0], [])) = some (.made (.d (.tup [confD (cf (-1) [G 0 a true true true, X1]), rowD ([] : List Obs), vb true])) []) := fun A nb => by
        have := raw_exec_Do S (dp + 1) (P 2 a) (cf (-1) [X0, X1]) 0 (by show (1 : Nat) < _; decide) (by show (5 : Nat) < _; decide) (by show (0 : Nat) < _; decide) (by show (2 : Nat) < _; decide) (by show (0 : Nat) < _; decide) (by show (0 : Nat) < _; decide)
        rw [show cellsI (P 2 a).mems = 5 from rfl, dH hh, kL (.inr hh)] at this
        exact Says.deep this (np S _ (by decide)) A nb
      simp only [go_sem, Nat.reduceLT, Nat.reduceEqDiff, Nat.reduceAdd, Nat.reduceMul, Nat.reduceLeDiff, rowD, rowC, List.flatMap_cons, List.flatMap_nil, P, z4, v0, S0, X0, X1, G, cf, Int.cast_ofNat_Int] at b1 f1 f2 d1
      simp only [endN_gen, go_sem, Nat.reduceLT, Nat.reduceEqDiff, Nat.reduceAdd, Nat.reduceMul, Nat.reduceLeDiff, thq S, nbr S, TH, f_reach, Bool.beq_eq_decide_eq, bne, decide_true, decide_false, Int.reduceEq, Int.reduceLT, Int.reduceLE, Int.reduceNeg, reduceCtorEq, List.mem_cons, List.not_mem_nil, or_false, false_or, or_true, true_or, Nat.not_lt_zero, Bool.true_and, Bool.false_and, Bool.and_true, Bool.and_false, Bool.or_true, Bool.or_false, Bool.true_or, Bool.false_or, off S 7 11 (by decide) rfl, off S 7 21 (by decide) rfl, off S 7 27 (by decide) rfl, off S 7 33 (by decide) rfl, off S 7 39 (by decide) rfl, r5, r2, rep1', Int.cast_ofNat_Int, b_and, q0, ne_eq, gt_iff_lt, ge_iff_le, deep_sr, c_told ha, b1, f1, f2, d1, List.length_cons, List.length_nil, Int.reduceGT, Bool.not_true, Bool.not_false, Nat.one_ne_zero, Nat.succ_ne_zero, not_false_eq_true, Int.reduceAdd, Int.reduceSub, Nat.zero_add, Nat.add_zero, Nat.zero_mul, Nat.one_mul, true_and, and_true, and_self, List.all_cons, List.all_nil, Int.reduceToNat, Int.toNat_zero, Int.toNat_one, Bool.false_eq_true, Bool.true_eq_false, if_false, Nat.le_refl, eq_true h5]
    · have b1 : ∀ A nb, evOwnK false E (evC E fn (dp + 11)) 21 A nb (some ([stateD (S0 0)], [])) = some (.made (.d (confD (cf 0 []))) []) := fun A nb => by
        have := raw_auguryref9_Begin S (dp + 10) (S0 0)
        exact Says.deep this (np S _ (by decide)) A nb
      have f1 : ∀ A nb, evOwnK false E (evC E fn (dp + 11)) 22 A nb (some ([progD (P 3 a), confD (cf 0 []), vi 0], [])) = some (.made (.d (.tup [confD (cf 1 [X0]), vb true])) []) := fun A nb => by
        have := raw_auguryref9_Fetch S (dp + 8) (P 3 a) (cf 0 []) 0 (by show (2 : Nat) < _; decide) (by show (0 : Nat) < _; decide) (by show (0 : Nat) < _; decide) (by show (0 : Nat) < _; decide)
        exact Says.deep this (np S _ (by decide)) A nb
      have f2 : ∀ A nb, evOwnK false E (evC E fn (dp + 11)) 22 A nb (some ([progD (P 3 a), confD (cf 1 [X0]), vi 0], [])) = some (.made (.d (.tup [confD (cf (-1) [X0, X1]), vb true])) []) := fun A nb => by
        have := raw_auguryref9_Fetch S (dp + 8) (P 3 a) (cf 1 [X0]) 0 (by show (2 : Nat) < _; decide) (by show (1 : Nat) < _; decide) (by show (0 : Nat) < _; decide) (by show (0 : Nat) < _; decide)
        exact Says.deep this (np S _ (by decide)) A nb
      have d1 : ∀ A nb, evOwnK false E (evC E fn (dp + 11)) 23 A nb (some ([progD (P 3 a), confD (cf (-1) [X0, X1]), vi 0], [])) = some (.made (.d (.tup [confD (cf (-1) [G 0 0 true false false, X1]), rowD ([] : List Obs), vb true])) []) := fun A nb => by
        have := raw_exec_Do S (dp + 1) (P 3 a) (cf (-1) [X0, X1]) 0 (by show (1 : Nat) < _; decide) (by show (5 : Nat) < _; decide) (by show (0 : Nat) < _; decide) (by show (2 : Nat) < _; decide) (by show (0 : Nat) < _; decide) (by show (0 : Nat) < _; decide)
        rw [show cellsI (P 3 a).mems = 5 from rfl, dS, kS] at this
        exact Says.deep this (np S _ (by decide)) A nb
      have a1 : ∀ A nb, evOwnK false E (evC E fn (dp + 11)) 24 A nb (some ([progD (P 3 a), confD (cf (-1) [X0, X1]), vi 0], [])) = some (.made (.d (.tup [confD (cf (-1) [G 0 a false true true, X1]), rowD ([] : List Obs), vb true])) []) := fun A nb => by
        have := raw_exec_Addr S (dp + 3) (P 3 a) (cf (-1) [X0, X1]) 0 (by show (1 : Nat) < _; decide) (by show (5 : Nat) < _; decide) (by show (0 : Nat) < _; decide) (by show (2 : Nat) < _; decide) (by show (0 : Nat) < _; decide)
        rw [show cellsI (P 3 a).mems = 5 from rfl, aH hh, kA] at this
        exact Says.deep this (np S _ (by decide)) A nb
      simp only [go_sem, Nat.reduceLT, Nat.reduceEqDiff, Nat.reduceAdd, Nat.reduceMul, Nat.reduceLeDiff, rowD, rowC, List.flatMap_cons, List.flatMap_nil, P, z4, v0, S0, X0, X1, G, cf, Int.cast_ofNat_Int] at b1 f1 f2 d1 a1
      simp only [endN_gen, go_sem, Nat.reduceLT, Nat.reduceEqDiff, Nat.reduceAdd, Nat.reduceMul, Nat.reduceLeDiff, thq S, nbr S, TH, f_reach, Bool.beq_eq_decide_eq, bne, decide_true, decide_false, Int.reduceEq, Int.reduceLT, Int.reduceLE, Int.reduceNeg, reduceCtorEq, List.mem_cons, List.not_mem_nil, or_false, false_or, or_true, true_or, Nat.not_lt_zero, Bool.true_and, Bool.false_and, Bool.and_true, Bool.and_false, Bool.or_true, Bool.or_false, Bool.true_or, Bool.false_or, off S 7 11 (by decide) rfl, off S 7 21 (by decide) rfl, off S 7 27 (by decide) rfl, off S 7 33 (by decide) rfl, off S 7 39 (by decide) rfl, r5, r2, rep1', Int.cast_ofNat_Int, b_and, q0, ne_eq, gt_iff_lt, ge_iff_le, deep_sr, c_told ha, b1, f1, f2, d1, a1, List.length_cons, List.length_nil, Int.reduceGT, Bool.not_true, Bool.not_false, Nat.one_ne_zero, Nat.succ_ne_zero, not_false_eq_true, Int.reduceAdd, Int.reduceSub, Nat.zero_add, Nat.add_zero, Nat.zero_mul, Nat.one_mul, true_and, and_true, and_self, List.all_cons, List.all_nil, Int.reduceToNat, Int.toNat_zero, Int.toNat_one, Bool.false_eq_true, Bool.true_eq_false, if_false, Nat.le_refl, eq_true h5]
  · have hl : lo a := by unfold lo; omega
    cases st
    · have b1 : ∀ A nb, evOwnK false E (evC E fn (dp + 11)) 21 A nb (some ([stateD (S0 0)], [])) = some (.made (.d (confD (cf 0 []))) []) := fun A nb => by
        have := raw_auguryref9_Begin S (dp + 10) (S0 0)
        exact Says.deep this (np S _ (by decide)) A nb
      have f1 : ∀ A nb, evOwnK false E (evC E fn (dp + 11)) 22 A nb (some ([progD (P 2 a), confD (cf 0 []), vi 0], [])) = some (.made (.d (.tup [confD (cf 1 [X0]), vb true])) []) := fun A nb => by
        have := raw_auguryref9_Fetch S (dp + 8) (P 2 a) (cf 0 []) 0 (by show (2 : Nat) < _; decide) (by show (0 : Nat) < _; decide) (by show (0 : Nat) < _; decide) (by show (0 : Nat) < _; decide)
        exact Says.deep this (np S _ (by decide)) A nb
      have f2 : ∀ A nb, evOwnK false E (evC E fn (dp + 11)) 22 A nb (some ([progD (P 2 a), confD (cf 1 [X0]), vi 0], [])) = some (.made (.d (.tup [confD (cf (-1) [X0, X1]), vb true])) []) := fun A nb => by
        have := raw_auguryref9_Fetch S (dp + 8) (P 2 a) (cf 1 [X0]) 0 (by show (2 : Nat) < _; decide) (by show (1 : Nat) < _; decide) (by show (0 : Nat) < _; decide) (by show (0 : Nat) < _; decide)
        exact Says.deep this (np S _ (by decide)) A nb
      have d1 : ∀ A nb, evOwnK false E (evC E fn (dp + 11)) 23 A nb (some ([progD (P 2 a), confD (cf (-1) [X0, X1]), vi 0], [])) = some (.made (.d (.tup [confD (cf (-1) [G 3 a true true false, X1]), rowD ([⟨1, a⟩] : List Obs), vb true])) []) := fun A nb => by
        have := raw_exec_Do S (dp + 1) (P 2 a) (cf (-1) [X0, X1]) 0 (by show (1 : Nat) < _; decide) (by show (5 : Nat) < _; decide) (by show (0 : Nat) < _; decide) (by show (2 : Nat) < _; decide) (by show (0 : Nat) < _; decide) (by show (0 : Nat) < _; decide)
        rw [show cellsI (P 2 a).mems = 5 from rfl, dL hl, kL (.inl hl)] at this
        exact Says.deep this (np S _ (by decide)) A nb
      simp only [go_sem, Nat.reduceLT, Nat.reduceEqDiff, Nat.reduceAdd, Nat.reduceMul, Nat.reduceLeDiff, rowD, rowC, List.flatMap_cons, List.flatMap_nil, P, z4, v0, S0, X0, X1, G, cf, Int.cast_ofNat_Int] at b1 f1 f2 d1
      simp only [endN_gen, go_sem, Nat.reduceLT, Nat.reduceEqDiff, Nat.reduceAdd, Nat.reduceMul, Nat.reduceLeDiff, thq S, nbr S, TH, f_reach, Bool.beq_eq_decide_eq, bne, decide_true, decide_false, Int.reduceEq, Int.reduceLT, Int.reduceLE, Int.reduceNeg, reduceCtorEq, List.mem_cons, List.not_mem_nil, or_false, false_or, or_true, true_or, Nat.not_lt_zero, Bool.true_and, Bool.false_and, Bool.and_true, Bool.and_false, Bool.or_true, Bool.or_false, Bool.true_or, Bool.false_or, off S 7 11 (by decide) rfl, off S 7 21 (by decide) rfl, off S 7 27 (by decide) rfl, off S 7 33 (by decide) rfl, off S 7 39 (by decide) rfl, r5, r2, rep1', Int.cast_ofNat_Int, b_and, q0, ne_eq, gt_iff_lt, ge_iff_le, deep_sr, c_told ha, b1, f1, f2, d1, List.length_cons, List.length_nil, Int.reduceGT, Bool.not_true, Bool.not_false, Nat.one_ne_zero, Nat.succ_ne_zero, not_false_eq_true, Int.reduceAdd, Int.reduceSub, Nat.zero_add, Nat.add_zero, Nat.zero_mul, Nat.one_mul, true_and, and_true, and_self, List.all_cons, List.all_nil, Int.reduceToNat, Int.toNat_zero, Int.toNat_one, Bool.false_eq_true, Bool.true_eq_false, if_false, Nat.le_refl, eq_false h5]
    · have b1 : ∀ A nb, evOwnK false E (evC E fn (dp + 11)) 21 A nb (some ([stateD (S0 0)], [])) = some (.made (.d (confD (cf 0 []))) []) := fun A nb => by
        have := raw_auguryref9_Begin S (dp + 10) (S0 0)
        exact Says.deep this (np S _ (by decide)) A nb
      have f1 : ∀ A nb, evOwnK false E (evC E fn (dp + 11)) 22 A nb (some ([progD (P 3 a), confD (cf 0 []), vi 0], [])) = some (.made (.d (.tup [confD (cf 1 [X0]), vb true])) []) := fun A nb => by
        have := raw_auguryref9_Fetch S (dp + 8) (P 3 a) (cf 0 []) 0 (by show (2 : Nat) < _; decide) (by show (0 : Nat) < _; decide) (by show (0 : Nat) < _; decide) (by show (0 : Nat) < _; decide)
        exact Says.deep this (np S _ (by decide)) A nb
      have f2 : ∀ A nb, evOwnK false E (evC E fn (dp + 11)) 22 A nb (some ([progD (P 3 a), confD (cf 1 [X0]), vi 0], [])) = some (.made (.d (.tup [confD (cf (-1) [X0, X1]), vb true])) []) := fun A nb => by
        have := raw_auguryref9_Fetch S (dp + 8) (P 3 a) (cf 1 [X0]) 0 (by show (2 : Nat) < _; decide) (by show (1 : Nat) < _; decide) (by show (0 : Nat) < _; decide) (by show (0 : Nat) < _; decide)
        exact Says.deep this (np S _ (by decide)) A nb
      have d1 : ∀ A nb, evOwnK false E (evC E fn (dp + 11)) 23 A nb (some ([progD (P 3 a), confD (cf (-1) [X0, X1]), vi 0], [])) = some (.made (.d (.tup [confD (cf (-1) [G 0 0 true false false, X1]), rowD ([] : List Obs), vb true])) []) := fun A nb => by
        have := raw_exec_Do S (dp + 1) (P 3 a) (cf (-1) [X0, X1]) 0 (by show (1 : Nat) < _; decide) (by show (5 : Nat) < _; decide) (by show (0 : Nat) < _; decide) (by show (2 : Nat) < _; decide) (by show (0 : Nat) < _; decide) (by show (0 : Nat) < _; decide)
        rw [show cellsI (P 3 a).mems = 5 from rfl, dS, kS] at this
        exact Says.deep this (np S _ (by decide)) A nb
      have a1 : ∀ A nb, evOwnK false E (evC E fn (dp + 11)) 24 A nb (some ([progD (P 3 a), confD (cf (-1) [X0, X1]), vi 0], [])) = some (.made (.d (.tup [confD (cf (-1) [G 0 a false true false, X1]), rowD ([⟨2, a⟩] : List Obs), vb true])) []) := fun A nb => by
        have := raw_exec_Addr S (dp + 3) (P 3 a) (cf (-1) [X0, X1]) 0 (by show (1 : Nat) < _; decide) (by show (5 : Nat) < _; decide) (by show (0 : Nat) < _; decide) (by show (2 : Nat) < _; decide) (by show (0 : Nat) < _; decide)
        rw [show cellsI (P 3 a).mems = 5 from rfl, aL hl, kA] at this
        exact Says.deep this (np S _ (by decide)) A nb
      simp only [go_sem, Nat.reduceLT, Nat.reduceEqDiff, Nat.reduceAdd, Nat.reduceMul, Nat.reduceLeDiff, rowD, rowC, List.flatMap_cons, List.flatMap_nil, P, z4, v0, S0, X0, X1, G, cf, Int.cast_ofNat_Int] at b1 f1 f2 d1 a1
      simp only [endN_gen, go_sem, Nat.reduceLT, Nat.reduceEqDiff, Nat.reduceAdd, Nat.reduceMul, Nat.reduceLeDiff, thq S, nbr S, TH, f_reach, Bool.beq_eq_decide_eq, bne, decide_true, decide_false, Int.reduceEq, Int.reduceLT, Int.reduceLE, Int.reduceNeg, reduceCtorEq, List.mem_cons, List.not_mem_nil, or_false, false_or, or_true, true_or, Nat.not_lt_zero, Bool.true_and, Bool.false_and, Bool.and_true, Bool.and_false, Bool.or_true, Bool.or_false, Bool.true_or, Bool.false_or, off S 7 11 (by decide) rfl, off S 7 21 (by decide) rfl, off S 7 27 (by decide) rfl, off S 7 33 (by decide) rfl, off S 7 39 (by decide) rfl, r5, r2, rep1', Int.cast_ofNat_Int, b_and, q0, ne_eq, gt_iff_lt, ge_iff_le, deep_sr, c_told ha, b1, f1, f2, d1, a1, List.length_cons, List.length_nil, Int.reduceGT, Bool.not_true, Bool.not_false, Nat.one_ne_zero, Nat.succ_ne_zero, not_false_eq_true, Int.reduceAdd, Int.reduceSub, Nat.zero_add, Nat.add_zero, Nat.zero_mul, Nat.one_mul, true_and, and_true, and_self, List.all_cons, List.all_nil, Int.reduceToNat, Int.toNat_zero, Int.toNat_one, Bool.false_eq_true, Bool.true_eq_false, if_false, Nat.le_refl, eq_false h5]
end
end Go.Aug.Mc


