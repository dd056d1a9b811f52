/- ExecCalls: the law's run. -/
import Derived.Test.YtogckbgcldmaeaaMc20
import Derived.Test.YtogckbgcldmaeaaMc9
namespace Go.Aug.Mc
open Go Go.Aug
set_option linter.unusedSimpArgs false
set_option linter.unusedVariables false
set_option maxHeartbeats 40000000
set_option maxRecDepth 200000
namespace Calls
def z4 : Regs := ⟨0, 0, 0, 0⟩
def v0 : Val := ⟨false, 0⟩
def insK (k t : Int) : Ins := ⟨k, 0, 0, v0, v0, ⟨#[]⟩, t⟩
def P : Prog := ⟨2, 3, 0, z4, [], [], [insK 8 1, insK 9 0, insK 11 0, insK 11 0]⟩
def C0 (s : List Int) (pc : Int) : Conf := ⟨⟨z4, [], s, pc⟩, [], [], 0⟩
def e1 (g : Int) : Ent := ⟨1, 0, 0, -1, g, false, false, false⟩
def e0 (f : Bool) : Ent := ⟨0, 0, 0, -1, 1, true, false, f⟩
end Calls
open Calls
theorem canF (s : List Int) (g : Int) (h0 : 0 ≤ g) (h1 : g < 5) : Md.canFetch P (C0 s 1) g = true := by
  have : Md.guesses P (C0 s 1) = 5 := rfl
  simp [Md.canFetch, this]; omega
theorem canF2 (s : List Int) (g : Int) (f : Bool) (h0 : 0 ≤ g) (h1 : g < 5) : Md.canFetch P ⟨⟨z4, [], s, 1⟩, [e0 f], [], 0⟩ g = true := by
  have : Md.guesses P ⟨⟨z4, [], s, 1⟩, [e0 f], [], 0⟩ = 5 := rfl
  simp [Md.canFetch, this]; omega
theorem fet1 (s : List Int) (g : Int) (h0 : 0 ≤ g) (h1 : g < 5) : fetchC P (C0 s 1) g = ⟨⟨z4, [], s, g⟩, [e1 g], [], 0⟩ := by
  unfold fetchC; rw [canF s g h0 h1]; rfl
theorem fet2 (s : List Int) (g : Int) (h0 : 0 ≤ g) (h1 : g < 5) : fetchC P ⟨⟨z4, [], s, 1⟩, [e0 false], [], 0⟩ g = ⟨⟨z4, [], s, g⟩, [e0 false, e1 g], [], 0⟩ := by
  unfold fetchC; rw [canF2 s g false h0 h1]; rfl
/-- What comes of the return. -/
def C1 (s : List Int) (g : Int) : Conf := ⟨⟨z4, [], s, g⟩, [e1 g], [], 0⟩
def C2 (s : List Int) (g : Int) : Conf := ⟨⟨z4, [], s, g⟩, [e0 false, e1 g], [], 0⟩
def e1d (g : Int) (f : Bool) : Ent := ⟨1, 0, 0, -1, g, true, false, f⟩
theorem can1 (s : List Int) (g : Int) : Md.can 0 P (C1 s g) 0 = true := rfl
theorem can2 (s : List Int) (g : Int) : Md.can 0 P (C2 s g) 1 = true := rfl
theorem do1 (s : List Int) (g : Int) (hs : s.length ≠ 0) : doC 0 P (C1 s g) 0 = (⟨⟨z4, [], s, Md.lastI s⟩, [e1d (Md.lastI s) false], [], 0⟩, [⟨3, Md.lastI s⟩]) := by
  have h : doC 0 P (C1 s g) 0 = (if s.length = 0 then (Md.put (C1 s g) 0 (e1d g true), []) else Md.goesM (C1 s g) 0 (e1 g) (Md.lastI s)) := rfl
  rw [h, if_neg hs, Md.goesM]
  by_cases hg : g = Md.lastI s
  · rw [if_pos (show (e1 g).next = Md.lastI s from hg), ← hg]; rfl
  · rw [if_neg (show ¬ (e1 g).next = Md.lastI s from hg)]; rfl
theorem do0 (g : Int) : doC 0 P (C1 [] g) 0 = (⟨⟨z4, [], [], g⟩, [e1d g true], [], 0⟩, []) := rfl
theorem do2 (s : List Int) (g : Int) (hs : s.length < 4) : doC 0 P (C2 s g) 1 = (⟨⟨z4, [], s, 1⟩, [e0 false, e1d 1 false], [], 0⟩, [⟨3, 1⟩]) := by
  have h : doC 0 P (C2 s g) 1 = (match (if 4 ≤ s.length then none else some (s ++ [1]) : Option (List Int)) with
    | none => (Md.put (C2 s g) 1 (e1d g true), [])
    | some l => if l.length = 0 then (Md.put (C2 s g) 1 (e1d g true), []) else Md.goesM (C2 s g) 1 (e1 g) (Md.lastI l)) := rfl
  have hl : Md.lastI (s ++ [1]) = 1 := by simp [Md.lastI]
  rw [h, if_neg (by omega)]
  show (if (s ++ [1]).length = 0 then _ else _) = _
  rw [if_neg (by simp), hl, Md.goesM]
  by_cases hg : g = 1
  · rw [if_pos (show (e1 g).next = 1 from hg), hg]; rfl
  · rw [if_neg (show ¬ (e1 g).next = 1 from hg)]; rfl

theorem q_B10_augurylaw15_ExecCalls (E : Env) (call : CallT) (kn : K) (kx : Nat → K) (kr : K) (tm : List AV) (A : List Blk) : B10_augurylaw15_ExecCalls E call kn kx kr tm A = (cSeq (cSeq (cOps [st 26 (oMov (.t 9)), st 27 (oMov (.t 0)), st 28 (oLenS (.t 27)), st 29 (oBin .lss (.t 26) (.t 28)), st 30 (oMov (.t 29)), sg 31 30 true (oMov (.t 9)), sg 32 30 true (oBin .lss (.t 31) (ci 3)), st 33 (oPick (.t 30) (.t 32) (.c (.v (.bool false))))]) (cCond 1 (.t 33) (cSkip) (cExit 0))) (cSeq (cBlock 1 (cOps [st 36 (oMov (.t 8)), st 37 (oMov (.t 0)), st 38 (oMov (.t 9)), st 39 (oIxS (.t 37) (.t 38) 1), st 40 (oLoad (.t 39) false 1), st 41 (oBin .and (.t 40) (ci 3)), st 42 (oMkS (rep [zi] 1) 1 1 [(0, 1, (.t 41))]), st 43 (oApp false 1 8 (.t 36) (.t 42)), st 8 (oMov (.t 43))])) (cOps [st 34 (oMov (.t 9)), st 35 (oBin .add (.t 34) (ci 1)), st 9 (oMov (.t 35))]))) E call kn kx kr tm A := id rfl
variable {E : Env} {fn : FuncId → Option (Env → CallT → CallT)}
section
variable (S : Sur E fn)
include S
theorem raw_lawCalls (ha : E.prim 25 = some trueG) (dp : Nat) (stk : List Int) (call : Bool) (guess : Int) : evC E fn (dp + 12) 8 [.d (rowD stk), abool call, aint guess] [] = some (abool true, []) := by
  rw [evC_succ, S.f_augurylaw15_ExecCalls, apF_some, F_augurylaw15_ExecCalls, mkF_run _ _ _ _ _ _ _ _ rfl]
  have hloop : ∀ kx kr n d T A, loopK 10 B10_augurylaw15_ExecCalls (inn E 8) (evC E fn (dp + 11)) kx kr (n + 1) (mk d 169 T) A = nrmTo (B10_augurylaw15_ExecCalls (inn E 8) (evC E fn (dp + 11)) (loopK 10 B10_augurylaw15_ExecCalls (inn E 8) (evC E fn (dp + 11)) kx kr n) kx kr) 169 [0, 1, 2, 7, 8, 9] d T A (reach A 0 100000 ([0, 1, 2, 7, 8, 9].flatMap fun t => refsOf 8 (getS d T t)) []) := fun kx kr n d T A => loop_in (on S _ _ [0, 1, 2, 7, 8, 9] (by decide) rfl) rfl _ _ _ _ _ _ _ _ _ rfl
  have r4 : ∀ {α : Type} (l : List α), rep l 4 = l ++ (l ++ (l ++ l)) := fun l => by simp [rep]
  obtain ⟨r, hr, hm⟩ := mask_of guess 8 (by decide)
  simp only [Nat.reducePow, Nat.reduceSub, Int.cast_ofNat_Int] at hm hr
  have hg : Int.tmod (r : Int) 5 = ((r % 5 : Nat) : Int) := by rw [Int.tmod_eq_emod_of_nonneg (by omega)]; rfl
  have hg5 : r % 5 < 5 := Nat.mod_lt _ (by decide)
  generalize hG : ((r % 5 : Nat) : Int) = g at hg
  have g0 : 0 ≤ g := by omega
  have g5 : g < 5 := by omega
  have wz1 : IntKind.i64.wrap 0 = 0 := by decide
  have wz2 : IntKind.i64.wrap 1 = 1 := by decide
  have wz3 : IntKind.i64.wrap 2 = 2 := by decide
  have wz4 : IntKind.i64.wrap 3 = 3 := by decide
  have lim2 : (2 : Nat) * 8 ≤ limA := by decide
  have lim3 : (3 : Nat) * 8 ≤ limA := by decide
  cases stk with
  | nil =>
    have b1 : ∀ A nb, evOwnK false E (evC E fn (dp + 11)) 21 A nb (some ([stateD ⟨z4, [], ([] : List Int), 0⟩], [])) = _ := fun A nb => Says.deep (raw_auguryref9_Begin S (dp + 10) ⟨z4, [], ([] : List Int), 0⟩) (np S _ (by decide)) A nb
    have f1 : ∀ A nb, evOwnK false E (evC E fn (dp + 11)) 22 A nb (some ([progD P, confD (C0 ([] : List Int) 1), vi g], [1])) = some (.turned (.d (.tup [confD (C1 ([] : List Int) g), vb true])) (setRo A [1])) := fun A nb => by
      have := raw_auguryref9_Fetch S (dp + 8) P (C0 ([] : List Int) 1) g (by decide) (by show (0 : Nat) < _; decide) (by show (0 : Nat) < _; decide) (by show (0 : Nat) < _; decide)
      rw [fet1 ([] : List Int) g g0 g5, canF ([] : List Int) g g0 g5] at this
      exact Says.used this (np S _ (by decide)) rfl A nb 1 []
    have f0 : ∀ A nb, evOwnK false E (evC E fn (dp + 11)) 22 A nb (some ([progD P, confD (C0 ([] : List Int) 0), vi 0], [1])) = some (.turned (.d (.tup [confD ⟨⟨z4, [], ([] : List Int), 1⟩, [e0 false], [1], 0⟩, vb true])) (setRo A [1])) := fun A nb => Says.used (raw_auguryref9_Fetch S (dp + 8) P (C0 ([] : List Int) 0) 0 (by decide) (by show (0 : Nat) < _; decide) (by show (0 : Nat) < _; decide) (by show (0 : Nat) < _; decide)) (np S _ (by decide)) rfl A nb 1 []
    have f2 : ∀ A nb, evOwnK false E (evC E fn (dp + 11)) 22 A nb (some ([progD P, confD ⟨⟨z4, [], ([] : List Int), 1⟩, [e0 false], [], 0⟩, vi g], [1])) = some (.turned (.d (.tup [confD (C2 ([] : List Int) g), vb true])) (setRo A [1])) := fun A nb => by
      have := raw_auguryref9_Fetch S (dp + 8) P ⟨⟨z4, [], ([] : List Int), 1⟩, [e0 false], [], 0⟩ g (by decide) (by show (1 : Nat) < _; decide) (by show (0 : Nat) < _; decide) (by show (0 : Nat) < _; decide)
      rw [fet2 ([] : List Int) g g0 g5, canF2 ([] : List Int) g false g0 g5] at this
      exact Says.used this (np S _ (by decide)) rfl A nb 1 []
    have d1 : ∀ A nb, evOwnK false E (evC E fn (dp + 11)) 23 A nb (some ([progD P, confD (C1 [] g), vi 0], [1])) = some (.turned (.d (.tup [confD ⟨⟨z4, [], [], g⟩, [e1d g true], [], 0⟩, rowD ([] : List Obs), vb true])) (setRo A [1])) := fun A nb => by
      have := raw_exec_Do S (dp + 1) P (C1 [] g) 0 (by decide) (by show (0 : Nat) < _; decide) (by show (0 : Nat) < _; decide) (by show (1 : Nat) < _; decide) (by show (0 : Nat) < _; decide) (by show (0 : Nat) < _; decide)
      rw [show cellsI P.mems = 0 from rfl, do0 g, can1] at this
      exact Says.used this (np S _ (by decide)) rfl A nb 1 []
    have d2 : ∀ A nb, evOwnK false E (evC E fn (dp + 11)) 23 A nb (some ([progD P, confD (C2 ([] : List Int) g), vi 1], [1])) = some (.turned (.d (.tup [confD ⟨⟨z4, [], ([] : List Int), 1⟩, [e0 false, e1d 1 false], [], 0⟩, rowD ([⟨3, 1⟩] : List Obs), vb true])) (setRo A [1])) := fun A nb => by
      have := raw_exec_Do S (dp + 1) P (C2 ([] : List Int) g) 1 (by decide) (by show (0 : Nat) < _; decide) (by show (0 : Nat) < _; decide) (by show (2 : Nat) < _; decide) (by show (0 : Nat) < _; decide) (by show (1 : Nat) < _; decide)
      rw [show cellsI P.mems = 0 from rfl, do2 ([] : List Int) g (show (0 : Nat) < 4 by decide), can2] at this
      exact Says.used this (np S _ (by decide)) rfl A nb 1 []
    simp only [go_sem, Nat.reduceLT, Nat.reduceEqDiff, Nat.reduceAdd, Nat.reduceMul, Nat.reduceLeDiff, rowD, rowC, List.flatMap_cons, List.flatMap_nil, P, insK, z4, v0, C0, e0, e1, C1, C2, e1d, Int.cast_ofNat_Int] at b1 f0 f1 f2 d1 d2
    cases call with
    | false => simp only [endN_gen, go_sem, Nat.reduceLT, Nat.reduceEqDiff, Nat.reduceAdd, Nat.reduceMul, Nat.reduceLeDiff, thq S, nbr S, TH, f_reach, Bool.beq_eq_decide_eq, bne, decide_true, decide_false, Int.reduceEq, Int.reduceLT, Int.reduceLE, Int.reduceNeg, reduceCtorEq, List.mem_cons, List.not_mem_nil, or_false, false_or, or_true, true_or, Nat.not_lt_zero, Bool.true_and, Bool.false_and, Bool.and_true, Bool.and_false, Bool.or_true, Bool.or_false, Bool.true_or, Bool.false_or, off S 8 1 (by decide) rfl, off S 8 25 (by decide) rfl, off S 8 31 (by decide) rfl, off S 8 37 (by decide) rfl, off S 8 51 (by decide) rfl, off S 8 55 (by decide) rfl, hloop, q_B10_augurylaw15_ExecCalls, r4, rep1', Int.cast_ofNat_Int, b_and, hm, b_rem, ne_eq, hg, gt_iff_lt, ge_iff_le, deep_sr, c_told ha, List.length_cons, List.length_nil, Int.reduceGT, Bool.not_true, Bool.not_false, Nat.one_ne_zero, Nat.succ_ne_zero, not_false_eq_true, Int.reduceAdd, Int.reduceSub, wz1, wz2, wz3, wz4, Nat.zero_add, Nat.add_zero, Nat.zero_mul, Nat.one_mul, true_and, and_true, and_self, Nat.lt_add_one, show (1 : Nat) * 8 ≤ limA by decide, show (1 : Nat) ≤ limA by decide, List.all_cons, List.all_nil, Int.natCast_add, Int.reduceToNat, Int.toNat_zero, Int.toNat_one, Bool.false_eq_true, Bool.true_eq_false, if_false, Nat.le_refl, w_ixI, lim2, lim3, b1, f1, d1]
    | true => simp only [endN_gen, go_sem, Nat.reduceLT, Nat.reduceEqDiff, Nat.reduceAdd, Nat.reduceMul, Nat.reduceLeDiff, thq S, nbr S, TH, f_reach, Bool.beq_eq_decide_eq, bne, decide_true, decide_false, Int.reduceEq, Int.reduceLT, Int.reduceLE, Int.reduceNeg, reduceCtorEq, List.mem_cons, List.not_mem_nil, or_false, false_or, or_true, true_or, Nat.not_lt_zero, Bool.true_and, Bool.false_and, Bool.and_true, Bool.and_false, Bool.or_true, Bool.or_false, Bool.true_or, Bool.false_or, off S 8 1 (by decide) rfl, off S 8 25 (by decide) rfl, off S 8 31 (by decide) rfl, off S 8 37 (by decide) rfl, off S 8 51 (by decide) rfl, off S 8 55 (by decide) rfl, hloop, q_B10_augurylaw15_ExecCalls, r4, rep1', Int.cast_ofNat_Int, b_and, hm, b_rem, ne_eq, hg, gt_iff_lt, ge_iff_le, deep_sr, c_told ha, List.length_cons, List.length_nil, Int.reduceGT, Bool.not_true, Bool.not_false, Nat.one_ne_zero, Nat.succ_ne_zero, not_false_eq_true, Int.reduceAdd, Int.reduceSub, wz1, wz2, wz3, wz4, Nat.zero_add, Nat.add_zero, Nat.zero_mul, Nat.one_mul, true_and, and_true, and_self, Nat.lt_add_one, show (1 : Nat) * 8 ≤ limA by decide, show (1 : Nat) ≤ limA by decide, List.all_cons, List.all_nil, Int.natCast_add, Int.reduceToNat, Int.toNat_zero, Int.toNat_one, Bool.false_eq_true, Bool.true_eq_false, if_false, Nat.le_refl, w_ixI, lim2, lim3, b1, f0, f2, d2]
  | cons a stk =>
    obtain ⟨r1, q1, m1⟩ := mask_of a 2 (by decide)
    simp only [Nat.reducePow, Nat.reduceSub, Int.cast_ofNat_Int] at m1
    cases stk with
    | nil =>
      have x0 : evIxS (.d (rowD (a :: []))) (aint 0) 1 = some (.d (.vptr (Cl.cells a ++ rowC ([])))) := w_ixI (i := 0) (by decide) rfl .i64 1 rfl
      have y0 : evLenS (.d (rowD (a :: []))) = some (aint 1) := rfl
      have b1 : ∀ A nb, evOwnK false E (evC E fn (dp + 11)) 21 A nb (some ([stateD ⟨z4, [], [(r1 : Int)], 0⟩], [1])) = some (.turned (.d (confD ⟨⟨z4, [], [(r1 : Int)], 0⟩, [], [], 0⟩)) (setRo A [1])) := fun A nb => Says.used (raw_auguryref9_Begin S (dp + 10) ⟨z4, [], [(r1 : Int)], 0⟩) (np S _ (by decide)) rfl A nb 1 []
      have f1 : ∀ A nb, evOwnK false E (evC E fn (dp + 11)) 22 A nb (some ([progD P, confD (C0 [(r1 : Int)] 1), vi g], [2])) = some (.turned (.d (.tup [confD (C1 [(r1 : Int)] g), vb true])) (setRo A [2])) := fun A nb => by
        have := raw_auguryref9_Fetch S (dp + 8) P (C0 [(r1 : Int)] 1) g (by decide) (by show (0 : Nat) < _; decide) (by show (1 : Nat) < _; decide) (by show (0 : Nat) < _; decide)
        rw [fet1 [(r1 : Int)] g g0 g5, canF [(r1 : Int)] g g0 g5] at this
        exact Says.used this (np S _ (by decide)) rfl A nb 2 []
      have f0 : ∀ A nb, evOwnK false E (evC E fn (dp + 11)) 22 A nb (some ([progD P, confD (C0 [(r1 : Int)] 0), vi 0], [2])) = some (.turned (.d (.tup [confD ⟨⟨z4, [], [(r1 : Int)], 1⟩, [e0 false], [1], 0⟩, vb true])) (setRo A [2])) := fun A nb => Says.used (raw_auguryref9_Fetch S (dp + 8) P (C0 [(r1 : Int)] 0) 0 (by decide) (by show (0 : Nat) < _; decide) (by show (1 : Nat) < _; decide) (by show (0 : Nat) < _; decide)) (np S _ (by decide)) rfl A nb 2 []
      have f2 : ∀ A nb, evOwnK false E (evC E fn (dp + 11)) 22 A nb (some ([progD P, confD ⟨⟨z4, [], [(r1 : Int)], 1⟩, [e0 false], [], 0⟩, vi g], [2])) = some (.turned (.d (.tup [confD (C2 [(r1 : Int)] g), vb true])) (setRo A [2])) := fun A nb => by
        have := raw_auguryref9_Fetch S (dp + 8) P ⟨⟨z4, [], [(r1 : Int)], 1⟩, [e0 false], [], 0⟩ g (by decide) (by show (1 : Nat) < _; decide) (by show (1 : Nat) < _; decide) (by show (0 : Nat) < _; decide)
        rw [fet2 [(r1 : Int)] g g0 g5, canF2 [(r1 : Int)] g false g0 g5] at this
        exact Says.used this (np S _ (by decide)) rfl A nb 2 []
      have d1 : ∀ A nb, evOwnK false E (evC E fn (dp + 11)) 23 A nb (some ([progD P, confD (C1 [(r1 : Int)] g), vi 0], [2])) = some (.turned (.d (.tup [confD ⟨⟨z4, [], [(r1 : Int)], (r1 : Int)⟩, [e1d (r1 : Int) false], [], 0⟩, rowD ([⟨3, (r1 : Int)⟩] : List Obs), vb true])) (setRo A [2])) := fun A nb => by
        have := raw_exec_Do S (dp + 1) P (C1 [(r1 : Int)] g) 0 (by decide) (by show (0 : Nat) < _; decide) (by show (1 : Nat) < _; decide) (by show (1 : Nat) < _; decide) (by show (0 : Nat) < _; decide) (by show (1 : Nat) < _; decide)
        rw [show cellsI P.mems = 0 from rfl, do1 [(r1 : Int)] g (Nat.succ_ne_zero _), can1] at this
        exact Says.used this (np S _ (by decide)) rfl A nb 2 []
      have d2 : ∀ A nb, evOwnK false E (evC E fn (dp + 11)) 23 A nb (some ([progD P, confD (C2 [(r1 : Int)] g), vi 1], [2])) = some (.turned (.d (.tup [confD ⟨⟨z4, [], [(r1 : Int)], 1⟩, [e0 false, e1d 1 false], [], 0⟩, rowD ([⟨3, 1⟩] : List Obs), vb true])) (setRo A [2])) := fun A nb => by
        have := raw_exec_Do S (dp + 1) P (C2 [(r1 : Int)] g) 1 (by decide) (by show (0 : Nat) < _; decide) (by show (1 : Nat) < _; decide) (by show (2 : Nat) < _; decide) (by show (0 : Nat) < _; decide) (by show (2 : Nat) < _; decide)
        rw [show cellsI P.mems = 0 from rfl, do2 [(r1 : Int)] g (show (1 : Nat) < 4 by decide), can2] at this
        exact Says.used this (np S _ (by decide)) rfl A nb 2 []
      simp only [go_sem, Nat.reduceLT, Nat.reduceEqDiff, Nat.reduceAdd, Nat.reduceMul, Nat.reduceLeDiff, rowD, rowC, List.flatMap_cons, List.flatMap_nil, P, insK, z4, v0, C0, e0, e1, C1, C2, e1d, Int.cast_ofNat_Int] at b1 f0 f1 f2 d1 d2
      cases call with
      | false => simp only [endN_gen, go_sem, Nat.reduceLT, Nat.reduceEqDiff, Nat.reduceAdd, Nat.reduceMul, Nat.reduceLeDiff, thq S, nbr S, TH, f_reach, Bool.beq_eq_decide_eq, bne, decide_true, decide_false, Int.reduceEq, Int.reduceLT, Int.reduceLE, Int.reduceNeg, reduceCtorEq, List.mem_cons, List.not_mem_nil, or_false, false_or, or_true, true_or, Nat.not_lt_zero, Bool.true_and, Bool.false_and, Bool.and_true, Bool.and_false, Bool.or_true, Bool.or_false, Bool.true_or, Bool.false_or, off S 8 1 (by decide) rfl, off S 8 25 (by decide) rfl, off S 8 31 (by decide) rfl, off S 8 37 (by decide) rfl, off S 8 51 (by decide) rfl, off S 8 55 (by decide) rfl, hloop, q_B10_augurylaw15_ExecCalls, r4, rep1', Int.cast_ofNat_Int, b_and, hm, m1, b_rem, ne_eq, hg, gt_iff_lt, ge_iff_le, deep_sr, c_told ha, y0, x0, List.length_cons, List.length_nil, Int.reduceGT, Bool.not_true, Bool.not_false, Nat.one_ne_zero, Nat.succ_ne_zero, not_false_eq_true, Int.reduceAdd, Int.reduceSub, wz1, wz2, wz3, wz4, Nat.zero_add, Nat.add_zero, Nat.zero_mul, Nat.one_mul, true_and, and_true, and_self, Nat.lt_add_one, show (1 : Nat) * 8 ≤ limA by decide, show (1 : Nat) ≤ limA by decide, List.all_cons, List.all_nil, Int.natCast_add, Int.reduceToNat, Int.toNat_zero, Int.toNat_one, Bool.false_eq_true, Bool.true_eq_false, if_false, Nat.le_refl, w_ixI, lim2, lim3, b1, f1, d1]
      | true => simp only [endN_gen, go_sem, Nat.reduceLT, Nat.reduceEqDiff, Nat.reduceAdd, Nat.reduceMul, Nat.reduceLeDiff, thq S, nbr S, TH, f_reach, Bool.beq_eq_decide_eq, bne, decide_true, decide_false, Int.reduceEq, Int.reduceLT, Int.reduceLE, Int.reduceNeg, reduceCtorEq, List.mem_cons, List.not_mem_nil, or_false, false_or, or_true, true_or, Nat.not_lt_zero, Bool.true_and, Bool.false_and, Bool.and_true, Bool.and_false, Bool.or_true, Bool.or_false, Bool.true_or, Bool.false_or, off S 8 1 (by decide) rfl, off S 8 25 (by decide) rfl, off S 8 31 (by decide) rfl, off S 8 37 (by decide) rfl, off S 8 51 (by decide) rfl, off S 8 55 (by decide) rfl, hloop, q_B10_augurylaw15_ExecCalls, r4, rep1', Int.cast_ofNat_Int, b_and, hm, m1, b_rem, ne_eq, hg, gt_iff_lt, ge_iff_le, deep_sr, c_told ha, y0, x0, List.length_cons, List.length_nil, Int.reduceGT, Bool.not_true, Bool.not_false, Nat.one_ne_zero, Nat.succ_ne_zero, not_false_eq_true, Int.reduceAdd, Int.reduceSub, wz1, wz2, wz3, wz4, Nat.zero_add, Nat.add_zero, Nat.zero_mul, Nat.one_mul, true_and, and_true, and_self, Nat.lt_add_one, show (1 : Nat) * 8 ≤ limA by decide, show (1 : Nat) ≤ limA by decide, List.all_cons, List.all_nil, Int.natCast_add, Int.reduceToNat, Int.toNat_zero, Int.toNat_one, Bool.false_eq_true, Bool.true_eq_false, if_false, Nat.le_refl, w_ixI, lim2, lim3, b1, f0, f2, d2]
    | cons b stk =>
      obtain ⟨r2, q2, m2⟩ := mask_of b 2 (by decide)
      simp only [Nat.reducePow, Nat.reduceSub, Int.cast_ofNat_Int] at m2
      cases stk with
      | nil =>
        have x0 : evIxS (.d (rowD (a :: b :: []))) (aint 0) 1 = some (.d (.vptr (Cl.cells a ++ rowC (b :: [])))) := w_ixI (i := 0) (by decide) rfl .i64 1 rfl
        have x1 : evIxS (.d (rowD (a :: b :: []))) (aint 1) 1 = some (.d (.vptr (Cl.cells b ++ rowC ([])))) := w_ixI (i := 1) (by decide) rfl .i64 1 rfl
        have y0 : evLenS (.d (rowD (a :: b :: []))) = some (aint 2) := rfl
        have ap2 : ∀ A : List Blk, A[1]? = some (.cells [aint r1] 0 false) → ∀ x : Int, evApp A 1 8 (.sref 1 0 0 1 1 none) [aint x] 1 = some (.turn 1 (.cells [aint r1, aint x] 1 false) (.sref 1 1 0 2 1 none)) := fun A h x => app_endI (out := [(r1 : Int)]) h (by show (2 : Nat) * 8 ≤ limA; decide) (by show (2 : Nat) ≤ limA; decide)
        have b1 : ∀ A nb, evOwnK false E (evC E fn (dp + 11)) 21 A nb (some ([stateD ⟨z4, [], [(r1 : Int), (r2 : Int)], 0⟩], [1])) = some (.turned (.d (confD ⟨⟨z4, [], [(r1 : Int), (r2 : Int)], 0⟩, [], [], 0⟩)) (setRo A [1])) := fun A nb => Says.used (raw_auguryref9_Begin S (dp + 10) ⟨z4, [], [(r1 : Int), (r2 : Int)], 0⟩) (np S _ (by decide)) rfl A nb 1 []
        have f1 : ∀ A nb, evOwnK false E (evC E fn (dp + 11)) 22 A nb (some ([progD P, confD (C0 [(r1 : Int), (r2 : Int)] 1), vi g], [2])) = some (.turned (.d (.tup [confD (C1 [(r1 : Int), (r2 : Int)] g), vb true])) (setRo A [2])) := fun A nb => by
          have := raw_auguryref9_Fetch S (dp + 8) P (C0 [(r1 : Int), (r2 : Int)] 1) g (by decide) (by show (0 : Nat) < _; decide) (by show (2 : Nat) < _; decide) (by show (0 : Nat) < _; decide)
          rw [fet1 [(r1 : Int), (r2 : Int)] g g0 g5, canF [(r1 : Int), (r2 : Int)] g g0 g5] at this
          exact Says.used this (np S _ (by decide)) rfl A nb 2 []
        have f0 : ∀ A nb, evOwnK false E (evC E fn (dp + 11)) 22 A nb (some ([progD P, confD (C0 [(r1 : Int), (r2 : Int)] 0), vi 0], [2])) = some (.turned (.d (.tup [confD ⟨⟨z4, [], [(r1 : Int), (r2 : Int)], 1⟩, [e0 false], [1], 0⟩, vb true])) (setRo A [2])) := fun A nb => Says.used (raw_auguryref9_Fetch S (dp + 8) P (C0 [(r1 : Int), (r2 : Int)] 0) 0 (by decide) (by show (0 : Nat) < _; decide) (by show (2 : Nat) < _; decide) (by show (0 : Nat) < _; decide)) (np S _ (by decide)) rfl A nb 2 []
        have f2 : ∀ A nb, evOwnK false E (evC E fn (dp + 11)) 22 A nb (some ([progD P, confD ⟨⟨z4, [], [(r1 : Int), (r2 : Int)], 1⟩, [e0 false], [], 0⟩, vi g], [2])) = some (.turned (.d (.tup [confD (C2 [(r1 : Int), (r2 : Int)] g), vb true])) (setRo A [2])) := fun A nb => by
          have := raw_auguryref9_Fetch S (dp + 8) P ⟨⟨z4, [], [(r1 : Int), (r2 : Int)], 1⟩, [e0 false], [], 0⟩ g (by decide) (by show (1 : Nat) < _; decide) (by show (2 : Nat) < _; decide) (by show (0 : Nat) < _; decide)
          rw [fet2 [(r1 : Int), (r2 : Int)] g g0 g5, canF2 [(r1 : Int), (r2 : Int)] g false g0 g5] at this
          exact Says.used this (np S _ (by decide)) rfl A nb 2 []
        have d1 : ∀ A nb, evOwnK false E (evC E fn (dp + 11)) 23 A nb (some ([progD P, confD (C1 [(r1 : Int), (r2 : Int)] g), vi 0], [2])) = some (.turned (.d (.tup [confD ⟨⟨z4, [], [(r1 : Int), (r2 : Int)], (r2 : Int)⟩, [e1d (r2 : Int) false], [], 0⟩, rowD ([⟨3, (r2 : Int)⟩] : List Obs), vb true])) (setRo A [2])) := fun A nb => by
          have := raw_exec_Do S (dp + 1) P (C1 [(r1 : Int), (r2 : Int)] g) 0 (by decide) (by show (0 : Nat) < _; decide) (by show (2 : Nat) < _; decide) (by show (1 : Nat) < _; decide) (by show (0 : Nat) < _; decide) (by show (2 : Nat) < _; decide)
          rw [show cellsI P.mems = 0 from rfl, do1 [(r1 : Int), (r2 : Int)] g (Nat.succ_ne_zero _), can1] at this
          exact Says.used this (np S _ (by decide)) rfl A nb 2 []
        have d2 : ∀ A nb, evOwnK false E (evC E fn (dp + 11)) 23 A nb (some ([progD P, confD (C2 [(r1 : Int), (r2 : Int)] g), vi 1], [2])) = some (.turned (.d (.tup [confD ⟨⟨z4, [], [(r1 : Int), (r2 : Int)], 1⟩, [e0 false, e1d 1 false], [], 0⟩, rowD ([⟨3, 1⟩] : List Obs), vb true])) (setRo A [2])) := fun A nb => by
          have := raw_exec_Do S (dp + 1) P (C2 [(r1 : Int), (r2 : Int)] g) 1 (by decide) (by show (0 : Nat) < _; decide) (by show (2 : Nat) < _; decide) (by show (2 : Nat) < _; decide) (by show (0 : Nat) < _; decide) (by show (3 : Nat) < _; decide)
          rw [show cellsI P.mems = 0 from rfl, do2 [(r1 : Int), (r2 : Int)] g (show (2 : Nat) < 4 by decide), can2] at this
          exact Says.used this (np S _ (by decide)) rfl A nb 2 []
        simp only [go_sem, Nat.reduceLT, Nat.reduceEqDiff, Nat.reduceAdd, Nat.reduceMul, Nat.reduceLeDiff, rowD, rowC, List.flatMap_cons, List.flatMap_nil, P, insK, z4, v0, C0, e0, e1, C1, C2, e1d, Int.cast_ofNat_Int] at b1 f0 f1 f2 d1 d2
        cases call with
        | false => simp only [endN_gen, go_sem, Nat.reduceLT, Nat.reduceEqDiff, Nat.reduceAdd, Nat.reduceMul, Nat.reduceLeDiff, thq S, nbr S, TH, f_reach, Bool.beq_eq_decide_eq, bne, decide_true, decide_false, Int.reduceEq, Int.reduceLT, Int.reduceLE, Int.reduceNeg, reduceCtorEq, List.mem_cons, List.not_mem_nil, or_false, false_or, or_true, true_or, Nat.not_lt_zero, Bool.true_and, Bool.false_and, Bool.and_true, Bool.and_false, Bool.or_true, Bool.or_false, Bool.true_or, Bool.false_or, off S 8 1 (by decide) rfl, off S 8 25 (by decide) rfl, off S 8 31 (by decide) rfl, off S 8 37 (by decide) rfl, off S 8 51 (by decide) rfl, off S 8 55 (by decide) rfl, hloop, q_B10_augurylaw15_ExecCalls, r4, rep1', Int.cast_ofNat_Int, b_and, hm, m1, m2, b_rem, ne_eq, hg, gt_iff_lt, ge_iff_le, deep_sr, c_told ha, y0, x0, x1, ap2, List.length_cons, List.length_nil, Int.reduceGT, Bool.not_true, Bool.not_false, Nat.one_ne_zero, Nat.succ_ne_zero, not_false_eq_true, Int.reduceAdd, Int.reduceSub, wz1, wz2, wz3, wz4, Nat.zero_add, Nat.add_zero, Nat.zero_mul, Nat.one_mul, true_and, and_true, and_self, Nat.lt_add_one, show (1 : Nat) * 8 ≤ limA by decide, show (1 : Nat) ≤ limA by decide, List.all_cons, List.all_nil, Int.natCast_add, Int.reduceToNat, Int.toNat_zero, Int.toNat_one, Bool.false_eq_true, Bool.true_eq_false, if_false, Nat.le_refl, w_ixI, lim2, lim3, b1, f1, d1]
        | true => simp only [endN_gen, go_sem, Nat.reduceLT, Nat.reduceEqDiff, Nat.reduceAdd, Nat.reduceMul, Nat.reduceLeDiff, thq S, nbr S, TH, f_reach, Bool.beq_eq_decide_eq, bne, decide_true, decide_false, Int.reduceEq, Int.reduceLT, Int.reduceLE, Int.reduceNeg, reduceCtorEq, List.mem_cons, List.not_mem_nil, or_false, false_or, or_true, true_or, Nat.not_lt_zero, Bool.true_and, Bool.false_and, Bool.and_true, Bool.and_false, Bool.or_true, Bool.or_false, Bool.true_or, Bool.false_or, off S 8 1 (by decide) rfl, off S 8 25 (by decide) rfl, off S 8 31 (by decide) rfl, off S 8 37 (by decide) rfl, off S 8 51 (by decide) rfl, off S 8 55 (by decide) rfl, hloop, q_B10_augurylaw15_ExecCalls, r4, rep1', Int.cast_ofNat_Int, b_and, hm, m1, m2, b_rem, ne_eq, hg, gt_iff_lt, ge_iff_le, deep_sr, c_told ha, y0, x0, x1, ap2, List.length_cons, List.length_nil, Int.reduceGT, Bool.not_true, Bool.not_false, Nat.one_ne_zero, Nat.succ_ne_zero, not_false_eq_true, Int.reduceAdd, Int.reduceSub, wz1, wz2, wz3, wz4, Nat.zero_add, Nat.add_zero, Nat.zero_mul, Nat.one_mul, true_and, and_true, and_self, Nat.lt_add_one, show (1 : Nat) * 8 ≤ limA by decide, show (1 : Nat) ≤ limA by decide, List.all_cons, List.all_nil, Int.natCast_add, Int.reduceToNat, Int.toNat_zero, Int.toNat_one, Bool.false_eq_true, Bool.true_eq_false, if_false, Nat.le_refl, w_ixI, lim2, lim3, b1, f0, f2, d2]
      | cons c stk =>
        obtain ⟨r3, q3, m3⟩ := mask_of c 2 (by decide)
        simp only [Nat.reducePow, Nat.reduceSub, Int.cast_ofNat_Int] at m3
        cases stk with
        | nil =>
          have x0 : evIxS (.d (rowD (a :: b :: c :: []))) (aint 0) 1 = some (.d (.vptr (Cl.cells a ++ rowC (b :: c :: [])))) := w_ixI (i := 0) (by decide) rfl .i64 1 rfl
          have x1 : evIxS (.d (rowD (a :: b :: c :: []))) (aint 1) 1 = some (.d (.vptr (Cl.cells b ++ rowC (c :: [])))) := w_ixI (i := 1) (by decide) rfl .i64 1 rfl
          have x2 : evIxS (.d (rowD (a :: b :: c :: []))) (aint 2) 1 = some (.d (.vptr (Cl.cells c ++ rowC ([])))) := w_ixI (i := 2) (by decide) rfl .i64 1 rfl
          have y0 : evLenS (.d (rowD (a :: b :: c :: []))) = some (aint 3) := rfl
          have ap2 : ∀ A : List Blk, A[1]? = some (.cells [aint r1] 0 false) → ∀ x : Int, evApp A 1 8 (.sref 1 0 0 1 1 none) [aint x] 1 = some (.turn 1 (.cells [aint r1, aint x] 1 false) (.sref 1 1 0 2 1 none)) := fun A h x => app_endI (out := [(r1 : Int)]) h (by show (2 : Nat) * 8 ≤ limA; decide) (by show (2 : Nat) ≤ limA; decide)
          have ap3 : ∀ A : List Blk, A[1]? = some (.cells [aint r1, aint r2] 0 false) → ∀ x : Int, evApp A 1 8 (.sref 1 0 0 2 1 none) [aint x] 1 = some (.turn 1 (.cells [aint r1, aint r2, aint x] 1 false) (.sref 1 1 0 3 1 none)) := fun A h x => app_endI (out := [(r1 : Int), (r2 : Int)]) h (by show (3 : Nat) * 8 ≤ limA; decide) (by show (3 : Nat) ≤ limA; decide)
          have b1 : ∀ A nb, evOwnK false E (evC E fn (dp + 11)) 21 A nb (some ([stateD ⟨z4, [], [(r1 : Int), (r2 : Int), (r3 : Int)], 0⟩], [1])) = some (.turned (.d (confD ⟨⟨z4, [], [(r1 : Int), (r2 : Int), (r3 : Int)], 0⟩, [], [], 0⟩)) (setRo A [1])) := fun A nb => Says.used (raw_auguryref9_Begin S (dp + 10) ⟨z4, [], [(r1 : Int), (r2 : Int), (r3 : Int)], 0⟩) (np S _ (by decide)) rfl A nb 1 []
          have f1 : ∀ A nb, evOwnK false E (evC E fn (dp + 11)) 22 A nb (some ([progD P, confD (C0 [(r1 : Int), (r2 : Int), (r3 : Int)] 1), vi g], [2])) = some (.turned (.d (.tup [confD (C1 [(r1 : Int), (r2 : Int), (r3 : Int)] g), vb true])) (setRo A [2])) := fun A nb => by
            have := raw_auguryref9_Fetch S (dp + 8) P (C0 [(r1 : Int), (r2 : Int), (r3 : Int)] 1) g (by decide) (by show (0 : Nat) < _; decide) (by show (3 : Nat) < _; decide) (by show (0 : Nat) < _; decide)
            rw [fet1 [(r1 : Int), (r2 : Int), (r3 : Int)] g g0 g5, canF [(r1 : Int), (r2 : Int), (r3 : Int)] g g0 g5] at this
            exact Says.used this (np S _ (by decide)) rfl A nb 2 []
          have f0 : ∀ A nb, evOwnK false E (evC E fn (dp + 11)) 22 A nb (some ([progD P, confD (C0 [(r1 : Int), (r2 : Int), (r3 : Int)] 0), vi 0], [2])) = some (.turned (.d (.tup [confD ⟨⟨z4, [], [(r1 : Int), (r2 : Int), (r3 : Int)], 1⟩, [e0 false], [1], 0⟩, vb true])) (setRo A [2])) := fun A nb => Says.used (raw_auguryref9_Fetch S (dp + 8) P (C0 [(r1 : Int), (r2 : Int), (r3 : Int)] 0) 0 (by decide) (by show (0 : Nat) < _; decide) (by show (3 : Nat) < _; decide) (by show (0 : Nat) < _; decide)) (np S _ (by decide)) rfl A nb 2 []
          have f2 : ∀ A nb, evOwnK false E (evC E fn (dp + 11)) 22 A nb (some ([progD P, confD ⟨⟨z4, [], [(r1 : Int), (r2 : Int), (r3 : Int)], 1⟩, [e0 false], [], 0⟩, vi g], [2])) = some (.turned (.d (.tup [confD (C2 [(r1 : Int), (r2 : Int), (r3 : Int)] g), vb true])) (setRo A [2])) := fun A nb => by
            have := raw_auguryref9_Fetch S (dp + 8) P ⟨⟨z4, [], [(r1 : Int), (r2 : Int), (r3 : Int)], 1⟩, [e0 false], [], 0⟩ g (by decide) (by show (1 : Nat) < _; decide) (by show (3 : Nat) < _; decide) (by show (0 : Nat) < _; decide)
            rw [fet2 [(r1 : Int), (r2 : Int), (r3 : Int)] g g0 g5, canF2 [(r1 : Int), (r2 : Int), (r3 : Int)] g false g0 g5] at this
            exact Says.used this (np S _ (by decide)) rfl A nb 2 []
          have d1 : ∀ A nb, evOwnK false E (evC E fn (dp + 11)) 23 A nb (some ([progD P, confD (C1 [(r1 : Int), (r2 : Int), (r3 : Int)] g), vi 0], [2])) = some (.turned (.d (.tup [confD ⟨⟨z4, [], [(r1 : Int), (r2 : Int), (r3 : Int)], (r3 : Int)⟩, [e1d (r3 : Int) false], [], 0⟩, rowD ([⟨3, (r3 : Int)⟩] : List Obs), vb true])) (setRo A [2])) := fun A nb => by
            have := raw_exec_Do S (dp + 1) P (C1 [(r1 : Int), (r2 : Int), (r3 : Int)] g) 0 (by decide) (by show (0 : Nat) < _; decide) (by show (3 : Nat) < _; decide) (by show (1 : Nat) < _; decide) (by show (0 : Nat) < _; decide) (by show (3 : Nat) < _; decide)
            rw [show cellsI P.mems = 0 from rfl, do1 [(r1 : Int), (r2 : Int), (r3 : Int)] g (Nat.succ_ne_zero _), can1] at this
            exact Says.used this (np S _ (by decide)) rfl A nb 2 []
          have d2 : ∀ A nb, evOwnK false E (evC E fn (dp + 11)) 23 A nb (some ([progD P, confD (C2 [(r1 : Int), (r2 : Int), (r3 : Int)] g), vi 1], [2])) = some (.turned (.d (.tup [confD ⟨⟨z4, [], [(r1 : Int), (r2 : Int), (r3 : Int)], 1⟩, [e0 false, e1d 1 false], [], 0⟩, rowD ([⟨3, 1⟩] : List Obs), vb true])) (setRo A [2])) := fun A nb => by
            have := raw_exec_Do S (dp + 1) P (C2 [(r1 : Int), (r2 : Int), (r3 : Int)] g) 1 (by decide) (by show (0 : Nat) < _; decide) (by show (3 : Nat) < _; decide) (by show (2 : Nat) < _; decide) (by show (0 : Nat) < _; decide) (by show (4 : Nat) < _; decide)
            rw [show cellsI P.mems = 0 from rfl, do2 [(r1 : Int), (r2 : Int), (r3 : Int)] g (show (3 : Nat) < 4 by decide), can2] at this
            exact Says.used this (np S _ (by decide)) rfl A nb 2 []
          simp only [go_sem, Nat.reduceLT, Nat.reduceEqDiff, Nat.reduceAdd, Nat.reduceMul, Nat.reduceLeDiff, rowD, rowC, List.flatMap_cons, List.flatMap_nil, P, insK, z4, v0, C0, e0, e1, C1, C2, e1d, Int.cast_ofNat_Int] at b1 f0 f1 f2 d1 d2
          cases call with
          | false => simp only [endN_gen, go_sem, Nat.reduceLT, Nat.reduceEqDiff, Nat.reduceAdd, Nat.reduceMul, Nat.reduceLeDiff, thq S, nbr S, TH, f_reach, Bool.beq_eq_decide_eq, bne, decide_true, decide_false, Int.reduceEq, Int.reduceLT, Int.reduceLE, Int.reduceNeg, reduceCtorEq, List.mem_cons, List.not_mem_nil, or_false, false_or, or_true, true_or, Nat.not_lt_zero, Bool.true_and, Bool.false_and, Bool.and_true, Bool.and_false, Bool.or_true, Bool.or_false, Bool.true_or, Bool.false_or, off S 8 1 (by decide) rfl, off S 8 25 (by decide) rfl, off S 8 31 (by decide) rfl, off S 8 37 (by decide) rfl, off S 8 51 (by decide) rfl, off S 8 55 (by decide) rfl, hloop, q_B10_augurylaw15_ExecCalls, r4, rep1', Int.cast_ofNat_Int, b_and, hm, m1, m2, m3, b_rem, ne_eq, hg, gt_iff_lt, ge_iff_le, deep_sr, c_told ha, y0, x0, x1, x2, ap2, ap3, List.length_cons, List.length_nil, Int.reduceGT, Bool.not_true, Bool.not_false, Nat.one_ne_zero, Nat.succ_ne_zero, not_false_eq_true, Int.reduceAdd, Int.reduceSub, wz1, wz2, wz3, wz4, Nat.zero_add, Nat.add_zero, Nat.zero_mul, Nat.one_mul, true_and, and_true, and_self, Nat.lt_add_one, show (1 : Nat) * 8 ≤ limA by decide, show (1 : Nat) ≤ limA by decide, List.all_cons, List.all_nil, Int.natCast_add, Int.reduceToNat, Int.toNat_zero, Int.toNat_one, Bool.false_eq_true, Bool.true_eq_false, if_false, Nat.le_refl, w_ixI, lim2, lim3, b1, f1, d1]
          | true => simp only [endN_gen, go_sem, Nat.reduceLT, Nat.reduceEqDiff, Nat.reduceAdd, Nat.reduceMul, Nat.reduceLeDiff, thq S, nbr S, TH, f_reach, Bool.beq_eq_decide_eq, bne, decide_true, decide_false, Int.reduceEq, Int.reduceLT, Int.reduceLE, Int.reduceNeg, reduceCtorEq, List.mem_cons, List.not_mem_nil, or_false, false_or, or_true, true_or, Nat.not_lt_zero, Bool.true_and, Bool.false_and, Bool.and_true, Bool.and_false, Bool.or_true, Bool.or_false, Bool.true_or, Bool.false_or, off S 8 1 (by decide) rfl, off S 8 25 (by decide) rfl, off S 8 31 (by decide) rfl, off S 8 37 (by decide) rfl, off S 8 51 (by decide) rfl, off S 8 55 (by decide) rfl, hloop, q_B10_augurylaw15_ExecCalls, r4, rep1', Int.cast_ofNat_Int, b_and, hm, m1, m2, m3, b_rem, ne_eq, hg, gt_iff_lt, ge_iff_le, deep_sr, c_told ha, y0, x0, x1, x2, ap2, ap3, List.length_cons, List.length_nil, Int.reduceGT, Bool.not_true, Bool.not_false, Nat.one_ne_zero, Nat.succ_ne_zero, not_false_eq_true, Int.reduceAdd, Int.reduceSub, wz1, wz2, wz3, wz4, Nat.zero_add, Nat.add_zero, Nat.zero_mul, Nat.one_mul, true_and, and_true, and_self, Nat.lt_add_one, show (1 : Nat) * 8 ≤ limA by decide, show (1 : Nat) ≤ limA by decide, List.all_cons, List.all_nil, Int.natCast_add, Int.reduceToNat, Int.toNat_zero, Int.toNat_one, Bool.false_eq_true, Bool.true_eq_false, if_false, Nat.le_refl, w_ixI, lim2, lim3, b1, f0, f2, d2]
        | cons d rest =>
          have x0 : evIxS (.d (rowD (a :: b :: c :: (d :: rest)))) (aint 0) 1 = some (.d (.vptr (Cl.cells a ++ rowC (b :: c :: (d :: rest))))) := w_ixI (i := 0) (by decide) rfl .i64 1 rfl
          have x1 : evIxS (.d (rowD (a :: b :: c :: (d :: rest)))) (aint 1) 1 = some (.d (.vptr (Cl.cells b ++ rowC (c :: (d :: rest))))) := w_ixI (i := 1) (by decide) rfl .i64 1 rfl
          have x2 : evIxS (.d (rowD (a :: b :: c :: (d :: rest)))) (aint 2) 1 = some (.d (.vptr (Cl.cells c ++ rowC ((d :: rest))))) := w_ixI (i := 2) (by decide) rfl .i64 1 rfl
          have y0 : evLenS (.d (rowD (a :: b :: c :: (d :: rest)))) = some (aint ((rest.length : Int) + 4)) := congrArg (fun q => some (aint q)) (by simp only [List.length_cons]; omega)
          have lt0 : decide ((0 : Int) < (rest.length : Int) + 4) = true := decide_eq_true (by omega)
          have lt1 : decide ((1 : Int) < (rest.length : Int) + 4) = true := decide_eq_true (by omega)
          have lt2 : decide ((2 : Int) < (rest.length : Int) + 4) = true := decide_eq_true (by omega)
          have lt3 : decide ((3 : Int) < (rest.length : Int) + 4) = true := decide_eq_true (by omega)
          have ap2 : ∀ A : List Blk, A[1]? = some (.cells [aint r1] 0 false) → ∀ x : Int, evApp A 1 8 (.sref 1 0 0 1 1 none) [aint x] 1 = some (.turn 1 (.cells [aint r1, aint x] 1 false) (.sref 1 1 0 2 1 none)) := fun A h x => app_endI (out := [(r1 : Int)]) h (by show (2 : Nat) * 8 ≤ limA; decide) (by show (2 : Nat) ≤ limA; decide)
          have ap3 : ∀ A : List Blk, A[1]? = some (.cells [aint r1, aint r2] 0 false) → ∀ x : Int, evApp A 1 8 (.sref 1 0 0 2 1 none) [aint x] 1 = some (.turn 1 (.cells [aint r1, aint r2, aint x] 1 false) (.sref 1 1 0 3 1 none)) := fun A h x => app_endI (out := [(r1 : Int), (r2 : Int)]) h (by show (3 : Nat) * 8 ≤ limA; decide) (by show (3 : Nat) ≤ limA; decide)
          have b1 : ∀ A nb, evOwnK false E (evC E fn (dp + 11)) 21 A nb (some ([stateD ⟨z4, [], [(r1 : Int), (r2 : Int), (r3 : Int)], 0⟩], [1])) = some (.turned (.d (confD ⟨⟨z4, [], [(r1 : Int), (r2 : Int), (r3 : Int)], 0⟩, [], [], 0⟩)) (setRo A [1])) := fun A nb => Says.used (raw_auguryref9_Begin S (dp + 10) ⟨z4, [], [(r1 : Int), (r2 : Int), (r3 : Int)], 0⟩) (np S _ (by decide)) rfl A nb 1 []
          have f1 : ∀ A nb, evOwnK false E (evC E fn (dp + 11)) 22 A nb (some ([progD P, confD (C0 [(r1 : Int), (r2 : Int), (r3 : Int)] 1), vi g], [2])) = some (.turned (.d (.tup [confD (C1 [(r1 : Int), (r2 : Int), (r3 : Int)] g), vb true])) (setRo A [2])) := fun A nb => by
            have := raw_auguryref9_Fetch S (dp + 8) P (C0 [(r1 : Int), (r2 : Int), (r3 : Int)] 1) g (by decide) (by show (0 : Nat) < _; decide) (by show (3 : Nat) < _; decide) (by show (0 : Nat) < _; decide)
            rw [fet1 [(r1 : Int), (r2 : Int), (r3 : Int)] g g0 g5, canF [(r1 : Int), (r2 : Int), (r3 : Int)] g g0 g5] at this
            exact Says.used this (np S _ (by decide)) rfl A nb 2 []
          have f0 : ∀ A nb, evOwnK false E (evC E fn (dp + 11)) 22 A nb (some ([progD P, confD (C0 [(r1 : Int), (r2 : Int), (r3 : Int)] 0), vi 0], [2])) = some (.turned (.d (.tup [confD ⟨⟨z4, [], [(r1 : Int), (r2 : Int), (r3 : Int)], 1⟩, [e0 false], [1], 0⟩, vb true])) (setRo A [2])) := fun A nb => Says.used (raw_auguryref9_Fetch S (dp + 8) P (C0 [(r1 : Int), (r2 : Int), (r3 : Int)] 0) 0 (by decide) (by show (0 : Nat) < _; decide) (by show (3 : Nat) < _; decide) (by show (0 : Nat) < _; decide)) (np S _ (by decide)) rfl A nb 2 []
          have f2 : ∀ A nb, evOwnK false E (evC E fn (dp + 11)) 22 A nb (some ([progD P, confD ⟨⟨z4, [], [(r1 : Int), (r2 : Int), (r3 : Int)], 1⟩, [e0 false], [], 0⟩, vi g], [2])) = some (.turned (.d (.tup [confD (C2 [(r1 : Int), (r2 : Int), (r3 : Int)] g), vb true])) (setRo A [2])) := fun A nb => by
            have := raw_auguryref9_Fetch S (dp + 8) P ⟨⟨z4, [], [(r1 : Int), (r2 : Int), (r3 : Int)], 1⟩, [e0 false], [], 0⟩ g (by decide) (by show (1 : Nat) < _; decide) (by show (3 : Nat) < _; decide) (by show (0 : Nat) < _; decide)
            rw [fet2 [(r1 : Int), (r2 : Int), (r3 : Int)] g g0 g5, canF2 [(r1 : Int), (r2 : Int), (r3 : Int)] g false g0 g5] at this
            exact Says.used this (np S _ (by decide)) rfl A nb 2 []
          have d1 : ∀ A nb, evOwnK false E (evC E fn (dp + 11)) 23 A nb (some ([progD P, confD (C1 [(r1 : Int), (r2 : Int), (r3 : Int)] g), vi 0], [2])) = some (.turned (.d (.tup [confD ⟨⟨z4, [], [(r1 : Int), (r2 : Int), (r3 : Int)], (r3 : Int)⟩, [e1d (r3 : Int) false], [], 0⟩, rowD ([⟨3, (r3 : Int)⟩] : List Obs), vb true])) (setRo A [2])) := fun A nb => by
            have := raw_exec_Do S (dp + 1) P (C1 [(r1 : Int), (r2 : Int), (r3 : Int)] g) 0 (by decide) (by show (0 : Nat) < _; decide) (by show (3 : Nat) < _; decide) (by show (1 : Nat) < _; decide) (by show (0 : Nat) < _; decide) (by show (3 : Nat) < _; decide)
            rw [show cellsI P.mems = 0 from rfl, do1 [(r1 : Int), (r2 : Int), (r3 : Int)] g (Nat.succ_ne_zero _), can1] at this
            exact Says.used this (np S _ (by decide)) rfl A nb 2 []
          have d2 : ∀ A nb, evOwnK false E (evC E fn (dp + 11)) 23 A nb (some ([progD P, confD (C2 [(r1 : Int), (r2 : Int), (r3 : Int)] g), vi 1], [2])) = some (.turned (.d (.tup [confD ⟨⟨z4, [], [(r1 : Int), (r2 : Int), (r3 : Int)], 1⟩, [e0 false, e1d 1 false], [], 0⟩, rowD ([⟨3, 1⟩] : List Obs), vb true])) (setRo A [2])) := fun A nb => by
            have := raw_exec_Do S (dp + 1) P (C2 [(r1 : Int), (r2 : Int), (r3 : Int)] g) 1 (by decide) (by show (0 : Nat) < _; decide) (by show (3 : Nat) < _; decide) (by show (2 : Nat) < _; decide) (by show (0 : Nat) < _; decide) (by show (4 : Nat) < _; decide)
            rw [show cellsI P.mems = 0 from rfl, do2 [(r1 : Int), (r2 : Int), (r3 : Int)] g (show (3 : Nat) < 4 by decide), can2] at this
            exact Says.used this (np S _ (by decide)) rfl A nb 2 []
          simp only [go_sem, Nat.reduceLT, Nat.reduceEqDiff, Nat.reduceAdd, Nat.reduceMul, Nat.reduceLeDiff, rowD, rowC, List.flatMap_cons, List.flatMap_nil, P, insK, z4, v0, C0, e0, e1, C1, C2, e1d, Int.cast_ofNat_Int] at b1 f0 f1 f2 d1 d2
          cases call with
          | false => simp only [endN_gen, go_sem, Nat.reduceLT, Nat.reduceEqDiff, Nat.reduceAdd, Nat.reduceMul, Nat.reduceLeDiff, thq S, nbr S, TH, f_reach, Bool.beq_eq_decide_eq, bne, decide_true, decide_false, Int.reduceEq, Int.reduceLT, Int.reduceLE, Int.reduceNeg, reduceCtorEq, List.mem_cons, List.not_mem_nil, or_false, false_or, or_true, true_or, Nat.not_lt_zero, Bool.true_and, Bool.false_and, Bool.and_true, Bool.and_false, Bool.or_true, Bool.or_false, Bool.true_or, Bool.false_or, off S 8 1 (by decide) rfl, off S 8 25 (by decide) rfl, off S 8 31 (by decide) rfl, off S 8 37 (by decide) rfl, off S 8 51 (by decide) rfl, off S 8 55 (by decide) rfl, hloop, q_B10_augurylaw15_ExecCalls, r4, rep1', Int.cast_ofNat_Int, b_and, hm, m1, m2, m3, b_rem, ne_eq, hg, gt_iff_lt, ge_iff_le, deep_sr, c_told ha, y0, x0, x1, x2, ap2, ap3, lt0, lt1, lt2, lt3, List.length_cons, List.length_nil, Int.reduceGT, Bool.not_true, Bool.not_false, Nat.one_ne_zero, Nat.succ_ne_zero, not_false_eq_true, Int.reduceAdd, Int.reduceSub, wz1, wz2, wz3, wz4, Nat.zero_add, Nat.add_zero, Nat.zero_mul, Nat.one_mul, true_and, and_true, and_self, Nat.lt_add_one, show (1 : Nat) * 8 ≤ limA by decide, show (1 : Nat) ≤ limA by decide, List.all_cons, List.all_nil, Int.natCast_add, Int.reduceToNat, Int.toNat_zero, Int.toNat_one, Bool.false_eq_true, Bool.true_eq_false, if_false, Nat.le_refl, w_ixI, lim2, lim3, b1, f1, d1]
          | true => simp only [endN_gen, go_sem, Nat.reduceLT, Nat.reduceEqDiff, Nat.reduceAdd, Nat.reduceMul, Nat.reduceLeDiff, thq S, nbr S, TH, f_reach, Bool.beq_eq_decide_eq, bne, decide_true, decide_false, Int.reduceEq, Int.reduceLT, Int.reduceLE, Int.reduceNeg, reduceCtorEq, List.mem_cons, List.not_mem_nil, or_false, false_or, or_true, true_or, Nat.not_lt_zero, Bool.true_and, Bool.false_and, Bool.and_true, Bool.and_false, Bool.or_true, Bool.or_false, Bool.true_or, Bool.false_or, off S 8 1 (by decide) rfl, off S 8 25 (by decide) rfl, off S 8 31 (by decide) rfl, off S 8 37 (by decide) rfl, off S 8 51 (by decide) rfl, off S 8 55 (by decide) rfl, hloop, q_B10_augurylaw15_ExecCalls, r4, rep1', Int.cast_ofNat_Int, b_and, hm, m1, m2, m3, b_rem, ne_eq, hg, gt_iff_lt, ge_iff_le, deep_sr, c_told ha, y0, x0, x1, x2, ap2, ap3, lt0, lt1, lt2, lt3, List.length_cons, List.length_nil, Int.reduceGT, Bool.not_true, Bool.not_false, Nat.one_ne_zero, Nat.succ_ne_zero, not_false_eq_true, Int.reduceAdd, Int.reduceSub, wz1, wz2, wz3, wz4, Nat.zero_add, Nat.add_zero, Nat.zero_mul, Nat.one_mul, true_and, and_true, and_self, Nat.lt_add_one, show (1 : Nat) * 8 ≤ limA by decide, show (1 : Nat) ≤ limA by decide, List.all_cons, List.all_nil, Int.natCast_add, Int.reduceToNat, Int.toNat_zero, Int.toNat_one, Bool.false_eq_true, Bool.true_eq_false, if_false, Nat.le_refl, w_ixI, lim2, lim3, b1, f0, f2, d2]
end
end Go.Aug.Mc


