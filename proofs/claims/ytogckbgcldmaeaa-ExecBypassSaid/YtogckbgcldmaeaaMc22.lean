/- ExecBypass: the law's run. -/
import Derived.Test.YtogckbgcldmaeaaMc20
import Derived.Test.YtogckbgcldmaeaaMc9
namespace Go.Aug.Mc
open Go Go.Aug
set_option linter.unusedSimpArgs false
set_option linter.unusedVariables false
set_option maxHeartbeats 40000000
set_option maxRecDepth 200000
namespace Byp
def z4 : Regs := ⟨0, 0, 0, 0⟩
def v0 : Val := ⟨false, 0⟩
def P (b : Int) : Prog := ⟨4, 4, 0, z4, [⟨⟨#[109]⟩, false, 4⟩], [], [⟨3, 0, 1, ⟨true, 2⟩, v0, ⟨#[]⟩, 0⟩, ⟨2, 0, 3, ⟨false, b⟩, v0, ⟨#[]⟩, 0⟩, ⟨11, 0, 0, v0, v0, ⟨#[]⟩, 0⟩]⟩
def S0 (a v m pc : Int) : State := ⟨⟨0, v, a, 0⟩, [m, m + 1, m + 2, m + 3], [], pc⟩
def X0 : Ent := ⟨0, 0, 0, -1, 1, false, false, false⟩
def X1 : Ent := ⟨1, 0, 0, -1, 2, false, false, false⟩
def X2 : Ent := ⟨2, 0, 0, -1, -1, true, false, false⟩
def L (b x : Int) : Ent := ⟨1, x, b, -1, 2, true, true, false⟩
def EA (a : Int) : Ent := ⟨0, 0, a, -1, 1, false, true, false⟩
def ED (a v : Int) : Ent := ⟨0, v, a, -1, 1, true, true, false⟩
def LF (b v : Int) : Ent := ⟨1, v, b, 0, 2, true, true, false⟩
def cf (a v m pc : Int) (l : List Ent) : Conf := ⟨S0 a v m pc, l, [], 0⟩
abbrev lt4 (a : Int) : Prop := a = 0 ∨ a = 1 ∨ a = 2 ∨ a = 3
theorem dL1 {a v m b : Int} (hb : lt4 b) : doC 4 (P b) (cf a v m (-1) [X0, X1, X2]) 1 = (cf a v m (-1) [X0, L b (m + b), X2], [⟨1, b⟩]) := by
  rcases hb with rfl | rfl | rfl | rfl
  · rw [Int.add_zero]; rfl
  · rfl
  · rfl
  · rfl
theorem kL1 {a v m b : Int} (hb : lt4 b) : Md.can 4 (P b) (cf a v m (-1) [X0, X1, X2]) 1 = true := by rcases hb with rfl | rfl | rfl | rfl <;> rfl
theorem kA {a v m b x : Int} (hb : lt4 b) : Md.canAddr (P b) (cf a v m (-1) [X0, L b x, X2]) 0 = true := by rcases hb with rfl | rfl | rfl | rfl <;> rfl
theorem aL {a v m b x : Int} (ha : lt4 a) (hb : lt4 b) (h : a ≠ b) : addrC 4 (P b) (cf a v m (-1) [X0, L b x, X2]) 0 = (cf a v m (-1) [EA a, L b x, X2], [⟨2, a⟩]) := by
  rcases ha with rfl | rfl | rfl | rfl <;> rcases hb with rfl | rfl | rfl | rfl <;> first | exact absurd rfl h | rfl
theorem aE {v m b x : Int} (hb : lt4 b) : addrC 4 (P b) (cf b v m (-1) [X0, L b x, X2]) 0 = (cf b v m 1 [EA b], [⟨2, b⟩]) := by rcases hb with rfl | rfl | rfl | rfl <;> rfl
theorem kN {v m b : Int} (hb : lt4 b) : Md.can 4 (P b) (cf b v m 2 [EA b, X1]) 1 = false := by rcases hb with rfl | rfl | rfl | rfl <;> rfl
theorem k2L {v m b : Int} (hb : lt4 b) : Md.can 4 (P b) (cf b v m 2 [EA b, X1]) 0 = true := by rcases hb with rfl | rfl | rfl | rfl <;> rfl
theorem d2L {v m b : Int} (hb : lt4 b) : doC 4 (P b) (cf b v m 2 [EA b, X1]) 0 = (cf b v m 2 [ED b v, X1], []) := by rcases hb with rfl | rfl | rfl | rfl <;> rfl
theorem k3L {v m b : Int} (hb : lt4 b) : Md.can 4 (P b) (cf b v m 2 [ED b v, X1]) 1 = true := by rcases hb with rfl | rfl | rfl | rfl <;> rfl
theorem d3L {v m b : Int} (hb : lt4 b) : doC 4 (P b) (cf b v m 2 [ED b v, X1]) 1 = (cf b v m 2 [ED b v, LF b v], [⟨1, b⟩]) := by rcases hb with rfl | rfl | rfl | rfl <;> rfl
end Byp
open Byp
theorem q_B14_augurylaw15_ExecBypass (E : Env) (call : CallT) (kn : K) (kx : Nat → K) (kr : K) (tm : List AV) (A : List Blk) : B14_augurylaw15_ExecBypass E call kn kx kr tm A = (cSeq (cSeq (cOps [st 56 (oMov (.t 12)), st 57 (oBin .lss (.t 56) (ci 3))]) (cCond 1 (.t 57) (cSkip) (cExit 0))) (cSeq (cBlock 1 (cSeq (cOps [st 61 (oLoad (.t 9) true 10), st 62 (oLoad (.t 11) true 10), st 63 (oCall (.f 22) [(.t 61), (.t 62), (ci 0)]), st 60 (oMov (.t 63)), st 64 (oExt (.t 60) 0), st 65 (oExt (.t 60) 1), st 13 (oNew [zi, zi, zi, zi, zn, zn, zi, zn, zn, zi]), su (oStore (.t 13) (.t 64) 10), st 14 (oMov (.t 65))]) (cSeq (cSeq (cOps [st 66 (oMov (.t 14)), st 67 (oUn .not (.t 66))]) (cCond 23 (.t 67) (cSeq (cOps [st 8 (oMov (.c (.v (.bool false))))]) (cRet)) (cSkip))) (cOps [st 68 (oLoad (.t 13) true 10), su (oStore (.t 11) (.t 68) 10)])))) (cOps [st 58 (oMov (.t 12)), st 59 (oBin .add (.t 58) (ci 1)), st 12 (oMov (.t 59))]))) E call kn kx kr tm A := id rfl
variable {E : Env} {fn : FuncId → Option (Env → CallT → CallT)}
section
variable (S : Sur E fn)
include S
theorem raw_lawByp (ha : E.prim 25 = some trueG) (dp : Nat) (xa xb xv xm : Int) : evC E fn (dp + 12) 5 [aint xa, aint xb, aint xv, aint xm] [] = some (abool true, []) := by
  rw [evC_succ, S.f_augurylaw15_ExecBypass, apF_some, F_augurylaw15_ExecBypass, mkF_run _ _ _ _ _ _ _ _ rfl]
  have hloop : ∀ kx kr n d T A, loopK 14 B14_augurylaw15_ExecBypass (inn E 5) (evC E fn (dp + 11)) kx kr (n + 1) (mk d 208 T) A = nrmTo (B14_augurylaw15_ExecBypass (inn E 5) (evC E fn (dp + 11)) (loopK 14 B14_augurylaw15_ExecBypass (inn E 5) (evC E fn (dp + 11)) kx kr n) kx kr) 208 [0, 1, 2, 3, 9, 11, 12] d T A (reach A 0 100000 ([0, 1, 2, 3, 9, 11, 12].flatMap fun t => refsOf 8 (getS d T t)) []) := fun kx kr n d T A => loop_in (on S _ _ [0, 1, 2, 3, 9, 11, 12] (by decide) rfl) rfl _ _ _ _ _ _ _ _ _ rfl
  have r4 : ∀ {α : Type} (l : List α), rep l 4 = l ++ (l ++ (l ++ l)) := fun l => by simp [rep]
  have r3 : ∀ {α : Type} (l : List α), rep l 3 = l ++ (l ++ l) := fun l => by simp [rep]
  have wz1 : IntKind.i64.wrap 1 = 1 := by decide
  have wz2 : IntKind.i64.wrap 2 = 2 := by decide
  have wz3 : IntKind.i64.wrap 3 = 3 := by decide
  obtain ⟨an, la, q0⟩ := mask_of xa 2 (by decide)
  obtain ⟨bn, lb, q1⟩ := mask_of xb 2 (by decide)
  obtain ⟨vn, lv, q2⟩ := mask_of xv 4 (by decide)
  obtain ⟨mn, lm, q3⟩ := mask_of xm 3 (by decide)
  simp only [Nat.reducePow, Nat.reduceSub, Int.cast_ofNat_Int] at q0 q1 q2 q3 la lb lv lm
  generalize (vn : Int) = v at q2
  have m0 : 0 ≤ (mn : Int) := Int.natCast_nonneg _
  have m8 : (mn : Int) < 8 := by omega
  generalize (mn : Int) = m at q3 m0 m8
  have hha : lt4 (an : Int) := by unfold lt4; omega
  generalize (an : Int) = a at q0 hha
  have hb : lt4 (bn : Int) := by unfold lt4; omega
  generalize (bn : Int) = b at q1 hb
  have wb : IntKind.i64.wrap (m + b) = m + b := by unfold lt4 at hb; exact wrap_i64 (by omega) (by omega)
  have w1 : IntKind.i64.wrap (m + 1) = m + 1 := wrap_i64 (by omega) (by omega)
  have w2 : IntKind.i64.wrap (m + 2) = m + 2 := wrap_i64 (by omega) (by omega)
  have w3 : IntKind.i64.wrap (m + 3) = m + 3 := wrap_i64 (by omega) (by omega)
  by_cases hne : a = b
  · subst a
    have b1 : ∀ A nb, evOwnK false E (evC E fn (dp + 11)) 21 A nb (some ([stateD (S0 b v m 0)], [3])) = some (.turned (.d (confD (cf b v m 0 []))) (setRo A [3])) := fun A nb => Says.used (raw_auguryref9_Begin S (dp + 10) (S0 b v m 0)) (np S _ (by decide)) rfl A nb 3 []
    have f1 : ∀ A nb, evOwnK false E (evC E fn (dp + 11)) 22 A nb (some ([progD (P b), confD (cf b v m 0 []), vi 0], [2, 3])) = some (.turned (.d (.tup [confD (cf b v m 1 [X0]), vb true])) (setRo A [2, 3])) := fun A nb => Says.used (raw_auguryref9_Fetch S (dp + 8) (P b) (cf b v m 0 []) 0 (by show (3 : Nat) < _; decide) (by show (0 : Nat) < _; decide) (by show (0 : Nat) < _; decide) (by show (0 : Nat) < _; decide)) (np S _ (by decide)) rfl A nb 2 [3]
    have f2 : ∀ A nb, evOwnK false E (evC E fn (dp + 11)) 22 A nb (some ([progD (P b), confD (cf b v m 1 [X0]), vi 0], [2, 3])) = some (.turned (.d (.tup [confD (cf b v m 2 [X0, X1]), vb true])) (setRo A [2, 3])) := fun A nb => Says.used (raw_auguryref9_Fetch S (dp + 8) (P b) (cf b v m 1 [X0]) 0 (by show (3 : Nat) < _; decide) (by show (1 : Nat) < _; decide) (by show (0 : Nat) < _; decide) (by show (0 : Nat) < _; decide)) (np S _ (by decide)) rfl A nb 2 [3]
    have f3 : ∀ A nb, evOwnK false E (evC E fn (dp + 11)) 22 A nb (some ([progD (P b), confD (cf b v m 2 [X0, X1]), vi 0], [2, 3])) = some (.turned (.d (.tup [confD (cf b v m (-1) [X0, X1, X2]), vb true])) (setRo A [2, 3])) := fun A nb => Says.used (raw_auguryref9_Fetch S (dp + 8) (P b) (cf b v m 2 [X0, X1]) 0 (by show (3 : Nat) < _; decide) (by show (2 : Nat) < _; decide) (by show (0 : Nat) < _; decide) (by show (0 : Nat) < _; decide)) (np S _ (by decide)) rfl A nb 2 [3]
    have d1 : ∀ A nb, evOwnK false E (evC E fn (dp + 11)) 23 A nb (some ([progD (P b), confD (cf b v m (-1) [X0, X1, X2]), vi 1], [2, 3])) = some (.turned (.d (.tup [confD (cf b v m (-1) [X0, L b (m + b), X2]), rowD ([⟨1, b⟩] : List Obs), vb true])) (setRo A [2, 3])) := fun A nb => by
      have := raw_exec_Do S (dp + 1) (P b) (cf b v m (-1) [X0, X1, X2]) 1 (by show (1 : Nat) < _; decide) (by show (4 : Nat) < _; decide) (by show (0 : Nat) < _; decide) (by show (3 : Nat) < _; decide) (by show (0 : Nat) < _; decide) (by show (0 : Nat) < _; decide)
      rw [show cellsI (P b).mems = 4 from rfl, dL1 hb, kL1 hb] at this
      exact Says.used this (np S _ (by decide)) rfl A nb 2 [3]
    have a1 : ∀ A nb, evOwnK false E (evC E fn (dp + 11)) 24 A nb (some ([progD (P b), confD (cf b v m (-1) [X0, L b (m + b), X2]), vi 0], [2, 3])) = some (.turned (.d (.tup [confD (cf b v m 1 [EA b]), rowD ([⟨2, b⟩] : List Obs), vb true])) (setRo A [2, 3])) := fun A nb => by
      have := raw_exec_Addr S (dp + 3) (P b) (cf b v m (-1) [X0, L b (m + b), X2]) 0 (by show (1 : Nat) < _; decide) (by show (4 : Nat) < _; decide) (by show (0 : Nat) < _; decide) (by show (3 : Nat) < _; decide) (by show (0 : Nat) < _; decide)
      rw [show cellsI (P b).mems = 4 from rfl, aE hb, kA hb] at this
      exact Says.used this (np S _ (by decide)) rfl A nb 2 [3]
    have f4 : ∀ A nb, evOwnK false E (evC E fn (dp + 11)) 22 A nb (some ([progD (P b), confD (cf b v m 1 [EA b]), vi 0], [2, 3])) = some (.turned (.d (.tup [confD (cf b v m 2 [EA b, X1]), vb true])) (setRo A [2, 3])) := fun A nb => Says.used (raw_auguryref9_Fetch S (dp + 8) (P b) (cf b v m 1 [EA b]) 0 (by show (3 : Nat) < _; decide) (by show (1 : Nat) < _; decide) (by show (0 : Nat) < _; decide) (by show (0 : Nat) < _; decide)) (np S _ (by decide)) rfl A nb 2 [3]
    have k1 : ∀ A nb, evOwnK false E (evC E fn (dp + 11)) 26 A nb (some ([progD (P b), confD (cf b v m 2 [EA b, X1]), vi 1], [2, 3])) = some (.made (.d (vb false)) []) := fun A nb => by
      have := raw_exec_Can S (dp + 2) (P b) (cf b v m 2 [EA b, X1]) 1 (by show (2 : Nat) < _; decide) (by show (1 : Nat) < _; decide)
      rw [show cellsI (P b).mems = 4 from rfl, kN hb] at this
      exact Says.flat this (np S _ (by decide)) rfl A nb [2, 3]
    have d2 : ∀ A nb, evOwnK false E (evC E fn (dp + 11)) 23 A nb (some ([progD (P b), confD (cf b v m 2 [EA b, X1]), vi 0], [2, 3])) = some (.turned (.d (.tup [confD (cf b v m 2 [ED b v, X1]), rowD ([] : List Obs), vb true])) (setRo A [2, 3])) := fun A nb => by
      have := raw_exec_Do S (dp + 1) (P b) (cf b v m 2 [EA b, X1]) 0 (by show (1 : Nat) < _; decide) (by show (4 : Nat) < _; decide) (by show (0 : Nat) < _; decide) (by show (2 : Nat) < _; decide) (by show (0 : Nat) < _; decide) (by show (0 : Nat) < _; decide)
      rw [show cellsI (P b).mems = 4 from rfl, d2L hb, k2L hb] at this
      exact Says.used this (np S _ (by decide)) rfl A nb 2 [3]
    have d3 : ∀ A nb, evOwnK false E (evC E fn (dp + 11)) 23 A nb (some ([progD (P b), confD (cf b v m 2 [ED b v, X1]), vi 1], [2, 3])) = some (.turned (.d (.tup [confD (cf b v m 2 [ED b v, LF b v]), rowD ([⟨1, b⟩] : List Obs), vb true])) (setRo A [2, 3])) := fun A nb => by
      have := raw_exec_Do S (dp + 1) (P b) (cf b v m 2 [ED b v, X1]) 1 (by show (1 : Nat) < _; decide) (by show (4 : Nat) < _; decide) (by show (0 : Nat) < _; decide) (by show (2 : Nat) < _; decide) (by show (0 : Nat) < _; decide) (by show (0 : Nat) < _; decide)
      rw [show cellsI (P b).mems = 4 from rfl, d3L hb, k3L hb] at this
      exact Says.used this (np S _ (by decide)) rfl A nb 2 [3]
    simp only [go_sem, Nat.reduceLT, Nat.reduceEqDiff, Nat.reduceAdd, Nat.reduceMul, Nat.reduceLeDiff, rowD, rowC, List.flatMap_cons, List.flatMap_nil, P, z4, v0, S0, X0, X1, X2, L, EA, ED, LF, cf, Int.cast_ofNat_Int] at b1 f1 f2 f3 d1 a1 f4 k1 d2 d3
    simp only [endN_gen, go_sem, Nat.reduceLT, Nat.reduceEqDiff, Nat.reduceAdd, Nat.reduceMul, Nat.reduceLeDiff, thq S, nbr S, TH, f_reach, Bool.beq_eq_decide_eq, bne, decide_true, decide_false, Int.reduceEq, Int.reduceLT, Int.reduceLE, Int.reduceNeg, reduceCtorEq, List.mem_cons, List.not_mem_nil, or_false, false_or, or_true, true_or, Nat.not_lt_zero, Bool.true_and, Bool.false_and, Bool.and_true, Bool.and_false, Bool.or_true, Bool.or_false, Bool.true_or, Bool.false_or, off S 5 1 (by decide) rfl, off S 5 23 (by decide) rfl, off S 5 31 (by decide) rfl, off S 5 37 (by decide) rfl, off S 5 41 (by decide) rfl, off S 5 45 (by decide) rfl, off S 5 51 (by decide) rfl, hloop, q_B14_augurylaw15_ExecBypass, r4, r3, rep1', Int.cast_ofNat_Int, b_and, q0, q1, q2, q3, ne_eq, gt_iff_lt, ge_iff_le, deep_sr, c_told ha, b1, f1, f2, f3, d1, a1, f4, k1, d2, d3, List.length_cons, List.length_nil, Int.reduceGT, Bool.not_true, Bool.not_false, Nat.one_ne_zero, Nat.succ_ne_zero, not_false_eq_true, Int.reduceAdd, Int.reduceSub, wz1, wz2, wz3, w1, w2, w3, wb, Nat.zero_add, Nat.add_zero, Nat.zero_mul, Nat.one_mul, true_and, and_true, and_self, List.all_cons, List.all_nil, Int.reduceToNat, Int.toNat_zero, Int.toNat_one, Bool.false_eq_true, Bool.true_eq_false, if_false, Nat.le_refl]
  · have b1 : ∀ A nb, evOwnK false E (evC E fn (dp + 11)) 21 A nb (some ([stateD (S0 a v m 0)], [3])) = some (.turned (.d (confD (cf a v m 0 []))) (setRo A [3])) := fun A nb => Says.used (raw_auguryref9_Begin S (dp + 10) (S0 a v m 0)) (np S _ (by decide)) rfl A nb 3 []
    have f1 : ∀ A nb, evOwnK false E (evC E fn (dp + 11)) 22 A nb (some ([progD (P b), confD (cf a v m 0 []), vi 0], [2, 3])) = some (.turned (.d (.tup [confD (cf a v m 1 [X0]), vb true])) (setRo A [2, 3])) := fun A nb => Says.used (raw_auguryref9_Fetch S (dp + 8) (P b) (cf a v m 0 []) 0 (by show (3 : Nat) < _; decide) (by show (0 : Nat) < _; decide) (by show (0 : Nat) < _; decide) (by show (0 : Nat) < _; decide)) (np S _ (by decide)) rfl A nb 2 [3]
    have f2 : ∀ A nb, evOwnK false E (evC E fn (dp + 11)) 22 A nb (some ([progD (P b), confD (cf a v m 1 [X0]), vi 0], [2, 3])) = some (.turned (.d (.tup [confD (cf a v m 2 [X0, X1]), vb true])) (setRo A [2, 3])) := fun A nb => Says.used (raw_auguryref9_Fetch S (dp + 8) (P b) (cf a v m 1 [X0]) 0 (by show (3 : Nat) < _; decide) (by show (1 : Nat) < _; decide) (by show (0 : Nat) < _; decide) (by show (0 : Nat) < _; decide)) (np S _ (by decide)) rfl A nb 2 [3]
    have f3 : ∀ A nb, evOwnK false E (evC E fn (dp + 11)) 22 A nb (some ([progD (P b), confD (cf a v m 2 [X0, X1]), vi 0], [2, 3])) = some (.turned (.d (.tup [confD (cf a v m (-1) [X0, X1, X2]), vb true])) (setRo A [2, 3])) := fun A nb => Says.used (raw_auguryref9_Fetch S (dp + 8) (P b) (cf a v m 2 [X0, X1]) 0 (by show (3 : Nat) < _; decide) (by show (2 : Nat) < _; decide) (by show (0 : Nat) < _; decide) (by show (0 : Nat) < _; decide)) (np S _ (by decide)) rfl A nb 2 [3]
    have d1 : ∀ A nb, evOwnK false E (evC E fn (dp + 11)) 23 A nb (some ([progD (P b), confD (cf a v m (-1) [X0, X1, X2]), vi 1], [2, 3])) = some (.turned (.d (.tup [confD (cf a v m (-1) [X0, L b (m + b), X2]), rowD ([⟨1, b⟩] : List Obs), vb true])) (setRo A [2, 3])) := fun A nb => by
      have := raw_exec_Do S (dp + 1) (P b) (cf a v m (-1) [X0, X1, X2]) 1 (by show (1 : Nat) < _; decide) (by show (4 : Nat) < _; decide) (by show (0 : Nat) < _; decide) (by show (3 : Nat) < _; decide) (by show (0 : Nat) < _; decide) (by show (0 : Nat) < _; decide)
      rw [show cellsI (P b).mems = 4 from rfl, dL1 hb, kL1 hb] at this
      exact Says.used this (np S _ (by decide)) rfl A nb 2 [3]
    have a1 : ∀ A nb, evOwnK false E (evC E fn (dp + 11)) 24 A nb (some ([progD (P b), confD (cf a v m (-1) [X0, L b (m + b), X2]), vi 0], [2, 3])) = some (.turned (.d (.tup [confD (cf a v m (-1) [EA a, L b (m + b), X2]), rowD ([⟨2, a⟩] : List Obs), vb true])) (setRo A [2, 3])) := fun A nb => by
      have := raw_exec_Addr S (dp + 3) (P b) (cf a v m (-1) [X0, L b (m + b), X2]) 0 (by show (1 : Nat) < _; decide) (by show (4 : Nat) < _; decide) (by show (0 : Nat) < _; decide) (by show (3 : Nat) < _; decide) (by show (0 : Nat) < _; decide)
      rw [show cellsI (P b).mems = 4 from rfl, aL hha hb hne, kA hb] at this
      exact Says.used this (np S _ (by decide)) rfl A nb 2 [3]
    simp only [go_sem, Nat.reduceLT, Nat.reduceEqDiff, Nat.reduceAdd, Nat.reduceMul, Nat.reduceLeDiff, rowD, rowC, List.flatMap_cons, List.flatMap_nil, P, z4, v0, S0, X0, X1, X2, L, EA, ED, LF, cf, Int.cast_ofNat_Int] at b1 f1 f2 f3 d1 a1
    simp only [endN_gen, go_sem, Nat.reduceLT, Nat.reduceEqDiff, Nat.reduceAdd, Nat.reduceMul, Nat.reduceLeDiff, thq S, nbr S, TH, f_reach, Bool.beq_eq_decide_eq, bne, decide_true, decide_false, Int.reduceEq, Int.reduceLT, Int.reduceLE, Int.reduceNeg, reduceCtorEq, List.mem_cons, List.not_mem_nil, or_false, false_or, or_true, true_or, Nat.not_lt_zero, Bool.true_and, Bool.false_and, Bool.and_true, Bool.and_false, Bool.or_true, Bool.or_false, Bool.true_or, Bool.false_or, off S 5 1 (by decide) rfl, off S 5 23 (by decide) rfl, off S 5 31 (by decide) rfl, off S 5 37 (by decide) rfl, off S 5 41 (by decide) rfl, off S 5 45 (by decide) rfl, off S 5 51 (by decide) rfl, hloop, q_B14_augurylaw15_ExecBypass, r4, r3, rep1', Int.cast_ofNat_Int, b_and, q0, q1, q2, q3, ne_eq, gt_iff_lt, ge_iff_le, deep_sr, c_told ha, b1, f1, f2, f3, d1, a1, List.length_cons, List.length_nil, Int.reduceGT, Bool.not_true, Bool.not_false, Nat.one_ne_zero, Nat.succ_ne_zero, not_false_eq_true, Int.reduceAdd, Int.reduceSub, wz1, wz2, wz3, w1, w2, w3, wb, Nat.zero_add, Nat.add_zero, Nat.zero_mul, Nat.one_mul, true_and, and_true, and_self, List.all_cons, List.all_nil, Int.reduceToNat, Int.toNat_zero, Int.toNat_one, Bool.false_eq_true, Bool.true_eq_false, if_false, Nat.le_refl, eq_false hne]
end
end Go.Aug.Mc


