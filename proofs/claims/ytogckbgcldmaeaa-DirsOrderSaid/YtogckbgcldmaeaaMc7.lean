/- Directives in order: what the functions answer. -/
import Derived.Test.YtogckbgcldmaeaaMcS
namespace Go.Aug.Mc
open Go Go.Aug
set_option linter.unusedSimpArgs false
set_option linter.unusedVariables false
set_option maxHeartbeats 4000000
def cmpI (a b : Int) : Int := if a < b then -1 else if b < a then 1 else 0
def orI : List Int → Int
  | [] => 0
  | a :: l => if a = 0 then orI l else a
def lessM (a b : Dir) : Bool := decide (orI [cmpI a.kind b.kind, cmpI a.n b.n] < 0)
variable {E : Env} {fn : FuncId → Option (Env → CallT → CallT)}
section
variable (S : Sur E fn)
include S
theorem raw_cmp_isNaNint (dp : Nat) (a : Int) : Says E fn (dp + 1) 133 [vi a] (vb false) := by
  unfold Says
  show ansOf (evC E fn (dp + 1) 133 [.d (vi a)] []) = _
  rw [evC_succ, S.f_cmp_isNaNint, apF_some, F_cmp_isNaNint, mkF_run _ _ _ _ _ _ _ _ rfl]
  simp only [endN_gen, go_sem, Nat.reduceLT, Nat.reduceEqDiff, Nat.reduceAdd, Nat.reduceMul, Nat.reduceLeDiff, thq S, nbr S, TH, f_reach, Bool.beq_eq_decide_eq, bne, decide_true, decide_false, Int.reduceEq, reduceCtorEq, List.mem_cons, List.not_mem_nil, or_false, false_or, or_true, true_or, Nat.not_lt_zero, Bool.true_and, Bool.false_and, Bool.and_true, Bool.and_false, Bool.or_true, Bool.or_false, Bool.true_or, Bool.false_or, Bool.not_true]
theorem c_cmp_isNaNint (dp : Nat) (a : Int) (A : List Blk) (nb : Nat) (us : List Nat) : evOwnK false E (evC E fn (dp + 1)) 133 A nb (some ([vi a], us)) = some (.made (.d (vb false)) []) :=
  Says.flat (raw_cmp_isNaNint S dp a ) (np S 133 (by decide)) (rfl) A nb us
theorem raw_cmp_Compareint (dp : Nat) (a : Int) (b : Int) : Says E fn (dp + 2) 117 [vi a, vi b] (vi (cmpI a b)) := by
  unfold Says
  show ansOf (evC E fn (dp + 1 + 1) 117 [.d (vi a), .d (vi b)] []) = _
  rw [evC_succ, S.f_cmp_Compareint, apF_some, F_cmp_Compareint, mkF_run _ _ _ _ _ _ _ _ rfl]
  by_cases h1 : a < b
  · simp only [endN_gen, go_sem, Nat.reduceLT, Nat.reduceEqDiff, Nat.reduceAdd, Nat.reduceMul, Nat.reduceLeDiff, thq S, nbr S, TH, f_reach, Bool.beq_eq_decide_eq, bne, decide_true, decide_false, Int.reduceEq, reduceCtorEq, List.mem_cons, List.not_mem_nil, or_false, false_or, or_true, true_or, Nat.not_lt_zero, Bool.true_and, Bool.false_and, Bool.and_true, Bool.and_false, Bool.or_true, Bool.or_false, Bool.true_or, Bool.false_or, off S 117 11 (by decide) rfl, off S 117 13 (by decide) rfl, off S 117 19 (by decide) rfl, off S 117 23 (by decide) rfl, off S 117 27 (by decide) rfl, c_cmp_isNaNint S, h1, cmpI]
  · by_cases h2 : b < a
    · simp only [endN_gen, go_sem, Nat.reduceLT, Nat.reduceEqDiff, Nat.reduceAdd, Nat.reduceMul, Nat.reduceLeDiff, thq S, nbr S, TH, f_reach, Bool.beq_eq_decide_eq, bne, decide_true, decide_false, Int.reduceEq, reduceCtorEq, List.mem_cons, List.not_mem_nil, or_false, false_or, or_true, true_or, Nat.not_lt_zero, Bool.true_and, Bool.false_and, Bool.and_true, Bool.and_false, Bool.or_true, Bool.or_false, Bool.true_or, Bool.false_or, off S 117 11 (by decide) rfl, off S 117 13 (by decide) rfl, off S 117 19 (by decide) rfl, off S 117 23 (by decide) rfl, off S 117 27 (by decide) rfl, c_cmp_isNaNint S, h1, h2, gt_iff_lt, cmpI]
    · simp only [endN_gen, go_sem, Nat.reduceLT, Nat.reduceEqDiff, Nat.reduceAdd, Nat.reduceMul, Nat.reduceLeDiff, thq S, nbr S, TH, f_reach, Bool.beq_eq_decide_eq, bne, decide_true, decide_false, Int.reduceEq, reduceCtorEq, List.mem_cons, List.not_mem_nil, or_false, false_or, or_true, true_or, Nat.not_lt_zero, Bool.true_and, Bool.false_and, Bool.and_true, Bool.and_false, Bool.or_true, Bool.or_false, Bool.true_or, Bool.false_or, off S 117 11 (by decide) rfl, off S 117 13 (by decide) rfl, off S 117 19 (by decide) rfl, off S 117 23 (by decide) rfl, off S 117 27 (by decide) rfl, c_cmp_isNaNint S, h1, h2, gt_iff_lt, cmpI]
theorem c_cmp_Compareint (dp : Nat) (a : Int) (b : Int) (A : List Blk) (nb : Nat) (us : List Nat) : evOwnK false E (evC E fn (dp + 2)) 117 A nb (some ([vi a, vi b], us)) = some (.made (.d (vi (cmpI a b))) []) :=
  Says.flat (raw_cmp_Compareint S dp a b ) (np S 117 (by decide)) (rfl) A nb us
theorem loop_or (dp : Nat) (l : List Int) (hl : l.length < 1073741824) (kx : Nat → K)
    (hx : ∀ T, getS .bot T 3 = aint 0 → ansOf (kx 0 (mk .bot 18 T) []) = some (vi 0)) :
    ∀ (m k fuel : Nat), k + m = l.length → m ≤ fuel → ansOf (B8_cmp_Orint (inn E 116) (evC E fn dp) (loopK 8 B8_cmp_Orint (inn E 116) (evC E fn dp) kx (kEnd 0 [.tmp 2]) fuel) kx (kEnd 0 [.tmp 2])
      (mk .bot 18 [(3, aint 0), (6, .d (rowD l)), (7, aint l.length), (8, aint k)]) []) = some (vi (orI (l.drop k))) := by
  intro m
  induction m with
  | zero =>
    intro k fuel hk _
    generalize loopK 8 B8_cmp_Orint _ _ kx _ fuel = KK
    rw [B8_cmp_Orint, List.drop_of_length_le (by omega)]
    simp only [endN_gen, go_sem, Nat.reduceLT, Nat.reduceEqDiff, Nat.reduceAdd, Nat.reduceMul, Nat.reduceLeDiff, thq S, nbr S, TH, f_reach, Bool.beq_eq_decide_eq, bne, decide_true, decide_false, Int.reduceEq, reduceCtorEq, List.mem_cons, List.not_mem_nil, or_false, false_or, or_true, true_or, Nat.not_lt_zero, Bool.true_and, Bool.false_and, Bool.and_true, Bool.and_false, Bool.or_true, Bool.or_false, Bool.true_or, Bool.false_or, off S 116 1 (by decide) rfl, off S 116 15 (by decide) rfl, show ¬ (k : Int) < l.length by omega, orI]
    exact hx _ rfl
  | succ m ih =>
    intro k fuel hk hf
    obtain ⟨e, he⟩ := get_of (show k < l.length by omega)
    obtain ⟨fuel, rfl⟩ : ∃ m, fuel = m + 1 := ⟨fuel - 1, by omega⟩
    generalize hK : loopK 8 B8_cmp_Orint _ _ kx _ (fuel + 1) = KK
    rw [B8_cmp_Orint, drop_get he]
    by_cases h0 : e = 0
    · simp only [endN_gen, go_sem, Nat.reduceLT, Nat.reduceEqDiff, Nat.reduceAdd, Nat.reduceMul, Nat.reduceLeDiff, thq S, nbr S, TH, f_reach, Bool.beq_eq_decide_eq, bne, decide_true, decide_false, Int.reduceEq, reduceCtorEq, List.mem_cons, List.not_mem_nil, or_false, false_or, or_true, true_or, Nat.not_lt_zero, Bool.true_and, Bool.false_and, Bool.and_true, Bool.and_false, Bool.or_true, Bool.or_false, Bool.true_or, Bool.false_or, off S 116 1 (by decide) rfl, off S 116 15 (by decide) rfl, show (k : Int) < l.length by omega, w_ix he, h0, Bool.not_true, Bool.not_false, orI, wi k (by omega)]
      rw [← hK, loop_in (on S _ _ [3, 6, 7, 8] (by decide) rfl) rfl _ _ _ _ _ _ _ _ _ rfl]
      simp only [endN_gen, go_sem, Nat.reduceLT, Nat.reduceEqDiff, Nat.reduceAdd, Nat.reduceMul, Nat.reduceLeDiff, thq S, nbr S, TH, f_reach, Bool.beq_eq_decide_eq, bne, decide_true, decide_false, Int.reduceEq, reduceCtorEq, List.mem_cons, List.not_mem_nil, or_false, false_or, or_true, true_or, Nat.not_lt_zero, Bool.true_and, Bool.false_and, Bool.and_true, Bool.and_false, Bool.or_true, Bool.or_false, Bool.true_or, Bool.false_or, off S 116 1 (by decide) rfl, off S 116 15 (by decide) rfl]
      exact ih (k + 1) fuel (by omega) (by omega)
    · simp only [endN_gen, go_sem, Nat.reduceLT, Nat.reduceEqDiff, Nat.reduceAdd, Nat.reduceMul, Nat.reduceLeDiff, thq S, nbr S, TH, f_reach, Bool.beq_eq_decide_eq, bne, decide_true, decide_false, Int.reduceEq, reduceCtorEq, List.mem_cons, List.not_mem_nil, or_false, false_or, or_true, true_or, Nat.not_lt_zero, Bool.true_and, Bool.false_and, Bool.and_true, Bool.and_false, Bool.or_true, Bool.or_false, Bool.true_or, Bool.false_or, off S 116 1 (by decide) rfl, off S 116 15 (by decide) rfl, show (k : Int) < l.length by omega, w_ix he, h0, Bool.not_true, Bool.not_false, orI, wi k (by omega)]
theorem raw_cmp_Orint (dp : Nat) (l : List Int) (hl : l.length < 1073741824) : Says E fn (dp + 1) 116 [rowD l] (vi (orI l)) := by
  unfold Says
  show ansOf (evC E fn (dp + 1) 116 [.d (rowD l)] []) = _
  rw [evC_succ, S.f_cmp_Orint, apF_some, F_cmp_Orint, mkF_run _ _ _ _ _ _ _ _ rfl]
  simp only [endN_gen, go_sem, Nat.reduceLT, Nat.reduceEqDiff, Nat.reduceAdd, Nat.reduceMul, Nat.reduceLeDiff, thq S, nbr S, TH, f_reach, Bool.beq_eq_decide_eq, bne, decide_true, decide_false, Int.reduceEq, reduceCtorEq, List.mem_cons, List.not_mem_nil, or_false, false_or, or_true, true_or, Nat.not_lt_zero, Bool.true_and, Bool.false_and, Bool.and_true, Bool.and_false, Bool.or_true, Bool.or_false, Bool.true_or, Bool.false_or, off S 116 1 (by decide) rfl, off S 116 15 (by decide) rfl]
  rw [big_eq, loop_in (on S _ _ [3, 6, 7, 8] (by decide) rfl) rfl _ _ _ _ _ _ _ _ _ rfl]
  simp only [endN_gen, go_sem, Nat.reduceLT, Nat.reduceEqDiff, Nat.reduceAdd, Nat.reduceMul, Nat.reduceLeDiff, thq S, nbr S, TH, f_reach, Bool.beq_eq_decide_eq, bne, decide_true, decide_false, Int.reduceEq, reduceCtorEq, List.mem_cons, List.not_mem_nil, or_false, false_or, or_true, true_or, Nat.not_lt_zero, Bool.true_and, Bool.false_and, Bool.and_true, Bool.and_false, Bool.or_true, Bool.or_false, Bool.true_or, Bool.false_or, off S 116 1 (by decide) rfl, off S 116 15 (by decide) rfl]
  refine loop_or S dp l hl _ ?_ l.length 0 _ (by omega) (by omega)
  intro T h3
  simp only [endN_gen, go_sem, Nat.reduceLT, Nat.reduceEqDiff, Nat.reduceAdd, Nat.reduceMul, Nat.reduceLeDiff, thq S, nbr S, TH, f_reach, Bool.beq_eq_decide_eq, bne, decide_true, decide_false, Int.reduceEq, reduceCtorEq, List.mem_cons, List.not_mem_nil, or_false, false_or, or_true, true_or, Nat.not_lt_zero, Bool.true_and, Bool.false_and, Bool.and_true, Bool.and_false, Bool.or_true, Bool.or_false, Bool.true_or, Bool.false_or, off S 116 1 (by decide) rfl, off S 116 15 (by decide) rfl, h3]
theorem c_cmp_Orint (dp : Nat) (l : List Int) (hl : l.length < 1073741824) (A : List Blk) (nb : Nat) (us : List Nat) : evOwnK false E (evC E fn (dp + 1)) 116 A nb (some ([rowD l], us)) = some (.made (.d (vi (orI l))) []) :=
  Says.flat (raw_cmp_Orint S dp l hl) (np S 116 (by decide)) (rfl) A nb us
theorem c_or2 (dp : Nat) (a b : Int) (A : List Blk) (nb : Nat) (us : List Nat) : evOwnK false E (evC E fn (dp + 1)) 116 A nb (some ([.lst [vi a, vi b] 2 none], us)) = some (.made (.d (vi (orI [a, b]))) []) :=
  Says.flat (ds := [.lst [vi a, vi b] 2 none]) (raw_cmp_Orint S dp [a, b] (by simp)) (np S 116 (by decide)) rfl A nb us
theorem raw_dirs_Compare (dp : Nat) (a : Dir) (b : Dir) : Says E fn (dp + 3) 89 [.agg (Cl.cells a), .agg (Cl.cells b)] (vi (orI [cmpI a.kind b.kind, cmpI a.n b.n])) := by
  unfold Says
  show ansOf (evC E fn (dp + 2 + 1) 89 [.d (.agg (Cl.cells a)), .d (.agg (Cl.cells b))] []) = _
  rw [evC_succ, S.f_dirs_Compare, apF_some, F_dirs_Compare, mkF_run _ _ _ _ _ _ _ _ rfl]
  have r2 : ∀ x : AV, rep [x] 2 = [x, x] := fun _ => rfl
  simp only [endN_gen, go_sem, Nat.reduceLT, Nat.reduceEqDiff, Nat.reduceAdd, Nat.reduceMul, Nat.reduceLeDiff, thq S, nbr S, TH, f_reach, Bool.beq_eq_decide_eq, bne, decide_true, decide_false, Int.reduceEq, reduceCtorEq, List.mem_cons, List.not_mem_nil, or_false, false_or, or_true, true_or, Nat.not_lt_zero, Bool.true_and, Bool.false_and, Bool.and_true, Bool.and_false, Bool.or_true, Bool.or_false, Bool.true_or, Bool.false_or, c_cmp_Compareint S, r2, c_or2 S, deep_sr, Nat.succ_ne_zero]
theorem c_dirs_Compare (dp : Nat) (a_k : Int) (a_n : Int) (b_k : Int) (b_n : Int) (A : List Blk) (nb : Nat) (us : List Nat) : evOwnK false E (evC E fn (dp + 3)) 89 A nb (some ([.agg [vi a_k, vi a_n], .agg [vi b_k, vi b_n]], us)) = some (.made (.d (vi (orI [cmpI (⟨a_k, a_n⟩ : Dir).kind (⟨b_k, b_n⟩ : Dir).kind, cmpI (⟨a_k, a_n⟩ : Dir).n (⟨b_k, b_n⟩ : Dir).n]))) []) :=
  Says.flat (raw_dirs_Compare S dp (⟨a_k, a_n⟩ : Dir) (⟨b_k, b_n⟩ : Dir) ) (np S 89 (by decide)) (rfl) A nb us
theorem raw_dirs_Less (dp : Nat) (a : Dir) (b : Dir) : Says E fn (dp + 4) 37 [.agg (Cl.cells a), .agg (Cl.cells b)] (vb (lessM a b)) := by
  unfold Says
  show ansOf (evC E fn (dp + 3 + 1) 37 [.d (.agg (Cl.cells a)), .d (.agg (Cl.cells b))] []) = _
  rw [evC_succ, S.f_dirs_Less, apF_some, F_dirs_Less, mkF_run _ _ _ _ _ _ _ _ rfl]
  simp only [endN_gen, go_sem, Nat.reduceLT, Nat.reduceEqDiff, Nat.reduceAdd, Nat.reduceMul, Nat.reduceLeDiff, thq S, nbr S, TH, f_reach, Bool.beq_eq_decide_eq, bne, decide_true, decide_false, Int.reduceEq, reduceCtorEq, List.mem_cons, List.not_mem_nil, or_false, false_or, or_true, true_or, Nat.not_lt_zero, Bool.true_and, Bool.false_and, Bool.and_true, Bool.and_false, Bool.or_true, Bool.or_false, Bool.true_or, Bool.false_or, c_dirs_Compare S, lessM]
theorem c_dirs_Less (dp : Nat) (a_k : Int) (a_n : Int) (b_k : Int) (b_n : Int) (A : List Blk) (nb : Nat) (us : List Nat) : evOwnK false E (evC E fn (dp + 4)) 37 A nb (some ([.agg [vi a_k, vi a_n], .agg [vi b_k, vi b_n]], us)) = some (.made (.d (vb (lessM (⟨a_k, a_n⟩ : Dir) (⟨b_k, b_n⟩ : Dir)))) []) :=
  Says.flat (raw_dirs_Less S dp (⟨a_k, a_n⟩ : Dir) (⟨b_k, b_n⟩ : Dir) ) (np S 37 (by decide)) (rfl) A nb us
end
theorem less_iff (a b : Dir) : lessM a b = true ↔ a.kind < b.kind ∨ a.kind = b.kind ∧ a.n < b.n := by
  simp only [lessM, orI, cmpI, decide_eq_true_eq]
  by_cases h1 : a.kind < b.kind
  · simp [h1]
  · by_cases h2 : b.kind < a.kind
    · simp [h1, h2] <;> omega
    · by_cases h3 : a.n < b.n
      · simp [h1, h2, h3] <;> omega
      · by_cases h4 : b.n < a.n
        · simp [h1, h2, h3, h4] <;> omega
        · simp [h1, h2, h3, h4]
theorem less_f {a b : Dir} (h : ¬ (a.kind < b.kind ∨ a.kind = b.kind ∧ a.n < b.n)) : lessM a b = false := by
  cases hl : lessM a b with
  | false => rfl
  | true => exact absurd ((less_iff a b).1 hl) h
theorem less_t {a b : Dir} (h : a.kind < b.kind ∨ a.kind = b.kind ∧ a.n < b.n) : lessM a b = true := (less_iff a b).2 h
section
variable (S : Sur E fn)
include S
theorem raw_law17 (ha : E.prim 38 = some trueG) (dp : Nat) (a b c : Dir) : evC E fn (dp + 5) 11 [.d (.agg (Cl.cells a)), .d (.agg (Cl.cells b)), .d (.agg (Cl.cells c))] [] = some (abool true, []) := by
  rw [evC_succ, S.f_augurylaw17_DirsOrder, apF_some, F_augurylaw17_DirsOrder, mkF_run _ _ _ _ _ _ _ _ rfl]
  have haa : lessM a a = false := less_f (by omega)
  by_cases h1 : a.kind < b.kind ∨ a.kind = b.kind ∧ a.n < b.n
  · have hab := less_t h1
    have hba : lessM b a = false := less_f (by omega)
    have hne : ¬ (a.kind = b.kind ∧ a.n = b.n) := by omega
    have hge : a.kind ≥ b.kind → lessM a b = true := fun _ => hab
    by_cases hk : a.kind = b.kind
    · have hn : ¬ a.n = b.n := by omega
      have hg : a.kind ≥ b.kind := by omega
      cases hbc : lessM b c with
      | true =>
        have hac : lessM a c = true := less_t (by have := (less_iff b c).1 hbc; omega)
        simp only [endN_gen, go_sem, Nat.reduceLT, Nat.reduceEqDiff, Nat.reduceAdd, Nat.reduceMul, Nat.reduceLeDiff, thq S, nbr S, TH, f_reach, Bool.beq_eq_decide_eq, bne, decide_true, decide_false, Int.reduceEq, reduceCtorEq, List.mem_cons, List.not_mem_nil, or_false, false_or, or_true, true_or, Nat.not_lt_zero, Bool.true_and, Bool.false_and, Bool.and_true, Bool.and_false, Bool.or_true, Bool.or_false, Bool.true_or, Bool.false_or, off S 11 7 (by decide) rfl, c_dirs_Less S, c_told ha, haa, hab, hba, hbc, hac, eq_true hk, eq_false hn, eq_true hg, Bool.not_true, Bool.not_false, Bool.false_eq_true, Bool.true_eq_false, if_false]
      | false =>
        simp only [endN_gen, go_sem, Nat.reduceLT, Nat.reduceEqDiff, Nat.reduceAdd, Nat.reduceMul, Nat.reduceLeDiff, thq S, nbr S, TH, f_reach, Bool.beq_eq_decide_eq, bne, decide_true, decide_false, Int.reduceEq, reduceCtorEq, List.mem_cons, List.not_mem_nil, or_false, false_or, or_true, true_or, Nat.not_lt_zero, Bool.true_and, Bool.false_and, Bool.and_true, Bool.and_false, Bool.or_true, Bool.or_false, Bool.true_or, Bool.false_or, off S 11 7 (by decide) rfl, c_dirs_Less S, c_told ha, haa, hab, hba, hbc, eq_true hk, eq_false hn, eq_true hg, Bool.not_true, Bool.not_false, Bool.false_eq_true, Bool.true_eq_false, if_false]
    · have hg : ¬ a.kind ≥ b.kind := by omega
      cases hbc : lessM b c with
      | true =>
        have hac : lessM a c = true := less_t (by have := (less_iff b c).1 hbc; omega)
        simp only [endN_gen, go_sem, Nat.reduceLT, Nat.reduceEqDiff, Nat.reduceAdd, Nat.reduceMul, Nat.reduceLeDiff, thq S, nbr S, TH, f_reach, Bool.beq_eq_decide_eq, bne, decide_true, decide_false, Int.reduceEq, reduceCtorEq, List.mem_cons, List.not_mem_nil, or_false, false_or, or_true, true_or, Nat.not_lt_zero, Bool.true_and, Bool.false_and, Bool.and_true, Bool.and_false, Bool.or_true, Bool.or_false, Bool.true_or, Bool.false_or, off S 11 7 (by decide) rfl, c_dirs_Less S, c_told ha, haa, hab, hba, hbc, hac, eq_false hk, eq_false hg, Bool.not_true, Bool.not_false, Bool.false_eq_true, Bool.true_eq_false, if_false]
      | false =>
        simp only [endN_gen, go_sem, Nat.reduceLT, Nat.reduceEqDiff, Nat.reduceAdd, Nat.reduceMul, Nat.reduceLeDiff, thq S, nbr S, TH, f_reach, Bool.beq_eq_decide_eq, bne, decide_true, decide_false, Int.reduceEq, reduceCtorEq, List.mem_cons, List.not_mem_nil, or_false, false_or, or_true, true_or, Nat.not_lt_zero, Bool.true_and, Bool.false_and, Bool.and_true, Bool.and_false, Bool.or_true, Bool.or_false, Bool.true_or, Bool.false_or, off S 11 7 (by decide) rfl, c_dirs_Less S, c_told ha, haa, hab, hba, hbc, eq_false hk, eq_false hg, Bool.not_true, Bool.not_false, Bool.false_eq_true, Bool.true_eq_false, if_false]
  · have hab : lessM a b = false := less_f h1
    have hg : a.kind ≥ b.kind := by omega
    by_cases h2 : a.kind = b.kind ∧ a.n = b.n
    · have hba : lessM b a = false := less_f (by omega)
      simp only [endN_gen, go_sem, Nat.reduceLT, Nat.reduceEqDiff, Nat.reduceAdd, Nat.reduceMul, Nat.reduceLeDiff, thq S, nbr S, TH, f_reach, Bool.beq_eq_decide_eq, bne, decide_true, decide_false, Int.reduceEq, reduceCtorEq, List.mem_cons, List.not_mem_nil, or_false, false_or, or_true, true_or, Nat.not_lt_zero, Bool.true_and, Bool.false_and, Bool.and_true, Bool.and_false, Bool.or_true, Bool.or_false, Bool.true_or, Bool.false_or, off S 11 7 (by decide) rfl, c_dirs_Less S, c_told ha, haa, hab, hba, eq_true h2.1, eq_true h2.2, eq_true hg, Bool.not_true, Bool.not_false, Bool.false_eq_true, Bool.true_eq_false, if_false]
    · have hba : lessM b a = true := less_t (by omega)
      by_cases hk : a.kind = b.kind
      · have hn : ¬ a.n = b.n := by omega
        simp only [endN_gen, go_sem, Nat.reduceLT, Nat.reduceEqDiff, Nat.reduceAdd, Nat.reduceMul, Nat.reduceLeDiff, thq S, nbr S, TH, f_reach, Bool.beq_eq_decide_eq, bne, decide_true, decide_false, Int.reduceEq, reduceCtorEq, List.mem_cons, List.not_mem_nil, or_false, false_or, or_true, true_or, Nat.not_lt_zero, Bool.true_and, Bool.false_and, Bool.and_true, Bool.and_false, Bool.or_true, Bool.or_false, Bool.true_or, Bool.false_or, off S 11 7 (by decide) rfl, c_dirs_Less S, c_told ha, haa, hab, hba, eq_true hk, eq_false hn, eq_true hg, Bool.not_true, Bool.not_false, Bool.false_eq_true, Bool.true_eq_false, if_false]
      · simp only [endN_gen, go_sem, Nat.reduceLT, Nat.reduceEqDiff, Nat.reduceAdd, Nat.reduceMul, Nat.reduceLeDiff, thq S, nbr S, TH, f_reach, Bool.beq_eq_decide_eq, bne, decide_true, decide_false, Int.reduceEq, reduceCtorEq, List.mem_cons, List.not_mem_nil, or_false, false_or, or_true, true_or, Nat.not_lt_zero, Bool.true_and, Bool.false_and, Bool.and_true, Bool.and_false, Bool.or_true, Bool.or_false, Bool.true_or, Bool.false_or, off S 11 7 (by decide) rfl, c_dirs_Less S, c_told ha, haa, hab, hba, eq_false hk, eq_true hg, Bool.not_true, Bool.not_false, Bool.false_eq_true, Bool.true_eq_false, if_false]
end
end Go.Aug.Mc

