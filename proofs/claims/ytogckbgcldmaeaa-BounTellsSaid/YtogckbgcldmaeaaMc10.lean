/- Values, ways, cells: what the program answers. -/
import Derived.Test.YtogckbgcldmaeaaMc2
import Derived.Test.YtogckbgcldmaeaaMd2
namespace Go.Aug.Mc
open Go Go.Aug
set_option linter.unusedSimpArgs false
set_option linter.unusedVariables false
set_option maxHeartbeats 40000000
/-- How many cells all regions have. -/
def cellsI (l : List MemT) : Int := (l.map fun m => min (max m.n 0) 16).sum
theorem cellsI_le : ∀ l : List MemT, 0 ≤ cellsI l ∧ cellsI l ≤ 16 * l.length
  | [] => by simp [cellsI]
  | m :: l => by
    have := cellsI_le l
    simp only [cellsI, List.map_cons, List.sum_cons, List.length_cons] at this ⊢
    omega
theorem cellsI_take {l : List MemT} {i : Nat} {m : MemT} (h : l[i]? = some m) : cellsI (l.take (i + 1)) = cellsI (l.take i) + min (max m.n 0) 16 := by
  unfold cellsI
  rw [take_get h, List.map_append, List.sum_append]
  simp
def valueM (p : Prog) (x : Ins) (a b d : Int) : Int := if x.kind = 4 then (if a = 0 then d else b) else Md.wdo p.w x.op a b
def wayM (p : Prog) (x : Ins) (pc a b : Int) : Int := if x.kind = 7 then min a p.ins.length else if Md.wdo p.w x.op a b = 0 then Md.w64 (pc + 1) else x.target
variable {E : Env} {fn : FuncId → Option (Env → CallT → CallT)}
section
variable (S : Sur E fn)
include S
theorem loop_Cells (dp : Nat) (l : List MemT) (hl : l.length < 1073741824) (kx : Nat → K) (D : Int)
    (hx : ∀ T, getS .bot T 3 = aint (cellsI l) → ansOf (kx 0 (mk .bot 21 T) []) = some (vi D)) :
    ∀ (m k fuel : Nat), k + m = l.length → m ≤ fuel → ansOf (B8_arch_Cells (inn E 45) (evC E fn dp) (loopK 8 B8_arch_Cells (inn E 45) (evC E fn dp) kx (kEnd 0 [.tmp 2]) fuel) kx (kEnd 0 [.tmp 2])
      (mk .bot 21 [(3, aint (cellsI (l.take k))), (7, .d (rowD l)), (8, aint l.length), (9, aint k)]) []) = some (vi D) := by
  intro m
  induction m with
  | zero =>
    intro k fuel hk _
    generalize loopK 8 B8_arch_Cells _ _ kx _ fuel = KK
    rw [B8_arch_Cells, List.take_of_length_le (by omega)]
    simp only [endN_gen, go_sem, Nat.reduceLT, Nat.reduceEqDiff, Nat.reduceAdd, Nat.reduceMul, Nat.reduceLeDiff, thq S, nbr S, TH, f_reach, Bool.beq_eq_decide_eq, bne, decide_true, decide_false, Int.reduceEq, Int.reduceLT, Int.reduceLE, Int.reduceNeg, reduceCtorEq, List.mem_cons, List.not_mem_nil, or_false, false_or, or_true, true_or, Nat.not_lt_zero, Bool.true_and, Bool.false_and, Bool.and_true, Bool.and_false, Bool.or_true, Bool.or_false, Bool.true_or, Bool.false_or, off S 45 1 (by decide) rfl, show ¬ (k : Int) < l.length by omega]
    exact hx _ rfl
  | succ m ih =>
    intro k fuel hk hf
    obtain ⟨e, he⟩ := get_of (show k < l.length by omega)
    obtain ⟨fuel, rfl⟩ : ∃ m, fuel = m + 1 := ⟨fuel - 1, by omega⟩
    generalize hK : loopK 8 B8_arch_Cells _ _ kx _ (fuel + 1) = KK
    rw [B8_arch_Cells]
    have hb := cellsI_le (l.take k)
    have hbl : (l.take k).length ≤ l.length := by simp; omega
    have hw : IntKind.i64.wrap (cellsI (l.take k) + min (max e.n 0) 16) = cellsI (l.take (k + 1)) := by
      rw [cellsI_take he]
      exact wrap_i64 (by omega) (by omega)
    simp only [endN_gen, go_sem, Nat.reduceLT, Nat.reduceEqDiff, Nat.reduceAdd, Nat.reduceMul, Nat.reduceLeDiff, thq S, nbr S, TH, f_reach, Bool.beq_eq_decide_eq, bne, decide_true, decide_false, Int.reduceEq, Int.reduceLT, Int.reduceLE, Int.reduceNeg, reduceCtorEq, List.mem_cons, List.not_mem_nil, or_false, false_or, or_true, true_or, Nat.not_lt_zero, Bool.true_and, Bool.false_and, Bool.and_true, Bool.and_false, Bool.or_true, Bool.or_false, Bool.true_or, Bool.false_or, off S 45 1 (by decide) rfl, show (k : Int) < l.length by omega, w_ix he, wi k (by omega), hw]
    rw [← hK, loop_in (on S _ _ [3, 7, 8, 9] (by decide) rfl) rfl _ _ _ _ _ _ _ _ _ rfl]
    simp only [endN_gen, go_sem, Nat.reduceLT, Nat.reduceEqDiff, Nat.reduceAdd, Nat.reduceMul, Nat.reduceLeDiff, thq S, nbr S, TH, f_reach, Bool.beq_eq_decide_eq, bne, decide_true, decide_false, Int.reduceEq, Int.reduceLT, Int.reduceLE, Int.reduceNeg, reduceCtorEq, List.mem_cons, List.not_mem_nil, or_false, false_or, or_true, true_or, Nat.not_lt_zero, Bool.true_and, Bool.false_and, Bool.and_true, Bool.and_false, Bool.or_true, Bool.or_false, Bool.true_or, Bool.false_or, off S 45 1 (by decide) rfl]
    exact ih (k + 1) fuel (by omega) (by omega)
theorem raw_arch_Cells (dp : Nat) (p : Prog) (hm : p.mems.length < 1073741824) : Says E fn (dp + 1) 45 [progD p] (vi (cellsI p.mems)) := by
  unfold Says
  show ansOf (evC E fn (dp + 1) 45 [.d (progD p)] []) = _
  rw [evC_succ, S.f_arch_Cells, apF_some, F_arch_Cells, mkF_run _ _ _ _ _ _ _ _ rfl]
  simp only [endN_gen, go_sem, Nat.reduceLT, Nat.reduceEqDiff, Nat.reduceAdd, Nat.reduceMul, Nat.reduceLeDiff, thq S, nbr S, TH, f_reach, Bool.beq_eq_decide_eq, bne, decide_true, decide_false, Int.reduceEq, Int.reduceLT, Int.reduceLE, Int.reduceNeg, reduceCtorEq, List.mem_cons, List.not_mem_nil, or_false, false_or, or_true, true_or, Nat.not_lt_zero, Bool.true_and, Bool.false_and, Bool.and_true, Bool.and_false, Bool.or_true, Bool.or_false, Bool.true_or, Bool.false_or, off S 45 1 (by decide) rfl]
  rw [big_eq, loop_in (on S _ _ [3, 7, 8, 9] (by decide) rfl) rfl _ _ _ _ _ _ _ _ _ rfl]
  simp only [endN_gen, go_sem, Nat.reduceLT, Nat.reduceEqDiff, Nat.reduceAdd, Nat.reduceMul, Nat.reduceLeDiff, thq S, nbr S, TH, f_reach, Bool.beq_eq_decide_eq, bne, decide_true, decide_false, Int.reduceEq, Int.reduceLT, Int.reduceLE, Int.reduceNeg, reduceCtorEq, List.mem_cons, List.not_mem_nil, or_false, false_or, or_true, true_or, Nat.not_lt_zero, Bool.true_and, Bool.false_and, Bool.and_true, Bool.and_false, Bool.or_true, Bool.or_false, Bool.true_or, Bool.false_or, off S 45 1 (by decide) rfl]
  refine loop_Cells S dp p.mems hm _ (cellsI p.mems) ?_ p.mems.length 0 _ (by omega) (by omega)
  intro T h3
  simp only [endN_gen, go_sem, Nat.reduceLT, Nat.reduceEqDiff, Nat.reduceAdd, Nat.reduceMul, Nat.reduceLeDiff, thq S, nbr S, TH, f_reach, Bool.beq_eq_decide_eq, bne, decide_true, decide_false, Int.reduceEq, Int.reduceLT, Int.reduceLE, Int.reduceNeg, reduceCtorEq, List.mem_cons, List.not_mem_nil, or_false, false_or, or_true, true_or, Nat.not_lt_zero, Bool.true_and, Bool.false_and, Bool.and_true, Bool.and_false, Bool.or_true, Bool.or_false, Bool.true_or, Bool.false_or, off S 45 1 (by decide) rfl, h3]
theorem c_arch_Cells (dp : Nat) (p_w : Int) (p_wn : Int) (p_fu : Int) (p_r0 : Int) (p_r1 : Int) (p_r2 : Int) (p_r3 : Int) (p_ms : List MemT) (p_ls : List Label) (p_is : List Ins) (hm : (⟨p_w, p_wn, p_fu, ⟨p_r0, p_r1, p_r2, p_r3⟩, p_ms, p_ls, p_is⟩ : Prog).mems.length < 1073741824) (A : List Blk) (nb : Nat) (us : List Nat) : evOwnK false E (evC E fn (dp + 1)) 45 A nb (some ([.agg [vi p_w, vi p_wn, vi p_fu, vi p_r0, vi p_r1, vi p_r2, vi p_r3, rowD p_ms, rowD p_ls, rowD p_is]], us)) = some (.made (.d (vi (cellsI (⟨p_w, p_wn, p_fu, ⟨p_r0, p_r1, p_r2, p_r3⟩, p_ms, p_ls, p_is⟩ : Prog).mems))) []) :=
  Says.flat (raw_arch_Cells S dp (⟨p_w, p_wn, p_fu, ⟨p_r0, p_r1, p_r2, p_r3⟩, p_ms, p_ls, p_is⟩ : Prog) hm) (np S 45 (by decide)) (rfl) A nb us
theorem raw_seqm_Value (dp : Nat) (p : Prog) (x : Ins) (a : Int) (b : Int) (d : Int) : Says E fn (dp + 5) 61 [progD p, .agg (Cl.cells x), vi a, vi b, vi d] (vi (valueM p x a b d)) := by
  unfold Says
  show ansOf (evC E fn (dp + 4 + 1) 61 [.d (progD p), .d (.agg (Cl.cells x)), .d (vi a), .d (vi b), .d (vi d)] []) = _
  rw [evC_succ, S.f_seqm_Value, apF_some, F_seqm_Value, mkF_run _ _ _ _ _ _ _ _ rfl]
  by_cases h : x.kind = 4
  · by_cases h2 : a = 0
    · simp only [endN_gen, go_sem, Nat.reduceLT, Nat.reduceEqDiff, Nat.reduceAdd, Nat.reduceMul, Nat.reduceLeDiff, thq S, nbr S, TH, f_reach, Bool.beq_eq_decide_eq, bne, decide_true, decide_false, Int.reduceEq, Int.reduceLT, Int.reduceLE, Int.reduceNeg, reduceCtorEq, List.mem_cons, List.not_mem_nil, or_false, false_or, or_true, true_or, Nat.not_lt_zero, Bool.true_and, Bool.false_and, Bool.and_true, Bool.and_false, Bool.or_true, Bool.or_false, Bool.true_or, Bool.false_or, off S 61 7 (by decide) rfl, off S 61 9 (by decide) rfl, h, eq_true h2, valueM, Bool.not_true, Bool.not_false]
    · simp only [endN_gen, go_sem, Nat.reduceLT, Nat.reduceEqDiff, Nat.reduceAdd, Nat.reduceMul, Nat.reduceLeDiff, thq S, nbr S, TH, f_reach, Bool.beq_eq_decide_eq, bne, decide_true, decide_false, Int.reduceEq, Int.reduceLT, Int.reduceLE, Int.reduceNeg, reduceCtorEq, List.mem_cons, List.not_mem_nil, or_false, false_or, or_true, true_or, Nat.not_lt_zero, Bool.true_and, Bool.false_and, Bool.and_true, Bool.and_false, Bool.or_true, Bool.or_false, Bool.true_or, Bool.false_or, off S 61 7 (by decide) rfl, off S 61 9 (by decide) rfl, h, eq_false h2, valueM, Bool.not_true, Bool.not_false]
  · simp only [endN_gen, go_sem, Nat.reduceLT, Nat.reduceEqDiff, Nat.reduceAdd, Nat.reduceMul, Nat.reduceLeDiff, thq S, nbr S, TH, f_reach, Bool.beq_eq_decide_eq, bne, decide_true, decide_false, Int.reduceEq, Int.reduceLT, Int.reduceLE, Int.reduceNeg, reduceCtorEq, List.mem_cons, List.not_mem_nil, or_false, false_or, or_true, true_or, Nat.not_lt_zero, Bool.true_and, Bool.false_and, Bool.and_true, Bool.and_false, Bool.or_true, Bool.or_false, Bool.true_or, Bool.false_or, off S 61 7 (by decide) rfl, off S 61 9 (by decide) rfl, h, valueM, c_word_Do S]
theorem c_seqm_Value (dp : Nat) (p_w : Int) (p_wn : Int) (p_fu : Int) (p_r0 : Int) (p_r1 : Int) (p_r2 : Int) (p_r3 : Int) (p_ms : List MemT) (p_ls : List Label) (p_is : List Ins) (x_k : Int) (x_o : Int) (x_d : Int) (x_ag : Bool) (x_an : Int) (x_bg : Bool) (x_bn : Int) (x_nm : ByteArray) (x_tg : Int) (a : Int) (b : Int) (d : Int) (A : List Blk) (nb : Nat) (us : List Nat) : evOwnK false E (evC E fn (dp + 5)) 61 A nb (some ([.agg [vi p_w, vi p_wn, vi p_fu, vi p_r0, vi p_r1, vi p_r2, vi p_r3, rowD p_ms, rowD p_ls, rowD p_is], .agg [vi x_k, vi x_o, vi x_d, vb x_ag, vi x_an, vb x_bg, vi x_bn, vt x_nm, vi x_tg], vi a, vi b, vi d], us)) = some (.made (.d (vi (valueM (⟨p_w, p_wn, p_fu, ⟨p_r0, p_r1, p_r2, p_r3⟩, p_ms, p_ls, p_is⟩ : Prog) (⟨x_k, x_o, x_d, ⟨x_ag, x_an⟩, ⟨x_bg, x_bn⟩, x_nm, x_tg⟩ : Ins) a b d))) []) :=
  Says.flat (raw_seqm_Value S dp (⟨p_w, p_wn, p_fu, ⟨p_r0, p_r1, p_r2, p_r3⟩, p_ms, p_ls, p_is⟩ : Prog) (⟨x_k, x_o, x_d, ⟨x_ag, x_an⟩, ⟨x_bg, x_bn⟩, x_nm, x_tg⟩ : Ins) a b d ) (np S 61 (by decide)) (rfl) A nb us
theorem raw_seqm_Way (dp : Nat) (p : Prog) (x : Ins) (pc : Int) (a : Int) (b : Int) : Says E fn (dp + 5) 63 [progD p, .agg (Cl.cells x), vi pc, vi a, vi b] (vi (wayM p x pc a b)) := by
  unfold Says
  show ansOf (evC E fn (dp + 4 + 1) 63 [.d (progD p), .d (.agg (Cl.cells x)), .d (vi pc), .d (vi a), .d (vi b)] []) = _
  rw [evC_succ, S.f_seqm_Way, apF_some, F_seqm_Way, mkF_run _ _ _ _ _ _ _ _ rfl]
  by_cases h : x.kind = 7
  · simp only [endN_gen, go_sem, Nat.reduceLT, Nat.reduceEqDiff, Nat.reduceAdd, Nat.reduceMul, Nat.reduceLeDiff, thq S, nbr S, TH, f_reach, Bool.beq_eq_decide_eq, bne, decide_true, decide_false, Int.reduceEq, Int.reduceLT, Int.reduceLE, Int.reduceNeg, reduceCtorEq, List.mem_cons, List.not_mem_nil, or_false, false_or, or_true, true_or, Nat.not_lt_zero, Bool.true_and, Bool.false_and, Bool.and_true, Bool.and_false, Bool.or_true, Bool.or_false, Bool.true_or, Bool.false_or, off S 63 7 (by decide) rfl, off S 63 13 (by decide) rfl, h, wayM]
  · by_cases h2 : Md.wdo p.w x.op a b = 0
    · simp only [endN_gen, go_sem, Nat.reduceLT, Nat.reduceEqDiff, Nat.reduceAdd, Nat.reduceMul, Nat.reduceLeDiff, thq S, nbr S, TH, f_reach, Bool.beq_eq_decide_eq, bne, decide_true, decide_false, Int.reduceEq, Int.reduceLT, Int.reduceLE, Int.reduceNeg, reduceCtorEq, List.mem_cons, List.not_mem_nil, or_false, false_or, or_true, true_or, Nat.not_lt_zero, Bool.true_and, Bool.false_and, Bool.and_true, Bool.and_false, Bool.or_true, Bool.or_false, Bool.true_or, Bool.false_or, off S 63 7 (by decide) rfl, off S 63 13 (by decide) rfl, h, wayM, c_word_Do S, h2, Bool.not_true, Bool.not_false, Md.w64]
    · simp only [endN_gen, go_sem, Nat.reduceLT, Nat.reduceEqDiff, Nat.reduceAdd, Nat.reduceMul, Nat.reduceLeDiff, thq S, nbr S, TH, f_reach, Bool.beq_eq_decide_eq, bne, decide_true, decide_false, Int.reduceEq, Int.reduceLT, Int.reduceLE, Int.reduceNeg, reduceCtorEq, List.mem_cons, List.not_mem_nil, or_false, false_or, or_true, true_or, Nat.not_lt_zero, Bool.true_and, Bool.false_and, Bool.and_true, Bool.and_false, Bool.or_true, Bool.or_false, Bool.true_or, Bool.false_or, off S 63 7 (by decide) rfl, off S 63 13 (by decide) rfl, h, wayM, c_word_Do S, h2, Bool.not_true, Bool.not_false, Md.w64]
theorem c_seqm_Way (dp : Nat) (p_w : Int) (p_wn : Int) (p_fu : Int) (p_r0 : Int) (p_r1 : Int) (p_r2 : Int) (p_r3 : Int) (p_ms : List MemT) (p_ls : List Label) (p_is : List Ins) (x_k : Int) (x_o : Int) (x_d : Int) (x_ag : Bool) (x_an : Int) (x_bg : Bool) (x_bn : Int) (x_nm : ByteArray) (x_tg : Int) (pc : Int) (a : Int) (b : Int) (A : List Blk) (nb : Nat) (us : List Nat) : evOwnK false E (evC E fn (dp + 5)) 63 A nb (some ([.agg [vi p_w, vi p_wn, vi p_fu, vi p_r0, vi p_r1, vi p_r2, vi p_r3, rowD p_ms, rowD p_ls, rowD p_is], .agg [vi x_k, vi x_o, vi x_d, vb x_ag, vi x_an, vb x_bg, vi x_bn, vt x_nm, vi x_tg], vi pc, vi a, vi b], us)) = some (.made (.d (vi (wayM (⟨p_w, p_wn, p_fu, ⟨p_r0, p_r1, p_r2, p_r3⟩, p_ms, p_ls, p_is⟩ : Prog) (⟨x_k, x_o, x_d, ⟨x_ag, x_an⟩, ⟨x_bg, x_bn⟩, x_nm, x_tg⟩ : Ins) pc a b))) []) :=
  Says.flat (raw_seqm_Way S dp (⟨p_w, p_wn, p_fu, ⟨p_r0, p_r1, p_r2, p_r3⟩, p_ms, p_ls, p_is⟩ : Prog) (⟨x_k, x_o, x_d, ⟨x_ag, x_an⟩, ⟨x_bg, x_bn⟩, x_nm, x_tg⟩ : Ins) pc a b ) (np S 63 (by decide)) (rfl) A nb us
theorem raw_seqm_Address (dp : Nat) (p : Prog) (a : Int) (b : Int) (hm : p.mems.length < 1073741824) : Says E fn (dp + 4) 68 [progD p, vi a, vi b] (.tup [vi (Md.mask p.w (a + b)), vb (decide (Md.mask p.w (a + b) < cellsI p.mems))]) := by
  unfold Says
  show ansOf (evC E fn (dp + 3 + 1) 68 [.d (progD p), .d (vi a), .d (vi b)] []) = _
  rw [evC_succ, S.f_seqm_Address, apF_some, F_seqm_Address, mkF_run _ _ _ _ _ _ _ _ rfl]
  simp only [endN_gen, go_sem, Nat.reduceLT, Nat.reduceEqDiff, Nat.reduceAdd, Nat.reduceMul, Nat.reduceLeDiff, thq S, nbr S, TH, f_reach, Bool.beq_eq_decide_eq, bne, decide_true, decide_false, Int.reduceEq, Int.reduceLT, Int.reduceLE, Int.reduceNeg, reduceCtorEq, List.mem_cons, List.not_mem_nil, or_false, false_or, or_true, true_or, Nat.not_lt_zero, Bool.true_and, Bool.false_and, Bool.and_true, Bool.and_false, Bool.or_true, Bool.or_false, Bool.true_or, Bool.false_or, c_word_Mask S, Md.mask_wrap, c_arch_Cells S, hm]
theorem c_seqm_Address (dp : Nat) (p_w : Int) (p_wn : Int) (p_fu : Int) (p_r0 : Int) (p_r1 : Int) (p_r2 : Int) (p_r3 : Int) (p_ms : List MemT) (p_ls : List Label) (p_is : List Ins) (a : Int) (b : Int) (hm : (⟨p_w, p_wn, p_fu, ⟨p_r0, p_r1, p_r2, p_r3⟩, p_ms, p_ls, p_is⟩ : Prog).mems.length < 1073741824) (A : List Blk) (nb : Nat) (us : List Nat) : evOwnK false E (evC E fn (dp + 4)) 68 A nb (some ([.agg [vi p_w, vi p_wn, vi p_fu, vi p_r0, vi p_r1, vi p_r2, vi p_r3, rowD p_ms, rowD p_ls, rowD p_is], vi a, vi b], us)) = some (.made (.d (.tup [vi (Md.mask (⟨p_w, p_wn, p_fu, ⟨p_r0, p_r1, p_r2, p_r3⟩, p_ms, p_ls, p_is⟩ : Prog).w (a + b)), vb (decide (Md.mask (⟨p_w, p_wn, p_fu, ⟨p_r0, p_r1, p_r2, p_r3⟩, p_ms, p_ls, p_is⟩ : Prog).w (a + b) < cellsI (⟨p_w, p_wn, p_fu, ⟨p_r0, p_r1, p_r2, p_r3⟩, p_ms, p_ls, p_is⟩ : Prog).mems))])) []) :=
  Says.flat (raw_seqm_Address S dp (⟨p_w, p_wn, p_fu, ⟨p_r0, p_r1, p_r2, p_r3⟩, p_ms, p_ls, p_is⟩ : Prog) a b hm) (np S 68 (by decide)) (rfl) A nb us
theorem raw_retb_Pop (dp : Nat) (l : List Int) (hl : l.length < 1073741824) : Says E fn (dp + 1) 104 [rowD l] (.tup [vi (Md.lastI l), rowD l.dropLast, vb (decide (l.length ≠ 0))]) := by
  unfold Says
  show ansOf (evC E fn (dp + 1) 104 [.d (rowD l)] []) = _
  rw [evC_succ, S.f_retb_Pop, apF_some, F_retb_Pop, mkF_run _ _ _ _ _ _ _ _ rfl]
  by_cases h : l.length = 0
  · have : l = [] := List.length_eq_zero_iff.1 h
    subst this
    simp only [endN_gen, go_sem, Nat.reduceLT, Nat.reduceEqDiff, Nat.reduceAdd, Nat.reduceMul, Nat.reduceLeDiff, thq S, nbr S, TH, f_reach, Bool.beq_eq_decide_eq, bne, decide_true, decide_false, Int.reduceEq, Int.reduceLT, Int.reduceLE, Int.reduceNeg, reduceCtorEq, List.mem_cons, List.not_mem_nil, or_false, false_or, or_true, true_or, Nat.not_lt_zero, Bool.true_and, Bool.false_and, Bool.and_true, Bool.and_false, Bool.or_true, Bool.or_false, Bool.true_or, Bool.false_or, off S 104 9 (by decide) rfl, List.length_nil, Int.natCast_eq_zero, Md.lastI]
    rfl
  · have hlast : l[l.length - 1]? = some (Md.lastI l) := by
      unfold Md.lastI
      rw [List.getLast?_eq_getElem?]
      obtain ⟨e, he⟩ := get_of (show l.length - 1 < l.length by omega)
      rw [he]; rfl
    have w2 : IntKind.i64.wrap ((l.length : Int) - 1) = ((l.length - 1 : Nat) : Int) := by rw [wrap_i64 (by omega) (by omega)]; omega
    have bd := bndsV_hi l.length .i64 ((l.length - 1 : Nat) : Int) (by omega) (by omega)
    have hdl : l.take (l.length - 1) = l.dropLast := List.dropLast_eq_take.symm
    have hdn : l.dropLast.length < 1073741824 := by simp; omega
    simp only [endN_gen, go_sem, Nat.reduceLT, Nat.reduceEqDiff, Nat.reduceAdd, Nat.reduceMul, Nat.reduceLeDiff, thq S, nbr S, TH, f_reach, Bool.beq_eq_decide_eq, bne, decide_true, decide_false, Int.reduceEq, Int.reduceLT, Int.reduceLE, Int.reduceNeg, reduceCtorEq, List.mem_cons, List.not_mem_nil, or_false, false_or, or_true, true_or, Nat.not_lt_zero, Bool.true_and, Bool.false_and, Bool.and_true, Bool.and_false, Bool.or_true, Bool.or_false, Bool.true_or, Bool.false_or, off S 104 9 (by decide) rfl, eq_false h, Int.natCast_eq_zero, w2, bd, w_ix hlast, Int.toNat_natCast, List.drop_zero, Nat.sub_zero, hdl, c_cloneI S hdn, ne_eq, not_false_eq_true]
theorem c_retb_Pop (dp : Nat) (l : List Int) (hl : l.length < 1073741824) (A : List Blk) (nb : Nat) : evOwnK false E (evC E fn (dp + 1)) 104 A nb (some ([rowD l], [])) = some (.made (.d (.tup [vi (Md.lastI l), rowD l.dropLast, vb (decide (l.length ≠ 0))])) []) :=
  Says.deep (raw_retb_Pop S dp l hl) (np S 104 (by decide)) A nb
theorem u_retb_Pop (dp : Nat) (l : List Int) (hl : l.length < 1073741824) (hf : DV.flat 8 (.tup [vi (Md.lastI l), rowD l.dropLast, vb (decide (l.length ≠ 0))]) = false) (A : List Blk) (nb ui : Nat) (us : List Nat) : evOwnK false E (evC E fn (dp + 1)) 104 A nb (some ([rowD l], ui :: us)) = some (.turned (.d (.tup [vi (Md.lastI l), rowD l.dropLast, vb (decide (l.length ≠ 0))])) (setRo A (ui :: us))) :=
  Says.used (raw_retb_Pop S dp l hl) (np S 104 (by decide)) hf A nb ui us
end
end Go.Aug.Mc


