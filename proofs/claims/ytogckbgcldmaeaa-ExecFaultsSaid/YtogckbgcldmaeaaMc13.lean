/- Values, ways, cells: what the program answers. -/
import Derived.Test.YtogckbgcldmaeaaMc3
import Derived.Test.YtogckbgcldmaeaaMd2
import Derived.Test.YtogckbgcldmaeaaMc8
namespace Go.Aug.Mc
open Go Go.Aug
set_option linter.unusedSimpArgs false
set_option linter.unusedVariables false
set_option maxHeartbeats 40000000
/-- How many cells all regions have. -/
def cellsI (l : List MemT) : Int := (l.map fun m => min (max m.n 0) 16).sum
theorem cellsI_le : ∀ l : List MemT, 0 ≤ cellsI l ∧ cellsI l ≤ 16 * l.length
  | [] => by simp [cellsI]
  | m :: l => by
    have := cellsI_le l
    simp only [cellsI, List.map_cons, List.sum_cons, List.length_cons] at this ⊢
    omega
theorem cellsI_take {l : List MemT} {i : Nat} {m : MemT} (h : l[i]? = some m) : cellsI (l.take (i + 1)) = cellsI (l.take i) + min (max m.n 0) 16 := by
  unfold cellsI
  rw [take_get h, List.map_append, List.sum_append]
  simp
def valueM (p : Prog) (x : Ins) (a b d : Int) : Int := if x.kind = 4 then (if a = 0 then d else b) else Md.wdo p.w x.op a b
def wayM (p : Prog) (x : Ins) (pc a b : Int) : Int := if x.kind = 7 then min a p.ins.length else if Md.wdo p.w x.op a b = 0 then Md.w64 (pc + 1) else x.target
variable {E : Env} {fn : FuncId → Option (Env → CallT → CallT)}
section
variable (S : Sur E fn)
include S
theorem loop_Cells (dp : Nat) (l : List MemT) (hl : l.length < 1073741824) (kx : Nat → K) (D : Int)
    (hx : ∀ T, getS .bot T 3 = aint (cellsI l) → ansOf (kx 0 (mk .bot 21 T) []) = some (vi D)) :
    ∀ (m k fuel : Nat), k + m = l.length → m ≤ fuel → ansOf (B8_arch_Cells (inn E 45) (evC E fn dp) (loopK 8 B8_arch_Cells (inn E 45) (evC E fn dp) kx (kEnd 0 [.tmp 2]) fuel) kx (kEnd 0 [.tmp 2])
      (mk .bot 21 [(3, aint (cellsI (l.take k))), (7, .d (rowD l)), (8, aint l.length), (9, aint k)]) []) = some (vi D) := by
  intro m
  induction m with
  | zero =>
    intro k fuel hk _
    generalize loopK 8 B8_arch_Cells _ _ kx _ fuel = KK
    rw [B8_arch_Cells, List.take_of_length_le (by omega)]
    simp only [endN_gen, go_sem, Nat.reduceLT, Nat.reduceEqDiff, Nat.reduceAdd, Nat.reduceMul, Nat.reduceLeDiff, thq S, nbr S, TH, f_reach, Bool.beq_eq_decide_eq, bne, decide_true, decide_false, Int.reduceEq, Int.reduceLT, Int.reduceLE, Int.reduceNeg, reduceCtorEq, List.mem_cons, List.not_mem_nil, or_false, false_or, or_true, true_or, Nat.not_lt_zero, Bool.true_and, Bool.false_and, Bool.and_true, Bool.and_false, Bool.or_true, Bool.or_false, Bool.true_or, Bool.false_or, off S 45 1 (by decide) rfl, show ¬ (k : Int) < l.length by omega]
    exact hx _ rfl
  | succ m ih =>
    intro k fuel hk hf
    obtain ⟨e, he⟩ := get_of (show k < l.length by omega)
    obtain ⟨fuel, rfl⟩ : ∃ m, fuel = m + 1 := ⟨fuel - 1, by omega⟩
    generalize hK : loopK 8 B8_arch_Cells _ _ kx _ (fuel + 1) = KK
    rw [B8_arch_Cells]
    have hb := cellsI_le (l.take k)
    have hbl : (l.take k).length ≤ l.length := by simp; omega
    have hw : IntKind.i64.wrap (cellsI (l.take k) + min (max e.n 0) 16) = cellsI (l.take (k + 1)) := by
      rw [cellsI_take he]
      exact wrap_i64 (by omega) (by omega)
    simp only [endN_gen, go_sem, Nat.reduceLT, Nat.reduceEqDiff, Nat.reduceAdd, Nat.reduceMul, Nat.reduceLeDiff, thq S, nbr S, TH, f_reach, Bool.beq_eq_decide_eq, bne, decide_true, decide_false, Int.reduceEq, Int.reduceLT, Int.reduceLE, Int.reduceNeg, reduceCtorEq, List.mem_cons, List.not_mem_nil, or_false, false_or, or_true, true_or, Nat.not_lt_zero, Bool.true_and, Bool.false_and, Bool.and_true, Bool.and_false, Bool.or_true, Bool.or_false, Bool.true_or, Bool.false_or, off S 45 1 (by decide) rfl, show (k : Int) < l.length by omega, w_ix he, wi k (by omega), hw]
    rw [← hK, loop_in (on S _ _ [3, 7, 8, 9] (by decide) rfl) rfl _ _ _ _ _ _ _ _ _ rfl]
    simp only [endN_gen, go_sem, Nat.reduceLT, Nat.reduceEqDiff, Nat.reduceAdd, Nat.reduceMul, Nat.reduceLeDiff, thq S, nbr S, TH, f_reach, Bool.beq_eq_decide_eq, bne, decide_true, decide_false, Int.reduceEq, Int.reduceLT, Int.reduceLE, Int.reduceNeg, reduceCtorEq, List.mem_cons, List.not_mem_nil, or_false, false_or, or_true, true_or, Nat.not_lt_zero, Bool.true_and, Bool.false_and, Bool.and_true, Bool.and_false, Bool.or_true, Bool.or_false, Bool.true_or, Bool.false_or, off S 45 1 (by decide) rfl]
    exact ih (k + 1) fuel (by omega) (by omega)
theorem raw_arch_Cells (dp : Nat) (p : Prog) (hm : p.mems.length < 1073741824) : Says E fn (dp + 1) 45 [progD p] (vi (cellsI p.mems)) := by
  unfold Says
  show ansOf (evC E fn (dp + 1) 45 [.d (progD p)] []) = _
  rw [evC_succ, S.f_arch_Cells, apF_some, F_arch_Cells, mkF_run _ _ _ _ _ _ _ _ rfl]
  simp only [endN_gen, go_sem, Nat.reduceLT, Nat.reduceEqDiff, Nat.reduceAdd, Nat.reduceMul, Nat.reduceLeDiff, thq S, nbr S, TH, f_reach, Bool.beq_eq_decide_eq, bne, decide_true, decide_false, Int.reduceEq, Int.reduceLT, Int.reduceLE, Int.reduceNeg, reduceCtorEq, List.mem_cons, List.not_mem_nil, or_false, false_or, or_true, true_or, Nat.not_lt_zero, Bool.true_and, Bool.false_and, Bool.and_true, Bool.and_false, Bool.or_true, Bool.or_false, Bool.true_or, Bool.false_or, off S 45 1 (by decide) rfl]
  rw [big_eq, loop_in (on S _ _ [3, 7, 8, 9] (by decide) rfl) rfl _ _ _ _ _ _ _ _ _ rfl]
  simp only [endN_gen, go_sem, Nat.reduceLT, Nat.reduceEqDiff, Nat.reduceAdd, Nat.reduceMul, Nat.reduceLeDiff, thq S, nbr S, TH, f_reach, Bool.beq_eq_decide_eq, bne, decide_true, decide_false, Int.reduceEq, Int.reduceLT, Int.reduceLE, Int.reduceNeg, reduceCtorEq, List.mem_cons, List.not_mem_nil, or_false, false_or, or_true, true_or, Nat.not_lt_zero, Bool.true_and, Bool.false_and, Bool.and_true, Bool.and_false, Bool.or_true, Bool.or_false, Bool.true_or, Bool.false_or, off S 45 1 (by decide) rfl]
  refine loop_Cells S dp p.mems hm _ (cellsI p.mems) ?_ p.mems.length 0 _ (by omega) (by omega)
  intro T h3
  simp only [endN_gen, go_sem, Nat.reduceLT, Nat.reduceEqDiff, Nat.reduceAdd, Nat.reduceMul, Nat.reduceLeDiff, thq S, nbr S, TH, f_reach, Bool.beq_eq_decide_eq, bne, decide_true, decide_false, Int.reduceEq, Int.reduceLT, Int.reduceLE, Int.reduceNeg, reduceCtorEq, List.mem_cons, List.not_mem_nil, or_false, false_or, or_true, true_or, Nat.not_lt_zero, Bool.true_and, Bool.false_and, Bool.and_true, Bool.and_false, Bool.or_true, Bool.or_false, Bool.true_or, Bool.false_or, off S 45 1 (by decide) rfl, h3]
theorem c_arch_Cells (dp : Nat) (p_w : Int) (p_wn : Int) (p_fu : Int) (p_r0 : Int) (p_r1 : Int) (p_r2 : Int) (p_r3 : Int) (p_ms : List MemT) (p_ls : List Label) (p_is : List Ins) (hm : (⟨p_w, p_wn, p_fu, ⟨p_r0, p_r1, p_r2, p_r3⟩, p_ms, p_ls, p_is⟩ : Prog).mems.length < 1073741824) (A : List Blk) (nb : Nat) (us : List Nat) : evOwnK false E (evC E fn (dp + 1)) 45 A nb (some ([.agg [vi p_w, vi p_wn, vi p_fu, vi p_r0, vi p_r1, vi p_r2, vi p_r3, rowD p_ms, rowD p_ls, rowD p_is]], us)) = some (.made (.d (vi (cellsI (⟨p_w, p_wn, p_fu, ⟨p_r0, p_r1, p_r2, p_r3⟩, p_ms, p_ls, p_is⟩ : Prog).mems))) []) :=
  Says.flat (raw_arch_Cells S dp (⟨p_w, p_wn, p_fu, ⟨p_r0, p_r1, p_r2, p_r3⟩, p_ms, p_ls, p_is⟩ : Prog) hm) (np S 45 (by decide)) (rfl) A nb us
theorem raw_seqm_Value (dp : Nat) (p : Prog) (x : Ins) (a : Int) (b : Int) (d : Int) : Says E fn (dp + 5) 61 [progD p, .agg (Cl.cells x), vi a, vi b, vi d] (vi (valueM p x a b d)) := by
  unfold Says
  show ansOf (evC E fn (dp + 4 + 1) 61 [.d (progD p), .d (.agg (Cl.cells x)), .d (vi a), .d (vi b), .d (vi d)] []) = _
  rw [evC_succ, S.f_seqm_Value, apF_some, F_seqm_Value, mkF_run _ _ _ _ _ _ _ _ rfl]
  by_cases h : x.kind = 4
  · by_cases h2 : a = 0
    · simp only [endN_gen, go_sem, Nat.reduceLT, Nat.reduceEqDiff, Nat.reduceAdd, Nat.reduceMul, Nat.reduceLeDiff, thq S, nbr S, TH, f_reach, Bool.beq_eq_decide_eq, bne, decide_true, decide_false, Int.reduceEq, Int.reduceLT, Int.reduceLE, Int.reduceNeg, reduceCtorEq, List.mem_cons, List.not_mem_nil, or_false, false_or, or_true, true_or, Nat.not_lt_zero, Bool.true_and, Bool.false_and, Bool.and_true, Bool.and_false, Bool.or_true, Bool.or_false, Bool.true_or, Bool.false_or, off S 61 7 (by decide) rfl, off S 61 9 (by decide) rfl, h, eq_true h2, valueM, Bool.not_true, Bool.not_false]
    · simp only [endN_gen, go_sem, Nat.reduceLT, Nat.reduceEqDiff, Nat.reduceAdd, Nat.reduceMul, Nat.reduceLeDiff, thq S, nbr S, TH, f_reach, Bool.beq_eq_decide_eq, bne, decide_true, decide_false, Int.reduceEq, Int.reduceLT, Int.reduceLE, Int.reduceNeg, reduceCtorEq, List.mem_cons, List.not_mem_nil, or_false, false_or, or_true, true_or, Nat.not_lt_zero, Bool.true_and, Bool.false_and, Bool.and_true, Bool.and_false, Bool.or_true, Bool.or_false, Bool.true_or, Bool.false_or, off S 61 7 (by decide) rfl, off S 61 9 (by decide) rfl, h, eq_false h2, valueM, Bool.not_true, Bool.not_false]
  · simp only [endN_gen, go_sem, Nat.reduceLT, Nat.reduceEqDiff, Nat.reduceAdd, Nat.reduceMul, Nat.reduceLeDiff, thq S, nbr S, TH, f_reach, Bool.beq_eq_decide_eq, bne, decide_true, decide_false, Int.reduceEq, Int.reduceLT, Int.reduceLE, Int.reduceNeg, reduceCtorEq, List.mem_cons, List.not_mem_nil, or_false, false_or, or_true, true_or, Nat.not_lt_zero, Bool.true_and, Bool.false_and, Bool.and_true, Bool.and_false, Bool.or_true, Bool.or_false, Bool.true_or, Bool.false_or, off S 61 7 (by decide) rfl, off S 61 9 (by decide) rfl, h, valueM, c_word_Do S]
theorem c_seqm_Value (dp : Nat) (p_w : Int) (p_wn : Int) (p_fu : Int) (p_r0 : Int) (p_r1 : Int) (p_r2 : Int) (p_r3 : Int) (p_ms : List MemT) (p_ls : List Label) (p_is : List Ins) (x_k : Int) (x_o : Int) (x_d : Int) (x_ag : Bool) (x_an : Int) (x_bg : Bool) (x_bn : Int) (x_nm : ByteArray) (x_tg : Int) (a : Int) (b : Int) (d : Int) (A : List Blk) (nb : Nat) (us : List Nat) : evOwnK false E (evC E fn (dp + 5)) 61 A nb (some ([.agg [vi p_w, vi p_wn, vi p_fu, vi p_r0, vi p_r1, vi p_r2, vi p_r3, rowD p_ms, rowD p_ls, rowD p_is], .agg [vi x_k, vi x_o, vi x_d, vb x_ag, vi x_an, vb x_bg, vi x_bn, vt x_nm, vi x_tg], vi a, vi b, vi d], us)) = some (.made (.d (vi (valueM (⟨p_w, p_wn, p_fu, ⟨p_r0, p_r1, p_r2, p_r3⟩, p_ms, p_ls, p_is⟩ : Prog) (⟨x_k, x_o, x_d, ⟨x_ag, x_an⟩, ⟨x_bg, x_bn⟩, x_nm, x_tg⟩ : Ins) a b d))) []) :=
  Says.flat (raw_seqm_Value S dp (⟨p_w, p_wn, p_fu, ⟨p_r0, p_r1, p_r2, p_r3⟩, p_ms, p_ls, p_is⟩ : Prog) (⟨x_k, x_o, x_d, ⟨x_ag, x_an⟩, ⟨x_bg, x_bn⟩, x_nm, x_tg⟩ : Ins) a b d ) (np S 61 (by decide)) (rfl) A nb us
theorem raw_seqm_Way (dp : Nat) (p : Prog) (x : Ins) (pc : Int) (a : Int) (b : Int) : Says E fn (dp + 5) 63 [progD p, .agg (Cl.cells x), vi pc, vi a, vi b] (vi (wayM p x pc a b)) := by
  unfold Says
  show ansOf (evC E fn (dp + 4 + 1) 63 [.d (progD p), .d (.agg (Cl.cells x)), .d (vi pc), .d (vi a), .d (vi b)] []) = _
  rw [evC_succ, S.f_seqm_Way, apF_some, F_seqm_Way, mkF_run _ _ _ _ _ _ _ _ rfl]
  by_cases h : x.kind = 7
  · simp only [endN_gen, go_sem, Nat.reduceLT, Nat.reduceEqDiff, Nat.reduceAdd, Nat.reduceMul, Nat.reduceLeDiff, thq S, nbr S, TH, f_reach, Bool.beq_eq_decide_eq, bne, decide_true, decide_false, Int.reduceEq, Int.reduceLT, Int.reduceLE, Int.reduceNeg, reduceCtorEq, List.mem_cons, List.not_mem_nil, or_false, false_or, or_true, true_or, Nat.not_lt_zero, Bool.true_and, Bool.false_and, Bool.and_true, Bool.and_false, Bool.or_true, Bool.or_false, Bool.true_or, Bool.false_or, off S 63 7 (by decide) rfl, off S 63 13 (by decide) rfl, h, wayM]
  · by_cases h2 : Md.wdo p.w x.op a b = 0
    · simp only [endN_gen, go_sem, Nat.reduceLT, Nat.reduceEqDiff, Nat.reduceAdd, Nat.reduceMul, Nat.reduceLeDiff, thq S, nbr S, TH, f_reach, Bool.beq_eq_decide_eq, bne, decide_true, decide_false, Int.reduceEq, Int.reduceLT, Int.reduceLE, Int.reduceNeg, reduceCtorEq, List.mem_cons, List.not_mem_nil, or_false, false_or, or_true, true_or, Nat.not_lt_zero, Bool.true_and, Bool.false_and, Bool.and_true, Bool.and_false, Bool.or_true, Bool.or_false, Bool.true_or, Bool.false_or, off S 63 7 (by decide) rfl, off S 63 13 (by decide) rfl, h, wayM, c_word_Do S, h2, Bool.not_true, Bool.not_false, Md.w64]
    · simp only [endN_gen, go_sem, Nat.reduceLT, Nat.reduceEqDiff, Nat.reduceAdd, Nat.reduceMul, Nat.reduceLeDiff, thq S, nbr S, TH, f_reach, Bool.beq_eq_decide_eq, bne, decide_true, decide_false, Int.reduceEq, Int.reduceLT, Int.reduceLE, Int.reduceNeg, reduceCtorEq, List.mem_cons, List.not_mem_nil, or_false, false_or, or_true, true_or, Nat.not_lt_zero, Bool.true_and, Bool.false_and, Bool.and_true, Bool.and_false, Bool.or_true, Bool.or_false, Bool.true_or, Bool.false_or, off S 63 7 (by decide) rfl, off S 63 13 (by decide) rfl, h, wayM, c_word_Do S, h2, Bool.not_true, Bool.not_false, Md.w64]
theorem c_seqm_Way (dp : Nat) (p_w : Int) (p_wn : Int) (p_fu : Int) (p_r0 : Int) (p_r1 : Int) (p_r2 : Int) (p_r3 : Int) (p_ms : List MemT) (p_ls : List Label) (p_is : List Ins) (x_k : Int) (x_o : Int) (x_d : Int) (x_ag : Bool) (x_an : Int) (x_bg : Bool) (x_bn : Int) (x_nm : ByteArray) (x_tg : Int) (pc : Int) (a : Int) (b : Int) (A : List Blk) (nb : Nat) (us : List Nat) : evOwnK false E (evC E fn (dp + 5)) 63 A nb (some ([.agg [vi p_w, vi p_wn, vi p_fu, vi p_r0, vi p_r1, vi p_r2, vi p_r3, rowD p_ms, rowD p_ls, rowD p_is], .agg [vi x_k, vi x_o, vi x_d, vb x_ag, vi x_an, vb x_bg, vi x_bn, vt x_nm, vi x_tg], vi pc, vi a, vi b], us)) = some (.made (.d (vi (wayM (⟨p_w, p_wn, p_fu, ⟨p_r0, p_r1, p_r2, p_r3⟩, p_ms, p_ls, p_is⟩ : Prog) (⟨x_k, x_o, x_d, ⟨x_ag, x_an⟩, ⟨x_bg, x_bn⟩, x_nm, x_tg⟩ : Ins) pc a b))) []) :=
  Says.flat (raw_seqm_Way S dp (⟨p_w, p_wn, p_fu, ⟨p_r0, p_r1, p_r2, p_r3⟩, p_ms, p_ls, p_is⟩ : Prog) (⟨x_k, x_o, x_d, ⟨x_ag, x_an⟩, ⟨x_bg, x_bn⟩, x_nm, x_tg⟩ : Ins) pc a b ) (np S 63 (by decide)) (rfl) A nb us
theorem raw_seqm_Address (dp : Nat) (p : Prog) (a : Int) (b : Int) (hm : p.mems.length < 1073741824) : Says E fn (dp + 4) 68 [progD p, vi a, vi b] (.tup [vi (Md.mask p.w (a + b)), vb (decide (Md.mask p.w (a + b) < cellsI p.mems))]) := by
  unfold Says
  show ansOf (evC E fn (dp + 3 + 1) 68 [.d (progD p), .d (vi a), .d (vi b)] []) = _
  rw [evC_succ, S.f_seqm_Address, apF_some, F_seqm_Address, mkF_run _ _ _ _ _ _ _ _ rfl]
  simp only [endN_gen, go_sem, Nat.reduceLT, Nat.reduceEqDiff, Nat.reduceAdd, Nat.reduceMul, Nat.reduceLeDiff, thq S, nbr S, TH, f_reach, Bool.beq_eq_decide_eq, bne, decide_true, decide_false, Int.reduceEq, Int.reduceLT, Int.reduceLE, Int.reduceNeg, reduceCtorEq, List.mem_cons, List.not_mem_nil, or_false, false_or, or_true, true_or, Nat.not_lt_zero, Bool.true_and, Bool.false_and, Bool.and_true, Bool.and_false, Bool.or_true, Bool.or_false, Bool.true_or, Bool.false_or, c_word_Mask S, Md.mask_wrap, c_arch_Cells S, hm]
theorem c_seqm_Address (dp : Nat) (p_w : Int) (p_wn : Int) (p_fu : Int) (p_r0 : Int) (p_r1 : Int) (p_r2 : Int) (p_r3 : Int) (p_ms : List MemT) (p_ls : List Label) (p_is : List Ins) (a : Int) (b : Int) (hm : (⟨p_w, p_wn, p_fu, ⟨p_r0, p_r1, p_r2, p_r3⟩, p_ms, p_ls, p_is⟩ : Prog).mems.length < 1073741824) (A : List Blk) (nb : Nat) (us : List Nat) : evOwnK false E (evC E fn (dp + 4)) 68 A nb (some ([.agg [vi p_w, vi p_wn, vi p_fu, vi p_r0, vi p_r1, vi p_r2, vi p_r3, rowD p_ms, rowD p_ls, rowD p_is], vi a, vi b], us)) = some (.made (.d (.tup [vi (Md.mask (⟨p_w, p_wn, p_fu, ⟨p_r0, p_r1, p_r2, p_r3⟩, p_ms, p_ls, p_is⟩ : Prog).w (a + b)), vb (decide (Md.mask (⟨p_w, p_wn, p_fu, ⟨p_r0, p_r1, p_r2, p_r3⟩, p_ms, p_ls, p_is⟩ : Prog).w (a + b) < cellsI (⟨p_w, p_wn, p_fu, ⟨p_r0, p_r1, p_r2, p_r3⟩, p_ms, p_ls, p_is⟩ : Prog).mems))])) []) :=
  Says.flat (raw_seqm_Address S dp (⟨p_w, p_wn, p_fu, ⟨p_r0, p_r1, p_r2, p_r3⟩, p_ms, p_ls, p_is⟩ : Prog) a b hm) (np S 68 (by decide)) (rfl) A nb us
theorem raw_retb_Pop (dp : Nat) (l : List Int) (hl : l.length < 1073741824) : Says E fn (dp + 1) 104 [rowD l] (.tup [vi (Md.lastI l), rowD l.dropLast, vb (decide (l.length ≠ 0))]) := by
  unfold Says
  show ansOf (evC E fn (dp + 1) 104 [.d (rowD l)] []) = _
  rw [evC_succ, S.f_retb_Pop, apF_some, F_retb_Pop, mkF_run _ _ _ _ _ _ _ _ rfl]
  by_cases h : l.length = 0
  · have : l = [] := List.length_eq_zero_iff.1 h
    subst this
    simp only [endN_gen, go_sem, Nat.reduceLT, Nat.reduceEqDiff, Nat.reduceAdd, Nat.reduceMul, Nat.reduceLeDiff, thq S, nbr S, TH, f_reach, Bool.beq_eq_decide_eq, bne, decide_true, decide_false, Int.reduceEq, Int.reduceLT, Int.reduceLE, Int.reduceNeg, reduceCtorEq, List.mem_cons, List.not_mem_nil, or_false, false_or, or_true, true_or, Nat.not_lt_zero, Bool.true_and, Bool.false_and, Bool.and_true, Bool.and_false, Bool.or_true, Bool.or_false, Bool.true_or, Bool.false_or, off S 104 9 (by decide) rfl, List.length_nil, Int.natCast_eq_zero, Md.lastI]
    rfl
  · have hlast : l[l.length - 1]? = some (Md.lastI l) := by
      unfold Md.lastI
      rw [List.getLast?_eq_getElem?]
      obtain ⟨e, he⟩ := get_of (show l.length - 1 < l.length by omega)
      rw [he]; rfl
    have w2 : IntKind.i64.wrap ((l.length : Int) - 1) = ((l.length - 1 : Nat) : Int) := by rw [wrap_i64 (by omega) (by omega)]; omega
    have bd := bndsV_hi l.length .i64 ((l.length - 1 : Nat) : Int) (by omega) (by omega)
    have hdl : l.take (l.length - 1) = l.dropLast := List.dropLast_eq_take.symm
    have hdn : l.dropLast.length < 1073741824 := by simp; omega
    simp only [endN_gen, go_sem, Nat.reduceLT, Nat.reduceEqDiff, Nat.reduceAdd, Nat.reduceMul, Nat.reduceLeDiff, thq S, nbr S, TH, f_reach, Bool.beq_eq_decide_eq, bne, decide_true, decide_false, Int.reduceEq, Int.reduceLT, Int.reduceLE, Int.reduceNeg, reduceCtorEq, List.mem_cons, List.not_mem_nil, or_false, false_or, or_true, true_or, Nat.not_lt_zero, Bool.true_and, Bool.false_and, Bool.and_true, Bool.and_false, Bool.or_true, Bool.or_false, Bool.true_or, Bool.false_or, off S 104 9 (by decide) rfl, eq_false h, Int.natCast_eq_zero, w2, bd, w_ix hlast, Int.toNat_natCast, List.drop_zero, Nat.sub_zero, hdl, c_cloneI S hdn, ne_eq, not_false_eq_true]
theorem c_retb_Pop (dp : Nat) (l : List Int) (hl : l.length < 1073741824) (A : List Blk) (nb : Nat) : evOwnK false E (evC E fn (dp + 1)) 104 A nb (some ([rowD l], [])) = some (.made (.d (.tup [vi (Md.lastI l), rowD l.dropLast, vb (decide (l.length ≠ 0))])) []) :=
  Says.deep (raw_retb_Pop S dp l hl) (np S 104 (by decide)) A nb
theorem u_retb_Pop (dp : Nat) (l : List Int) (hl : l.length < 1073741824) (hf : DV.flat 8 (.tup [vi (Md.lastI l), rowD l.dropLast, vb (decide (l.length ≠ 0))]) = false) (A : List Blk) (nb ui : Nat) (us : List Nat) : evOwnK false E (evC E fn (dp + 1)) 104 A nb (some ([rowD l], ui :: us)) = some (.turned (.d (.tup [vi (Md.lastI l), rowD l.dropLast, vb (decide (l.length ≠ 0))])) (setRo A (ui :: us))) :=
  Says.used (raw_retb_Pop S dp l hl) (np S 104 (by decide)) hf A nb ui us
end
end Go.Aug.Mc


/- Loads, hazards, rows: what the program answers. -/
namespace Go.Aug.Mc
open Go Go.Aug
set_option linter.unusedSimpArgs false
set_option linter.unusedVariables false
set_option maxHeartbeats 40000000
variable {E : Env} {fn : FuncId → Option (Env → CallT → CallT)}
section
variable (S : Sur E fn)
include S
theorem loop_pLoad (dp : Nat) (p : Prog) (mem : List Int) (l : List Ent) (addr : Int) (hl : l.length < 1073741824) (kx : Nat → K)
    (hx : ∀ T, getS .bot T 1 = .d (rowD mem) → getS .bot T 4 = aint addr → ∀ A, ansOf (kx 0 (mk .bot 65 T) (.cells ((progC p).map .d) 0 false :: A)) = some (.tup [vi (Md.loadGo p mem addr []).1, vi (Md.loadGo p mem addr []).2.1, vb (Md.loadGo p mem addr []).2.2])) :
    ∀ (k fuel : Nat), k ≤ l.length → k < fuel → ansOf (B8_memo_Load (inn E 105) (evC E fn (dp + 1)) (loopK 8 B8_memo_Load (inn E 105) (evC E fn (dp + 1)) kx (kEnd 0 [.tmp 10, .tmp 11, .tmp 12]) fuel) kx (kEnd 0 [.tmp 10, .tmp 11, .tmp 12])
      (mk .bot 65 [(1, .d (rowD mem)), (4, aint addr), (5, .ref 0 0 0), (13, .d (rowD l)), (14, aint ((k : Int) - 1))]) [.cells ((progC p).map .d) 0 false]) =
      some (.tup [vi (Md.loadGo p mem addr (l.take k).reverse).1, vi (Md.loadGo p mem addr (l.take k).reverse).2.1, vb (Md.loadGo p mem addr (l.take k).reverse).2.2]) := by
  intro k
  induction k with
  | zero =>
    intro fuel _ hf
    generalize loopK 8 B8_memo_Load _ _ kx _ fuel = KK
    rw [B8_memo_Load]
    simp only [endN_gen, go_sem, Nat.reduceLT, Nat.reduceEqDiff, Nat.reduceAdd, Nat.reduceMul, Nat.reduceLeDiff, thq S, nbr S, TH, f_reach, Bool.beq_eq_decide_eq, bne, decide_true, decide_false, Int.reduceEq, Int.reduceLT, Int.reduceLE, Int.reduceNeg, reduceCtorEq, List.mem_cons, List.not_mem_nil, or_false, false_or, or_true, true_or, Nat.not_lt_zero, Bool.true_and, Bool.false_and, Bool.and_true, Bool.and_false, Bool.or_true, Bool.or_false, Bool.true_or, Bool.false_or, off S 105 1 (by decide) rfl, off S 105 19 (by decide) rfl, off S 105 25 (by decide) rfl, show ¬ (((0 : Nat) : Int) - 1 ≥ 0) by omega, List.take_zero, List.reverse_nil]
    exact hx _ rfl rfl []
  | succ k ih =>
    intro fuel hk hf
    obtain ⟨e, he⟩ := get_of (show k < l.length by omega)
    obtain ⟨fuel, rfl⟩ : ∃ m, fuel = m + 1 := ⟨fuel - 1, by omega⟩
    rw [show (((k + 1 : Nat) : Int) - 1) = (k : Int) by omega, take_rev he]
    generalize hK : loopK 8 B8_memo_Load _ _ kx _ (fuel + 1) = KK
    rw [B8_memo_Load]
    have hlen : (l.take k).reverse.length = k := by simp; omega
    by_cases h1 : (Md.at_ p e.pc).kind = 3
    · cases h2 : e.known with
      | true =>
        by_cases h3 : e.addr = addr
        · cases h4 : e.done <;> simp only [endN_gen, go_sem, Nat.reduceLT, Nat.reduceEqDiff, Nat.reduceAdd, Nat.reduceMul, Nat.reduceLeDiff, thq S, nbr S, TH, f_reach, Bool.beq_eq_decide_eq, bne, decide_true, decide_false, Int.reduceEq, Int.reduceLT, Int.reduceLE, Int.reduceNeg, reduceCtorEq, List.mem_cons, List.not_mem_nil, or_false, false_or, or_true, true_or, Nat.not_lt_zero, Bool.true_and, Bool.false_and, Bool.and_true, Bool.and_false, Bool.or_true, Bool.or_false, Bool.true_or, Bool.false_or, off S 105 1 (by decide) rfl, off S 105 19 (by decide) rfl, off S 105 25 (by decide) rfl, w_ix he, c_seqm_At S, Int.natCast_nonneg, ge_iff_le, wd k (by omega), Bool.not_true, Bool.not_false, h1, h2, eq_true h3, h4, Md.loadGo, Md.hitS, hlen]
        · simp only [endN_gen, go_sem, Nat.reduceLT, Nat.reduceEqDiff, Nat.reduceAdd, Nat.reduceMul, Nat.reduceLeDiff, thq S, nbr S, TH, f_reach, Bool.beq_eq_decide_eq, bne, decide_true, decide_false, Int.reduceEq, Int.reduceLT, Int.reduceLE, Int.reduceNeg, reduceCtorEq, List.mem_cons, List.not_mem_nil, or_false, false_or, or_true, true_or, Nat.not_lt_zero, Bool.true_and, Bool.false_and, Bool.and_true, Bool.and_false, Bool.or_true, Bool.or_false, Bool.true_or, Bool.false_or, off S 105 1 (by decide) rfl, off S 105 19 (by decide) rfl, off S 105 25 (by decide) rfl, w_ix he, c_seqm_At S, Int.natCast_nonneg, ge_iff_le, wd k (by omega), Bool.not_true, Bool.not_false, h1, h2, eq_false h3, Md.loadGo, Md.hitS]
          rw [← hK, loop_in (on S _ _ [1, 4, 5, 13, 14] (by decide) rfl) rfl _ _ _ _ _ _ _ _ _ rfl]
          simp only [endN_gen, go_sem, Nat.reduceLT, Nat.reduceEqDiff, Nat.reduceAdd, Nat.reduceMul, Nat.reduceLeDiff, thq S, nbr S, TH, f_reach, Bool.beq_eq_decide_eq, bne, decide_true, decide_false, Int.reduceEq, Int.reduceLT, Int.reduceLE, Int.reduceNeg, reduceCtorEq, List.mem_cons, List.not_mem_nil, or_false, false_or, or_true, true_or, Nat.not_lt_zero, Bool.true_and, Bool.false_and, Bool.and_true, Bool.and_false, Bool.or_true, Bool.or_false, Bool.true_or, Bool.false_or, off S 105 1 (by decide) rfl, off S 105 19 (by decide) rfl, off S 105 25 (by decide) rfl, w_ix he, c_seqm_At S, Int.natCast_nonneg, ge_iff_le, wd k (by omega), Bool.not_true, Bool.not_false]
          exact ih fuel (by omega) (by omega)
      | false =>
        simp only [endN_gen, go_sem, Nat.reduceLT, Nat.reduceEqDiff, Nat.reduceAdd, Nat.reduceMul, Nat.reduceLeDiff, thq S, nbr S, TH, f_reach, Bool.beq_eq_decide_eq, bne, decide_true, decide_false, Int.reduceEq, Int.reduceLT, Int.reduceLE, Int.reduceNeg, reduceCtorEq, List.mem_cons, List.not_mem_nil, or_false, false_or, or_true, true_or, Nat.not_lt_zero, Bool.true_and, Bool.false_and, Bool.and_true, Bool.and_false, Bool.or_true, Bool.or_false, Bool.true_or, Bool.false_or, off S 105 1 (by decide) rfl, off S 105 19 (by decide) rfl, off S 105 25 (by decide) rfl, w_ix he, c_seqm_At S, Int.natCast_nonneg, ge_iff_le, wd k (by omega), Bool.not_true, Bool.not_false, h1, h2, Md.loadGo, Md.hitS]
        rw [← hK, loop_in (on S _ _ [1, 4, 5, 13, 14] (by decide) rfl) rfl _ _ _ _ _ _ _ _ _ rfl]
        simp only [endN_gen, go_sem, Nat.reduceLT, Nat.reduceEqDiff, Nat.reduceAdd, Nat.reduceMul, Nat.reduceLeDiff, thq S, nbr S, TH, f_reach, Bool.beq_eq_decide_eq, bne, decide_true, decide_false, Int.reduceEq, Int.reduceLT, Int.reduceLE, Int.reduceNeg, reduceCtorEq, List.mem_cons, List.not_mem_nil, or_false, false_or, or_true, true_or, Nat.not_lt_zero, Bool.true_and, Bool.false_and, Bool.and_true, Bool.and_false, Bool.or_true, Bool.or_false, Bool.true_or, Bool.false_or, off S 105 1 (by decide) rfl, off S 105 19 (by decide) rfl, off S 105 25 (by decide) rfl, w_ix he, c_seqm_At S, Int.natCast_nonneg, ge_iff_le, wd k (by omega), Bool.not_true, Bool.not_false]
        exact ih fuel (by omega) (by omega)
    · simp only [endN_gen, go_sem, Nat.reduceLT, Nat.reduceEqDiff, Nat.reduceAdd, Nat.reduceMul, Nat.reduceLeDiff, thq S, nbr S, TH, f_reach, Bool.beq_eq_decide_eq, bne, decide_true, decide_false, Int.reduceEq, Int.reduceLT, Int.reduceLE, Int.reduceNeg, reduceCtorEq, List.mem_cons, List.not_mem_nil, or_false, false_or, or_true, true_or, Nat.not_lt_zero, Bool.true_and, Bool.false_and, Bool.and_true, Bool.and_false, Bool.or_true, Bool.or_false, Bool.true_or, Bool.false_or, off S 105 1 (by decide) rfl, off S 105 19 (by decide) rfl, off S 105 25 (by decide) rfl, w_ix he, c_seqm_At S, Int.natCast_nonneg, ge_iff_le, wd k (by omega), Bool.not_true, Bool.not_false, eq_false h1, Md.loadGo, Md.hitS]
      rw [← hK, loop_in (on S _ _ [1, 4, 5, 13, 14] (by decide) rfl) rfl _ _ _ _ _ _ _ _ _ rfl]
      simp only [endN_gen, go_sem, Nat.reduceLT, Nat.reduceEqDiff, Nat.reduceAdd, Nat.reduceMul, Nat.reduceLeDiff, thq S, nbr S, TH, f_reach, Bool.beq_eq_decide_eq, bne, decide_true, decide_false, Int.reduceEq, Int.reduceLT, Int.reduceLE, Int.reduceNeg, reduceCtorEq, List.mem_cons, List.not_mem_nil, or_false, false_or, or_true, true_or, Nat.not_lt_zero, Bool.true_and, Bool.false_and, Bool.and_true, Bool.and_false, Bool.or_true, Bool.or_false, Bool.true_or, Bool.false_or, off S 105 1 (by decide) rfl, off S 105 19 (by decide) rfl, off S 105 25 (by decide) rfl, w_ix he, c_seqm_At S, Int.natCast_nonneg, ge_iff_le, wd k (by omega), Bool.not_true, Bool.not_false]
      exact ih fuel (by omega) (by omega)
theorem raw_memo_Load (dp : Nat) (p : Prog) (mem : List Int) (l : List Ent) (i : Int) (addr : Int) (hl : l.length < 1073741824) : Says E fn (dp + 3) 105 [progD p, rowD mem, rowD l, vi i, vi addr] (.tup [vi (Md.load p mem l i addr).1, vi (Md.load p mem l i addr).2.1, vb (Md.load p mem l i addr).2.2]) := by
  unfold Says
  show ansOf (evC E fn (dp + 2 + 1) 105 [.d (progD p), .d (rowD mem), .d (rowD l), .d (vi i), .d (vi addr)] []) = _
  rw [evC_succ, S.f_memo_Load, apF_some, F_memo_Load, mkF_run _ _ _ _ _ _ _ _ rfl]
  have hcl := cut_len l i
  have e : (Md.cut l i).take (Md.cut l i).length = Md.cut l i := List.take_of_length_le (by omega)
  have e2 : Md.load p mem l i addr = Md.loadGo p mem addr ((Md.cut l i).take (Md.cut l i).length).reverse := by rw [e]; rfl
  rw [e2]
  simp only [endN_gen, go_sem, Nat.reduceLT, Nat.reduceEqDiff, Nat.reduceAdd, Nat.reduceMul, Nat.reduceLeDiff, thq S, nbr S, TH, f_reach, Bool.beq_eq_decide_eq, bne, decide_true, decide_false, Int.reduceEq, Int.reduceLT, Int.reduceLE, Int.reduceNeg, reduceCtorEq, List.mem_cons, List.not_mem_nil, or_false, false_or, or_true, true_or, Nat.not_lt_zero, Bool.true_and, Bool.false_and, Bool.and_true, Bool.and_false, Bool.or_true, Bool.or_false, Bool.true_or, Bool.false_or, off S 105 1 (by decide) rfl, off S 105 19 (by decide) rfl, off S 105 25 (by decide) rfl, c_robq_Cut S, hl, wd _ (show (Md.cut l i).length < 4611686018427387904 by omega)]
  rw [big_eq, loop_in (on S _ _ [1, 4, 5, 13, 14] (by decide) rfl) rfl _ _ _ _ _ _ _ _ _ rfl]
  simp only [endN_gen, go_sem, Nat.reduceLT, Nat.reduceEqDiff, Nat.reduceAdd, Nat.reduceMul, Nat.reduceLeDiff, thq S, nbr S, TH, f_reach, Bool.beq_eq_decide_eq, bne, decide_true, decide_false, Int.reduceEq, Int.reduceLT, Int.reduceLE, Int.reduceNeg, reduceCtorEq, List.mem_cons, List.not_mem_nil, or_false, false_or, or_true, true_or, Nat.not_lt_zero, Bool.true_and, Bool.false_and, Bool.and_true, Bool.and_false, Bool.or_true, Bool.or_false, Bool.true_or, Bool.false_or, off S 105 1 (by decide) rfl, off S 105 19 (by decide) rfl, off S 105 25 (by decide) rfl]
  refine loop_pLoad S (dp + 1) p mem (Md.cut l i) addr (by omega) _ ?_ _ _ (Nat.le_refl _) (by omega)
  intro T h1 h4 A
  by_cases h : addr < 0
  · simp only [endN_gen, go_sem, Nat.reduceLT, Nat.reduceEqDiff, Nat.reduceAdd, Nat.reduceMul, Nat.reduceLeDiff, thq S, nbr S, TH, f_reach, Bool.beq_eq_decide_eq, bne, decide_true, decide_false, Int.reduceEq, Int.reduceLT, Int.reduceLE, Int.reduceNeg, reduceCtorEq, List.mem_cons, List.not_mem_nil, or_false, false_or, or_true, true_or, Nat.not_lt_zero, Bool.true_and, Bool.false_and, Bool.and_true, Bool.and_false, Bool.or_true, Bool.or_false, Bool.true_or, Bool.false_or, off S 105 1 (by decide) rfl, off S 105 19 (by decide) rfl, off S 105 25 (by decide) rfl, h1, h4, h, Md.loadGo]
  · by_cases h2 : (mem.length : Int) ≤ addr
    · simp only [endN_gen, go_sem, Nat.reduceLT, Nat.reduceEqDiff, Nat.reduceAdd, Nat.reduceMul, Nat.reduceLeDiff, thq S, nbr S, TH, f_reach, Bool.beq_eq_decide_eq, bne, decide_true, decide_false, Int.reduceEq, Int.reduceLT, Int.reduceLE, Int.reduceNeg, reduceCtorEq, List.mem_cons, List.not_mem_nil, or_false, false_or, or_true, true_or, Nat.not_lt_zero, Bool.true_and, Bool.false_and, Bool.and_true, Bool.and_false, Bool.or_true, Bool.or_false, Bool.true_or, Bool.false_or, off S 105 1 (by decide) rfl, off S 105 19 (by decide) rfl, off S 105 25 (by decide) rfl, h1, h4, h, ge_iff_le, h2, Md.loadGo]
    · obtain ⟨e, he⟩ := get_of (show addr.toNat < mem.length by omega)
      simp only [endN_gen, go_sem, Nat.reduceLT, Nat.reduceEqDiff, Nat.reduceAdd, Nat.reduceMul, Nat.reduceLeDiff, thq S, nbr S, TH, f_reach, Bool.beq_eq_decide_eq, bne, decide_true, decide_false, Int.reduceEq, Int.reduceLT, Int.reduceLE, Int.reduceNeg, reduceCtorEq, List.mem_cons, List.not_mem_nil, or_false, false_or, or_true, true_or, Nat.not_lt_zero, Bool.true_and, Bool.false_and, Bool.and_true, Bool.and_false, Bool.or_true, Bool.or_false, Bool.true_or, Bool.false_or, off S 105 1 (by decide) rfl, off S 105 19 (by decide) rfl, off S 105 25 (by decide) rfl, h1, h4, h, ge_iff_le, h2, Md.loadGo, w_ixI (show 0 ≤ addr by omega) he, he, Option.getD_some]
theorem c_memo_Load (dp : Nat) (p_w : Int) (p_wn : Int) (p_fu : Int) (p_r0 : Int) (p_r1 : Int) (p_r2 : Int) (p_r3 : Int) (p_ms : List MemT) (p_ls : List Label) (p_is : List Ins) (mem : List Int) (l : List Ent) (i : Int) (addr : Int) (hl : l.length < 1073741824) (A : List Blk) (nb : Nat) (us : List Nat) : evOwnK false E (evC E fn (dp + 3)) 105 A nb (some ([.agg [vi p_w, vi p_wn, vi p_fu, vi p_r0, vi p_r1, vi p_r2, vi p_r3, rowD p_ms, rowD p_ls, rowD p_is], rowD mem, rowD l, vi i, vi addr], us)) = some (.made (.d (.tup [vi (Md.load (⟨p_w, p_wn, p_fu, ⟨p_r0, p_r1, p_r2, p_r3⟩, p_ms, p_ls, p_is⟩ : Prog) mem l i addr).1, vi (Md.load (⟨p_w, p_wn, p_fu, ⟨p_r0, p_r1, p_r2, p_r3⟩, p_ms, p_ls, p_is⟩ : Prog) mem l i addr).2.1, vb (Md.load (⟨p_w, p_wn, p_fu, ⟨p_r0, p_r1, p_r2, p_r3⟩, p_ms, p_ls, p_is⟩ : Prog) mem l i addr).2.2])) []) :=
  Says.flat (raw_memo_Load S dp (⟨p_w, p_wn, p_fu, ⟨p_r0, p_r1, p_r2, p_r3⟩, p_ms, p_ls, p_is⟩ : Prog) mem l i addr hl) (np S 105 (by decide)) (rfl) A nb us
theorem loop_pHaz (dp : Nat) (p : Prog) (l : List Ent) (i addr : Int) (hl : l.length < 1073741824) (kx : Nat → K)
    (hx : ∀ T A, ansOf (kx 0 (mk .bot 51 T) A) = some (.tup [vi 0, vb false])) :
    ∀ (m k fuel : Nat), (k + m = l.length ∨ (m = 0 ∧ l.length ≤ k)) → k ≤ l.length + 1 → m ≤ fuel → ansOf (B6_memo_Hazard (inn E 69) (evC E fn (dp + 1)) (loopK 6 B6_memo_Hazard (inn E 69) (evC E fn (dp + 1)) kx (kEnd 0 [.tmp 8, .tmp 9]) fuel) kx (kEnd 0 [.tmp 8, .tmp 9])
      (mk .bot 51 [(1, .d (rowD l)), (2, aint i), (3, aint addr), (4, .ref 0 0 0), (10, aint k)]) [.cells ((progC p).map .d) 0 false]) =
      some (.tup [vi (Md.hazGo p i addr k (l.drop k)).1, vb (Md.hazGo p i addr k (l.drop k)).2]) := by
  intro m
  induction m with
  | zero =>
    intro k fuel hk hk2 _
    generalize loopK 6 B6_memo_Hazard _ _ kx _ fuel = KK
    rw [B6_memo_Hazard, List.drop_of_length_le (by omega)]
    simp only [endN_gen, go_sem, Nat.reduceLT, Nat.reduceEqDiff, Nat.reduceAdd, Nat.reduceMul, Nat.reduceLeDiff, thq S, nbr S, TH, f_reach, Bool.beq_eq_decide_eq, bne, decide_true, decide_false, Int.reduceEq, Int.reduceLT, Int.reduceLE, Int.reduceNeg, reduceCtorEq, List.mem_cons, List.not_mem_nil, or_false, false_or, or_true, true_or, Nat.not_lt_zero, Bool.true_and, Bool.false_and, Bool.and_true, Bool.and_false, Bool.or_true, Bool.or_false, Bool.true_or, Bool.false_or, off S 69 1 (by decide) rfl, off S 69 15 (by decide) rfl, show ¬ (k : Int) < l.length by omega, Md.hazGo]
    exact hx _ _
  | succ m ih =>
    intro k fuel hk hk2 hf
    obtain ⟨e, he⟩ := get_of (show k < l.length by omega)
    obtain ⟨fuel, rfl⟩ : ∃ m, fuel = m + 1 := ⟨fuel - 1, by omega⟩
    generalize hK : loopK 6 B6_memo_Hazard _ _ kx _ (fuel + 1) = KK
    rw [B6_memo_Hazard, drop_get he]
    have h2 : (k : Int) < l.length := by omega
    by_cases k2 : (Md.at_ p e.pc).kind = 2
    · cases hk : e.known with
      | true =>
        by_cases ha : e.addr = addr
        · by_cases hfr : e.frm < i
          · simp only [endN_gen, go_sem, Nat.reduceLT, Nat.reduceEqDiff, Nat.reduceAdd, Nat.reduceMul, Nat.reduceLeDiff, thq S, nbr S, TH, f_reach, Bool.beq_eq_decide_eq, bne, decide_true, decide_false, Int.reduceEq, Int.reduceLT, Int.reduceLE, Int.reduceNeg, reduceCtorEq, List.mem_cons, List.not_mem_nil, or_false, false_or, or_true, true_or, Nat.not_lt_zero, Bool.true_and, Bool.false_and, Bool.and_true, Bool.and_false, Bool.or_true, Bool.or_false, Bool.true_or, Bool.false_or, off S 69 1 (by decide) rfl, off S 69 15 (by decide) rfl, w_ix he, c_seqm_At S, wi k (by omega), h2, k2, hk, eq_true ha, hfr, Md.hazGo, Md.hitL]
          · simp only [endN_gen, go_sem, Nat.reduceLT, Nat.reduceEqDiff, Nat.reduceAdd, Nat.reduceMul, Nat.reduceLeDiff, thq S, nbr S, TH, f_reach, Bool.beq_eq_decide_eq, bne, decide_true, decide_false, Int.reduceEq, Int.reduceLT, Int.reduceLE, Int.reduceNeg, reduceCtorEq, List.mem_cons, List.not_mem_nil, or_false, false_or, or_true, true_or, Nat.not_lt_zero, Bool.true_and, Bool.false_and, Bool.and_true, Bool.and_false, Bool.or_true, Bool.or_false, Bool.true_or, Bool.false_or, off S 69 1 (by decide) rfl, off S 69 15 (by decide) rfl, w_ix he, c_seqm_At S, wi k (by omega), h2, k2, hk, eq_true ha, hfr, Md.hazGo, Md.hitL]
            rw [← hK, loop_in (on S _ _ [1, 2, 3, 4, 10] (by decide) rfl) rfl _ _ _ _ _ _ _ _ _ rfl]
            simp only [endN_gen, go_sem, Nat.reduceLT, Nat.reduceEqDiff, Nat.reduceAdd, Nat.reduceMul, Nat.reduceLeDiff, thq S, nbr S, TH, f_reach, Bool.beq_eq_decide_eq, bne, decide_true, decide_false, Int.reduceEq, Int.reduceLT, Int.reduceLE, Int.reduceNeg, reduceCtorEq, List.mem_cons, List.not_mem_nil, or_false, false_or, or_true, true_or, Nat.not_lt_zero, Bool.true_and, Bool.false_and, Bool.and_true, Bool.and_false, Bool.or_true, Bool.or_false, Bool.true_or, Bool.false_or, off S 69 1 (by decide) rfl, off S 69 15 (by decide) rfl, w_ix he, c_seqm_At S, wi k (by omega), h2]
            exact ih (k + 1) fuel (by omega) (by omega) (by omega)
        · simp only [endN_gen, go_sem, Nat.reduceLT, Nat.reduceEqDiff, Nat.reduceAdd, Nat.reduceMul, Nat.reduceLeDiff, thq S, nbr S, TH, f_reach, Bool.beq_eq_decide_eq, bne, decide_true, decide_false, Int.reduceEq, Int.reduceLT, Int.reduceLE, Int.reduceNeg, reduceCtorEq, List.mem_cons, List.not_mem_nil, or_false, false_or, or_true, true_or, Nat.not_lt_zero, Bool.true_and, Bool.false_and, Bool.and_true, Bool.and_false, Bool.or_true, Bool.or_false, Bool.true_or, Bool.false_or, off S 69 1 (by decide) rfl, off S 69 15 (by decide) rfl, w_ix he, c_seqm_At S, wi k (by omega), h2, k2, hk, eq_false ha, Md.hazGo, Md.hitL]
          rw [← hK, loop_in (on S _ _ [1, 2, 3, 4, 10] (by decide) rfl) rfl _ _ _ _ _ _ _ _ _ rfl]
          simp only [endN_gen, go_sem, Nat.reduceLT, Nat.reduceEqDiff, Nat.reduceAdd, Nat.reduceMul, Nat.reduceLeDiff, thq S, nbr S, TH, f_reach, Bool.beq_eq_decide_eq, bne, decide_true, decide_false, Int.reduceEq, Int.reduceLT, Int.reduceLE, Int.reduceNeg, reduceCtorEq, List.mem_cons, List.not_mem_nil, or_false, false_or, or_true, true_or, Nat.not_lt_zero, Bool.true_and, Bool.false_and, Bool.and_true, Bool.and_false, Bool.or_true, Bool.or_false, Bool.true_or, Bool.false_or, off S 69 1 (by decide) rfl, off S 69 15 (by decide) rfl, w_ix he, c_seqm_At S, wi k (by omega), h2]
          exact ih (k + 1) fuel (by omega) (by omega) (by omega)
      | false =>
        simp only [endN_gen, go_sem, Nat.reduceLT, Nat.reduceEqDiff, Nat.reduceAdd, Nat.reduceMul, Nat.reduceLeDiff, thq S, nbr S, TH, f_reach, Bool.beq_eq_decide_eq, bne, decide_true, decide_false, Int.reduceEq, Int.reduceLT, Int.reduceLE, Int.reduceNeg, reduceCtorEq, List.mem_cons, List.not_mem_nil, or_false, false_or, or_true, true_or, Nat.not_lt_zero, Bool.true_and, Bool.false_and, Bool.and_true, Bool.and_false, Bool.or_true, Bool.or_false, Bool.true_or, Bool.false_or, off S 69 1 (by decide) rfl, off S 69 15 (by decide) rfl, w_ix he, c_seqm_At S, wi k (by omega), h2, k2, hk, Md.hazGo, Md.hitL]
        rw [← hK, loop_in (on S _ _ [1, 2, 3, 4, 10] (by decide) rfl) rfl _ _ _ _ _ _ _ _ _ rfl]
        simp only [endN_gen, go_sem, Nat.reduceLT, Nat.reduceEqDiff, Nat.reduceAdd, Nat.reduceMul, Nat.reduceLeDiff, thq S, nbr S, TH, f_reach, Bool.beq_eq_decide_eq, bne, decide_true, decide_false, Int.reduceEq, Int.reduceLT, Int.reduceLE, Int.reduceNeg, reduceCtorEq, List.mem_cons, List.not_mem_nil, or_false, false_or, or_true, true_or, Nat.not_lt_zero, Bool.true_and, Bool.false_and, Bool.and_true, Bool.and_false, Bool.or_true, Bool.or_false, Bool.true_or, Bool.false_or, off S 69 1 (by decide) rfl, off S 69 15 (by decide) rfl, w_ix he, c_seqm_At S, wi k (by omega), h2]
        exact ih (k + 1) fuel (by omega) (by omega) (by omega)
    · simp only [endN_gen, go_sem, Nat.reduceLT, Nat.reduceEqDiff, Nat.reduceAdd, Nat.reduceMul, Nat.reduceLeDiff, thq S, nbr S, TH, f_reach, Bool.beq_eq_decide_eq, bne, decide_true, decide_false, Int.reduceEq, Int.reduceLT, Int.reduceLE, Int.reduceNeg, reduceCtorEq, List.mem_cons, List.not_mem_nil, or_false, false_or, or_true, true_or, Nat.not_lt_zero, Bool.true_and, Bool.false_and, Bool.and_true, Bool.and_false, Bool.or_true, Bool.or_false, Bool.true_or, Bool.false_or, off S 69 1 (by decide) rfl, off S 69 15 (by decide) rfl, w_ix he, c_seqm_At S, wi k (by omega), h2, eq_false k2, Md.hazGo, Md.hitL]
      rw [← hK, loop_in (on S _ _ [1, 2, 3, 4, 10] (by decide) rfl) rfl _ _ _ _ _ _ _ _ _ rfl]
      simp only [endN_gen, go_sem, Nat.reduceLT, Nat.reduceEqDiff, Nat.reduceAdd, Nat.reduceMul, Nat.reduceLeDiff, thq S, nbr S, TH, f_reach, Bool.beq_eq_decide_eq, bne, decide_true, decide_false, Int.reduceEq, Int.reduceLT, Int.reduceLE, Int.reduceNeg, reduceCtorEq, List.mem_cons, List.not_mem_nil, or_false, false_or, or_true, true_or, Nat.not_lt_zero, Bool.true_and, Bool.false_and, Bool.and_true, Bool.and_false, Bool.or_true, Bool.or_false, Bool.true_or, Bool.false_or, off S 69 1 (by decide) rfl, off S 69 15 (by decide) rfl, w_ix he, c_seqm_At S, wi k (by omega), h2]
      exact ih (k + 1) fuel (by omega) (by omega) (by omega)
theorem raw_memo_Hazard (dp : Nat) (p : Prog) (l : List Ent) (i : Int) (addr : Int) (hl : l.length < 1073741824) (hi0 : i < 4611686018427387904) (hi1 : -4611686018427387904 < i) : Says E fn (dp + 2) 69 [progD p, rowD l, vi i, vi addr] (.tup [vi (Md.hazard p l i addr).1, vb (Md.hazard p l i addr).2]) := by
  unfold Says
  show ansOf (evC E fn (dp + 1 + 1) 69 [.d (progD p), .d (rowD l), .d (vi i), .d (vi addr)] []) = _
  rw [evC_succ, S.f_memo_Hazard, apF_some, F_memo_Hazard, mkF_run _ _ _ _ _ _ _ _ rfl]
  have hh : Md.hazAt l i ≤ l.length + 1 := by unfold Md.hazAt; omega
  have hr : max (IntKind.i64.wrap (min i (l.length : Int) + 1)) 0 = (Md.hazAt l i : Int) := by rw [wrap_i64 (by omega) (by omega)]; unfold Md.hazAt; omega
  simp only [endN_gen, go_sem, Nat.reduceLT, Nat.reduceEqDiff, Nat.reduceAdd, Nat.reduceMul, Nat.reduceLeDiff, thq S, nbr S, TH, f_reach, Bool.beq_eq_decide_eq, bne, decide_true, decide_false, Int.reduceEq, Int.reduceLT, Int.reduceLE, Int.reduceNeg, reduceCtorEq, List.mem_cons, List.not_mem_nil, or_false, false_or, or_true, true_or, Nat.not_lt_zero, Bool.true_and, Bool.false_and, Bool.and_true, Bool.and_false, Bool.or_true, Bool.or_false, Bool.true_or, Bool.false_or, off S 69 1 (by decide) rfl, off S 69 15 (by decide) rfl, hr]
  rw [big_eq, loop_in (on S _ _ [1, 2, 3, 4, 10] (by decide) rfl) rfl _ _ _ _ _ _ _ _ _ rfl]
  simp only [endN_gen, go_sem, Nat.reduceLT, Nat.reduceEqDiff, Nat.reduceAdd, Nat.reduceMul, Nat.reduceLeDiff, thq S, nbr S, TH, f_reach, Bool.beq_eq_decide_eq, bne, decide_true, decide_false, Int.reduceEq, Int.reduceLT, Int.reduceLE, Int.reduceNeg, reduceCtorEq, List.mem_cons, List.not_mem_nil, or_false, false_or, or_true, true_or, Nat.not_lt_zero, Bool.true_and, Bool.false_and, Bool.and_true, Bool.and_false, Bool.or_true, Bool.or_false, Bool.true_or, Bool.false_or, off S 69 1 (by decide) rfl, off S 69 15 (by decide) rfl]
  refine loop_pHaz S dp p l i addr hl _ ?_ (l.length - Md.hazAt l i) (Md.hazAt l i) _ (by omega) hh (by omega)
  intro T A
  simp only [endN_gen, go_sem, Nat.reduceLT, Nat.reduceEqDiff, Nat.reduceAdd, Nat.reduceMul, Nat.reduceLeDiff, thq S, nbr S, TH, f_reach, Bool.beq_eq_decide_eq, bne, decide_true, decide_false, Int.reduceEq, Int.reduceLT, Int.reduceLE, Int.reduceNeg, reduceCtorEq, List.mem_cons, List.not_mem_nil, or_false, false_or, or_true, true_or, Nat.not_lt_zero, Bool.true_and, Bool.false_and, Bool.and_true, Bool.and_false, Bool.or_true, Bool.or_false, Bool.true_or, Bool.false_or, off S 69 1 (by decide) rfl, off S 69 15 (by decide) rfl]
theorem c_memo_Hazard (dp : Nat) (p_w : Int) (p_wn : Int) (p_fu : Int) (p_r0 : Int) (p_r1 : Int) (p_r2 : Int) (p_r3 : Int) (p_ms : List MemT) (p_ls : List Label) (p_is : List Ins) (l : List Ent) (i : Int) (addr : Int) (hl : l.length < 1073741824) (hi0 : i < 4611686018427387904) (hi1 : -4611686018427387904 < i) (A : List Blk) (nb : Nat) (us : List Nat) : evOwnK false E (evC E fn (dp + 2)) 69 A nb (some ([.agg [vi p_w, vi p_wn, vi p_fu, vi p_r0, vi p_r1, vi p_r2, vi p_r3, rowD p_ms, rowD p_ls, rowD p_is], rowD l, vi i, vi addr], us)) = some (.made (.d (.tup [vi (Md.hazard (⟨p_w, p_wn, p_fu, ⟨p_r0, p_r1, p_r2, p_r3⟩, p_ms, p_ls, p_is⟩ : Prog) l i addr).1, vb (Md.hazard (⟨p_w, p_wn, p_fu, ⟨p_r0, p_r1, p_r2, p_r3⟩, p_ms, p_ls, p_is⟩ : Prog) l i addr).2])) []) :=
  Says.flat (raw_memo_Hazard S dp (⟨p_w, p_wn, p_fu, ⟨p_r0, p_r1, p_r2, p_r3⟩, p_ms, p_ls, p_is⟩ : Prog) l i addr hl hi0 hi1) (np S 69 (by decide)) (rfl) A nb us
end
end Go.Aug.Mc


/- Machines of their own memory, registers: what the program answers. -/
namespace Go.Aug.Mc
open Go Go.Aug
set_option linter.unusedSimpArgs false
set_option linter.unusedVariables false
set_option maxHeartbeats 40000000
variable {E : Env} {fn : FuncId → Option (Env → CallT → CallT)}
section
variable (S : Sur E fn)
include S
theorem raw_arch_Still (dp : Nat) (s : State) (hm : s.mem.length < 1073741824) (hs : s.stack.length < 1073741824) : Says E fn (dp + 1) 123 [stateD s] (stateD s) := by
  unfold Says
  show ansOf (evC E fn (dp + 1) 123 [.d (stateD s)] []) = _
  rw [evC_succ, S.f_arch_Still, apF_some, F_arch_Still, mkF_run _ _ _ _ _ _ _ _ rfl]
  simp only [endN_gen, go_sem, Nat.reduceLT, Nat.reduceEqDiff, Nat.reduceAdd, Nat.reduceMul, Nat.reduceLeDiff, thq S, nbr S, TH, f_reach, Bool.beq_eq_decide_eq, bne, decide_true, decide_false, Int.reduceEq, Int.reduceLT, Int.reduceLE, Int.reduceNeg, reduceCtorEq, List.mem_cons, List.not_mem_nil, or_false, false_or, or_true, true_or, Nat.not_lt_zero, Bool.true_and, Bool.false_and, Bool.and_true, Bool.and_false, Bool.or_true, Bool.or_false, Bool.true_or, Bool.false_or, c_cloneI S hm, c_cloneI S hs]
theorem c_arch_Still (dp : Nat) (s_r0 : Int) (s_r1 : Int) (s_r2 : Int) (s_r3 : Int) (s_mm : List Int) (s_st : List Int) (s_pc : Int) (hm : (⟨⟨s_r0, s_r1, s_r2, s_r3⟩, s_mm, s_st, s_pc⟩ : State).mem.length < 1073741824) (hs : (⟨⟨s_r0, s_r1, s_r2, s_r3⟩, s_mm, s_st, s_pc⟩ : State).stack.length < 1073741824) (A : List Blk) (nb : Nat) : evOwnK false E (evC E fn (dp + 1)) 123 A nb (some ([.agg [vi s_r0, vi s_r1, vi s_r2, vi s_r3, rowD s_mm, rowD s_st, vi s_pc]], [])) = some (.made (.d (stateD (⟨⟨s_r0, s_r1, s_r2, s_r3⟩, s_mm, s_st, s_pc⟩ : State))) []) :=
  Says.deep (raw_arch_Still S dp (⟨⟨s_r0, s_r1, s_r2, s_r3⟩, s_mm, s_st, s_pc⟩ : State) hm hs) (np S 123 (by decide)) A nb
theorem u_arch_Still (dp : Nat) (s_r0 : Int) (s_r1 : Int) (s_r2 : Int) (s_r3 : Int) (s_mm : List Int) (s_st : List Int) (s_pc : Int) (hm : (⟨⟨s_r0, s_r1, s_r2, s_r3⟩, s_mm, s_st, s_pc⟩ : State).mem.length < 1073741824) (hs : (⟨⟨s_r0, s_r1, s_r2, s_r3⟩, s_mm, s_st, s_pc⟩ : State).stack.length < 1073741824) (hf : DV.flat 8 (stateD (⟨⟨s_r0, s_r1, s_r2, s_r3⟩, s_mm, s_st, s_pc⟩ : State)) = false) (A : List Blk) (nb ui : Nat) (us : List Nat) : evOwnK false E (evC E fn (dp + 1)) 123 A nb (some ([.agg [vi s_r0, vi s_r1, vi s_r2, vi s_r3, rowD s_mm, rowD s_st, vi s_pc]], ui :: us)) = some (.turned (.d (stateD (⟨⟨s_r0, s_r1, s_r2, s_r3⟩, s_mm, s_st, s_pc⟩ : State))) (setRo A (ui :: us))) :=
  Says.used (raw_arch_Still S dp (⟨⟨s_r0, s_r1, s_r2, s_r3⟩, s_mm, s_st, s_pc⟩ : State) hm hs) (np S 123 (by decide)) hf A nb ui us
theorem raw_conf_Still (dp : Nat) (c : Conf) (hm : c.state.mem.length < 1073741824) (hs : c.state.stack.length < 1073741824) (hb : c.buf.length < 1073741824) (hr : c.rsb.length < 1073741824) : Says E fn (dp + 2) 95 [confD c] (confD c) := by
  unfold Says
  show ansOf (evC E fn (dp + 1 + 1) 95 [.d (confD c)] []) = _
  rw [evC_succ, S.f_conf_Still, apF_some, F_conf_Still, mkF_run _ _ _ _ _ _ _ _ rfl]
  simp only [endN_gen, go_sem, Nat.reduceLT, Nat.reduceEqDiff, Nat.reduceAdd, Nat.reduceMul, Nat.reduceLeDiff, thq S, nbr S, TH, f_reach, Bool.beq_eq_decide_eq, bne, decide_true, decide_false, Int.reduceEq, Int.reduceLT, Int.reduceLE, Int.reduceNeg, reduceCtorEq, List.mem_cons, List.not_mem_nil, or_false, false_or, or_true, true_or, Nat.not_lt_zero, Bool.true_and, Bool.false_and, Bool.and_true, Bool.and_false, Bool.or_true, Bool.or_false, Bool.true_or, Bool.false_or, c_arch_Still S, hm, hs, c_cloneE S hb, c_cloneI S hr]
theorem c_conf_Still (dp : Nat) (c_r0 : Int) (c_r1 : Int) (c_r2 : Int) (c_r3 : Int) (c_mm : List Int) (c_st : List Int) (c_pc : Int) (c_bf : List Ent) (c_rb : List Int) (c_en : Int) (hm : (⟨⟨⟨c_r0, c_r1, c_r2, c_r3⟩, c_mm, c_st, c_pc⟩, c_bf, c_rb, c_en⟩ : Conf).state.mem.length < 1073741824) (hs : (⟨⟨⟨c_r0, c_r1, c_r2, c_r3⟩, c_mm, c_st, c_pc⟩, c_bf, c_rb, c_en⟩ : Conf).state.stack.length < 1073741824) (hb : (⟨⟨⟨c_r0, c_r1, c_r2, c_r3⟩, c_mm, c_st, c_pc⟩, c_bf, c_rb, c_en⟩ : Conf).buf.length < 1073741824) (hr : (⟨⟨⟨c_r0, c_r1, c_r2, c_r3⟩, c_mm, c_st, c_pc⟩, c_bf, c_rb, c_en⟩ : Conf).rsb.length < 1073741824) (A : List Blk) (nb : Nat) : evOwnK false E (evC E fn (dp + 2)) 95 A nb (some ([.agg [vi c_r0, vi c_r1, vi c_r2, vi c_r3, rowD c_mm, rowD c_st, vi c_pc, rowD c_bf, rowD c_rb, vi c_en]], [])) = some (.made (.d (confD (⟨⟨⟨c_r0, c_r1, c_r2, c_r3⟩, c_mm, c_st, c_pc⟩, c_bf, c_rb, c_en⟩ : Conf))) []) :=
  Says.deep (raw_conf_Still S dp (⟨⟨⟨c_r0, c_r1, c_r2, c_r3⟩, c_mm, c_st, c_pc⟩, c_bf, c_rb, c_en⟩ : Conf) hm hs hb hr) (np S 95 (by decide)) A nb
theorem u_conf_Still (dp : Nat) (c_r0 : Int) (c_r1 : Int) (c_r2 : Int) (c_r3 : Int) (c_mm : List Int) (c_st : List Int) (c_pc : Int) (c_bf : List Ent) (c_rb : List Int) (c_en : Int) (hm : (⟨⟨⟨c_r0, c_r1, c_r2, c_r3⟩, c_mm, c_st, c_pc⟩, c_bf, c_rb, c_en⟩ : Conf).state.mem.length < 1073741824) (hs : (⟨⟨⟨c_r0, c_r1, c_r2, c_r3⟩, c_mm, c_st, c_pc⟩, c_bf, c_rb, c_en⟩ : Conf).state.stack.length < 1073741824) (hb : (⟨⟨⟨c_r0, c_r1, c_r2, c_r3⟩, c_mm, c_st, c_pc⟩, c_bf, c_rb, c_en⟩ : Conf).buf.length < 1073741824) (hr : (⟨⟨⟨c_r0, c_r1, c_r2, c_r3⟩, c_mm, c_st, c_pc⟩, c_bf, c_rb, c_en⟩ : Conf).rsb.length < 1073741824) (hf : DV.flat 8 (confD (⟨⟨⟨c_r0, c_r1, c_r2, c_r3⟩, c_mm, c_st, c_pc⟩, c_bf, c_rb, c_en⟩ : Conf)) = false) (A : List Blk) (nb ui : Nat) (us : List Nat) : evOwnK false E (evC E fn (dp + 2)) 95 A nb (some ([.agg [vi c_r0, vi c_r1, vi c_r2, vi c_r3, rowD c_mm, rowD c_st, vi c_pc, rowD c_bf, rowD c_rb, vi c_en]], ui :: us)) = some (.turned (.d (confD (⟨⟨⟨c_r0, c_r1, c_r2, c_r3⟩, c_mm, c_st, c_pc⟩, c_bf, c_rb, c_en⟩ : Conf))) (setRo A (ui :: us))) :=
  Says.used (raw_conf_Still S dp (⟨⟨⟨c_r0, c_r1, c_r2, c_r3⟩, c_mm, c_st, c_pc⟩, c_bf, c_rb, c_en⟩ : Conf) hm hs hb hr) (np S 95 (by decide)) hf A nb ui us
theorem c_Backward (dp : Nat) (l : List Ent) (A : List Blk) (nb : Nat) : evOwnK false E (evC E fn (dp + 1)) 137 A nb (some ([rowD l], [])) = some (.made (.d (.fn (.func 140) [.vptr [rowD l]])) []) := by
  have h : Says E fn (dp + 1) 137 [rowD l] (.fn (.func 140) [.vptr [rowD l]]) := by
    unfold Says
    show ansOf (evC E fn (dp + 1) 137 [.d (rowD l)] []) = _
    rw [evC_succ, S.f_slices_Backward_api_Ent_api_Ent, apF_some, F_slices_Backward_api_Ent_api_Ent, mkF_run _ _ _ _ _ _ _ _ rfl]
    simp only [endN_gen, go_sem, Nat.reduceLT, Nat.reduceEqDiff, Nat.reduceAdd, Nat.reduceMul, Nat.reduceLeDiff, thq S, nbr S, TH, f_reach, Bool.beq_eq_decide_eq, bne, decide_true, decide_false, Int.reduceEq, Int.reduceLT, Int.reduceLE, Int.reduceNeg, reduceCtorEq, List.mem_cons, List.not_mem_nil, or_false, false_or, or_true, true_or, Nat.not_lt_zero, Bool.true_and, Bool.false_and, Bool.and_true, Bool.and_false, Bool.or_true, Bool.or_false, Bool.true_or, Bool.false_or, deep_ref]
  exact h.deep (np S 137 (by decide)) A nb
theorem rounds_pReg (dp : Nat) (p : Prog) (of : Regs) (l : List Ent) (r : Int) (hl : l.length < 1073741824) (kn : K) (kx : Nat → K) (D : Int) (d : AV) (T : List (Nat × AV))
    (h5 : getS d T 5 = .ref 0 0 0) (h9 : getS d T 9 = .ref 2 0 0) (h10 : getS d T 10 = .ref 3 0 0) (h11 : getS d T 11 = .ref 4 0 0)
    (hx : ∀ A, ansOf (kn (mk d 50 T) (.cells ((progC p).map .d) 0 false :: .cells ((regsC of).map .d) 0 false :: .cells [aint r] 0 false :: .cells [zi] 0 false :: .cells [zb] 0 false :: A)) = some (.tup [vi D, vb true])) :
    ∀ (k : Nat), k ≤ l.length → ∀ es, backElems (rowC l) 8 true k = some es → ∀ A, ansOf (roundsK RA_reso_Reg RB_reso_Reg [26, 27] (inn E 127) (evC E fn (dp + 1)) kn kx (kEnd 0 [.cell 10 false 1, .cell 11 false 1]) (mk d 50 T) es (.cells ((progC p).map .d) 0 false :: .cells ((regsC of).map .d) 0 false :: .cells [aint r] 0 false :: .cells [zi] 0 false :: .cells [zb] 0 false :: A)) =
      some (.tup [vi (Md.regGo p r D (l.take k).reverse).1, vb (Md.regGo p r D (l.take k).reverse).2]) := by
  intro k
  induction k with
  | zero =>
    intro _ es hes A
    have : es = [] := by simpa [backElems] using hes.symm
    subst this
    exact hx A
  | succ k ih =>
    intro hk es hes A
    obtain ⟨e, he⟩ := get_of (show k < l.length by omega)
    obtain ⟨es0, h0⟩ := back_some (s := 8) rfl l k (by omega)
    have := back_succ (s := 8) rfl he h0 hes
    subst this
    rw [take_rev he]
    have ih' := fun A' => ih (by omega) es0 h0 A'
    rw [roundsK]
    generalize hK : (fun (x : List AV) (A2 : List Blk) => roundsK RA_reso_Reg RB_reso_Reg [26, 27] (inn E 127) (evC E fn (dp + 1)) kn kx (kEnd 0 [.cell 10 false 1, .cell 11 false 1]) (mk d 50 T) es0 A2) = KK
    rw [RA_reso_Reg, RB_reso_Reg]
    by_cases h1 : Md.destK (Md.at_ p e.pc) = true
    · by_cases h2 : (Md.at_ p e.pc).d = r
      · cases h3 : e.done <;> simp only [endN_gen, go_sem, Nat.reduceLT, Nat.reduceEqDiff, Nat.reduceAdd, Nat.reduceMul, Nat.reduceLeDiff, thq S, nbr S, TH, f_reach, Bool.beq_eq_decide_eq, bne, decide_true, decide_false, Int.reduceEq, Int.reduceLT, Int.reduceLE, Int.reduceNeg, reduceCtorEq, List.mem_cons, List.not_mem_nil, or_false, false_or, or_true, true_or, Nat.not_lt_zero, Bool.true_and, Bool.false_and, Bool.and_true, Bool.and_false, Bool.or_true, Bool.or_false, Bool.true_or, Bool.false_or, off S 127 7 (by decide) rfl, off S 127 17 (by decide) rfl, off S 127 19 (by decide) rfl, h5, h9, h10, h11, c_seqm_At S, c_reso_Dest S, Md.regGo, Md.dest, h1, eq_true h2, h3]
      · simp only [endN_gen, go_sem, Nat.reduceLT, Nat.reduceEqDiff, Nat.reduceAdd, Nat.reduceMul, Nat.reduceLeDiff, thq S, nbr S, TH, f_reach, Bool.beq_eq_decide_eq, bne, decide_true, decide_false, Int.reduceEq, Int.reduceLT, Int.reduceLE, Int.reduceNeg, reduceCtorEq, List.mem_cons, List.not_mem_nil, or_false, false_or, or_true, true_or, Nat.not_lt_zero, Bool.true_and, Bool.false_and, Bool.and_true, Bool.and_false, Bool.or_true, Bool.or_false, Bool.true_or, Bool.false_or, off S 127 7 (by decide) rfl, off S 127 17 (by decide) rfl, off S 127 19 (by decide) rfl, h5, h9, h10, h11, c_seqm_At S, c_reso_Dest S, Md.regGo, Md.dest, h1, eq_false h2]
        rw [← hK]
        exact ih' _
    · have h1' : Md.destK (Md.at_ p e.pc) = false := by simpa using h1
      simp only [endN_gen, go_sem, Nat.reduceLT, Nat.reduceEqDiff, Nat.reduceAdd, Nat.reduceMul, Nat.reduceLeDiff, thq S, nbr S, TH, f_reach, Bool.beq_eq_decide_eq, bne, decide_true, decide_false, Int.reduceEq, Int.reduceLT, Int.reduceLE, Int.reduceNeg, reduceCtorEq, List.mem_cons, List.not_mem_nil, or_false, false_or, or_true, true_or, Nat.not_lt_zero, Bool.true_and, Bool.false_and, Bool.and_true, Bool.and_false, Bool.or_true, Bool.or_false, Bool.true_or, Bool.false_or, off S 127 7 (by decide) rfl, off S 127 17 (by decide) rfl, off S 127 19 (by decide) rfl, h5, h9, h10, h11, c_seqm_At S, c_reso_Dest S, Md.regGo, Md.dest, h1']
      rw [← hK]
      exact ih' _
end
end Go.Aug.Mc


/- Registers, fences: what the program answers. -/
namespace Go.Aug.Mc
open Go Go.Aug
set_option linter.unusedSimpArgs false
set_option linter.unusedVariables false
set_option maxHeartbeats 40000000
/-- Where the first fence stands. -/
def idxGo (p : Prog) : Nat → List Ent → Int
  | _, [] => -1
  | k, e :: l => bif Md.isFence p e then (k : Int) else idxGo p (k + 1) l
theorem idxGo_any (p : Prog) : ∀ (l : List Ent) (k : Nat), decide (idxGo p k l ≥ 0) = l.any (Md.isFence p)
  | [], _ => rfl
  | e :: l, k => by
    rw [idxGo, List.any_cons]
    cases h : Md.isFence p e with
    | true => simp
    | false =>
      rw [cond_false, Bool.false_or]
      exact idxGo_any p l (k + 1)
variable {E : Env} {fn : FuncId → Option (Env → CallT → CallT)}
section
variable (S : Sur E fn)
include S
theorem raw_reso_Reg (dp : Nat) (p : Prog) (of : Regs) (l : List Ent) (i : Int) (r : Int) (hl : l.length < 1073741824) : Says E fn (dp + 3) 127 [progD p, .agg (regsC of), rowD l, vi i, vi r] (.tup [vi (Md.reg p of l i r).1, vb (Md.reg p of l i r).2]) := by
  unfold Says
  show ansOf (evC E fn (dp + 2 + 1) 127 [.d (progD p), .d (.agg (regsC of)), .d (rowD l), .d (vi i), .d (vi r)] []) = _
  rw [evC_succ, S.f_reso_Reg, apF_some, F_reso_Reg, mkF_run _ _ _ _ _ _ _ _ rfl]
  have hcl := cut_len l i
  by_cases h : r < 0
  · simp only [endN_gen, go_sem, Nat.reduceLT, Nat.reduceEqDiff, Nat.reduceAdd, Nat.reduceMul, Nat.reduceLeDiff, thq S, nbr S, TH, f_reach, Bool.beq_eq_decide_eq, bne, decide_true, decide_false, Int.reduceEq, Int.reduceLT, Int.reduceLE, Int.reduceNeg, reduceCtorEq, List.mem_cons, List.not_mem_nil, or_false, false_or, or_true, true_or, Nat.not_lt_zero, Bool.true_and, Bool.false_and, Bool.and_true, Bool.and_false, Bool.or_true, Bool.or_false, Bool.true_or, Bool.false_or, off S 127 7 (by decide) rfl, off S 127 17 (by decide) rfl, off S 127 19 (by decide) rfl, h, Md.reg]
  by_cases h2 : r ≥ 4
  · simp only [endN_gen, go_sem, Nat.reduceLT, Nat.reduceEqDiff, Nat.reduceAdd, Nat.reduceMul, Nat.reduceLeDiff, thq S, nbr S, TH, f_reach, Bool.beq_eq_decide_eq, bne, decide_true, decide_false, Int.reduceEq, Int.reduceLT, Int.reduceLE, Int.reduceNeg, reduceCtorEq, List.mem_cons, List.not_mem_nil, or_false, false_or, or_true, true_or, Nat.not_lt_zero, Bool.true_and, Bool.false_and, Bool.and_true, Bool.and_false, Bool.or_true, Bool.or_false, Bool.true_or, Bool.false_or, off S 127 7 (by decide) rfl, off S 127 17 (by decide) rfl, off S 127 19 (by decide) rfl, h, h2, Md.reg, show 4 ≤ r by omega]
  · have e1 : (Md.cut l i).take (Md.cut l i).length = Md.cut l i := List.take_of_length_le (by omega)
    have e : Md.reg p of l i r = Md.regGo p r (Md.getR of r) ((Md.cut l i).take (Md.cut l i).length).reverse := by
      unfold Md.reg; rw [if_neg (by omega), e1]
    rw [e]
    obtain ⟨es, hes⟩ := back_some (s := 8) rfl (Md.cut l i) (Md.cut l i).length (Nat.le_refl _)
    have hr := elems_row (E := inn E 127) (ag := true) S.bk rfl (Md.cut l i) (by unfold limA; omega) (by decide) (by simp) []
    rw [hes] at hr
    simp only [endN_gen, go_sem, Nat.reduceLT, Nat.reduceEqDiff, Nat.reduceAdd, Nat.reduceMul, Nat.reduceLeDiff, thq S, nbr S, TH, f_reach, Bool.beq_eq_decide_eq, bne, decide_true, decide_false, Int.reduceEq, Int.reduceLT, Int.reduceLE, Int.reduceNeg, reduceCtorEq, List.mem_cons, List.not_mem_nil, or_false, false_or, or_true, true_or, Nat.not_lt_zero, Bool.true_and, Bool.false_and, Bool.and_true, Bool.and_false, Bool.or_true, Bool.or_false, Bool.true_or, Bool.false_or, off S 127 7 (by decide) rfl, off S 127 17 (by decide) rfl, off S 127 19 (by decide) rfl, h, h2, c_robq_Cut S, hl, c_Backward S, hr]
    refine rounds_pReg S (dp + 1) p of (Md.cut l i) r (by omega) _ _ (Md.getR of r) aundef _ rfl rfl rfl rfl ?_ _ (Nat.le_refl _) es hes []
    intro A
    obtain rfl | rfl | rfl | rfl : r = 0 ∨ r = 1 ∨ r = 2 ∨ r = 3 := by omega
    · simp only [endN_gen, go_sem, Nat.reduceLT, Nat.reduceEqDiff, Nat.reduceAdd, Nat.reduceMul, Nat.reduceLeDiff, thq S, nbr S, TH, f_reach, Bool.beq_eq_decide_eq, bne, decide_true, decide_false, Int.reduceEq, Int.reduceLT, Int.reduceLE, Int.reduceNeg, reduceCtorEq, List.mem_cons, List.not_mem_nil, or_false, false_or, or_true, true_or, Nat.not_lt_zero, Bool.true_and, Bool.false_and, Bool.and_true, Bool.and_false, Bool.or_true, Bool.or_false, Bool.true_or, Bool.false_or, off S 127 7 (by decide) rfl, off S 127 17 (by decide) rfl, off S 127 19 (by decide) rfl, Int.toNat_zero, Int.reduceToNat, Nat.zero_mul, Md.getR]; rfl
    · simp only [endN_gen, go_sem, Nat.reduceLT, Nat.reduceEqDiff, Nat.reduceAdd, Nat.reduceMul, Nat.reduceLeDiff, thq S, nbr S, TH, f_reach, Bool.beq_eq_decide_eq, bne, decide_true, decide_false, Int.reduceEq, Int.reduceLT, Int.reduceLE, Int.reduceNeg, reduceCtorEq, List.mem_cons, List.not_mem_nil, or_false, false_or, or_true, true_or, Nat.not_lt_zero, Bool.true_and, Bool.false_and, Bool.and_true, Bool.and_false, Bool.or_true, Bool.or_false, Bool.true_or, Bool.false_or, off S 127 7 (by decide) rfl, off S 127 17 (by decide) rfl, off S 127 19 (by decide) rfl, Int.reduceToNat, Nat.one_mul, Md.getR]; rfl
    · simp only [endN_gen, go_sem, Nat.reduceLT, Nat.reduceEqDiff, Nat.reduceAdd, Nat.reduceMul, Nat.reduceLeDiff, thq S, nbr S, TH, f_reach, Bool.beq_eq_decide_eq, bne, decide_true, decide_false, Int.reduceEq, Int.reduceLT, Int.reduceLE, Int.reduceNeg, reduceCtorEq, List.mem_cons, List.not_mem_nil, or_false, false_or, or_true, true_or, Nat.not_lt_zero, Bool.true_and, Bool.false_and, Bool.and_true, Bool.and_false, Bool.or_true, Bool.or_false, Bool.true_or, Bool.false_or, off S 127 7 (by decide) rfl, off S 127 17 (by decide) rfl, off S 127 19 (by decide) rfl, Int.reduceToNat, Md.getR]; rfl
    · simp only [endN_gen, go_sem, Nat.reduceLT, Nat.reduceEqDiff, Nat.reduceAdd, Nat.reduceMul, Nat.reduceLeDiff, thq S, nbr S, TH, f_reach, Bool.beq_eq_decide_eq, bne, decide_true, decide_false, Int.reduceEq, Int.reduceLT, Int.reduceLE, Int.reduceNeg, reduceCtorEq, List.mem_cons, List.not_mem_nil, or_false, false_or, or_true, true_or, Nat.not_lt_zero, Bool.true_and, Bool.false_and, Bool.and_true, Bool.and_false, Bool.or_true, Bool.or_false, Bool.true_or, Bool.false_or, off S 127 7 (by decide) rfl, off S 127 17 (by decide) rfl, off S 127 19 (by decide) rfl, Int.reduceToNat, Md.getR]; rfl
theorem c_reso_Reg (dp : Nat) (p_w : Int) (p_wn : Int) (p_fu : Int) (p_r0 : Int) (p_r1 : Int) (p_r2 : Int) (p_r3 : Int) (p_ms : List MemT) (p_ls : List Label) (p_is : List Ins) (of_r0 : Int) (of_r1 : Int) (of_r2 : Int) (of_r3 : Int) (l : List Ent) (i : Int) (r : Int) (hl : l.length < 1073741824) (A : List Blk) (nb : Nat) (us : List Nat) : evOwnK false E (evC E fn (dp + 3)) 127 A nb (some ([.agg [vi p_w, vi p_wn, vi p_fu, vi p_r0, vi p_r1, vi p_r2, vi p_r3, rowD p_ms, rowD p_ls, rowD p_is], .agg [vi of_r0, vi of_r1, vi of_r2, vi of_r3], rowD l, vi i, vi r], us)) = some (.made (.d (.tup [vi (Md.reg (⟨p_w, p_wn, p_fu, ⟨p_r0, p_r1, p_r2, p_r3⟩, p_ms, p_ls, p_is⟩ : Prog) (⟨of_r0, of_r1, of_r2, of_r3⟩ : Regs) l i r).1, vb (Md.reg (⟨p_w, p_wn, p_fu, ⟨p_r0, p_r1, p_r2, p_r3⟩, p_ms, p_ls, p_is⟩ : Prog) (⟨of_r0, of_r1, of_r2, of_r3⟩ : Regs) l i r).2])) []) :=
  Says.flat (raw_reso_Reg S dp (⟨p_w, p_wn, p_fu, ⟨p_r0, p_r1, p_r2, p_r3⟩, p_ms, p_ls, p_is⟩ : Prog) (⟨of_r0, of_r1, of_r2, of_r3⟩ : Regs) l i r hl) (np S 127 (by decide)) (rfl) A nb us
theorem raw_reso_Val (dp : Nat) (p : Prog) (of : Regs) (l : List Ent) (i : Int) (v : Val) (hl : l.length < 1073741824) : Says E fn (dp + 4) 101 [progD p, .agg (regsC of), rowD l, vi i, .agg (Cl.cells v)] (.tup [vi (Md.val p of l i v).1, vb (Md.val p of l i v).2]) := by
  unfold Says
  show ansOf (evC E fn (dp + 3 + 1) 101 [.d (progD p), .d (.agg (regsC of)), .d (rowD l), .d (vi i), .d (.agg (Cl.cells v))] []) = _
  rw [evC_succ, S.f_reso_Val, apF_some, F_reso_Val, mkF_run _ _ _ _ _ _ _ _ rfl]
  cases h : v.reg <;> simp only [endN_gen, go_sem, Nat.reduceLT, Nat.reduceEqDiff, Nat.reduceAdd, Nat.reduceMul, Nat.reduceLeDiff, thq S, nbr S, TH, f_reach, Bool.beq_eq_decide_eq, bne, decide_true, decide_false, Int.reduceEq, Int.reduceLT, Int.reduceLE, Int.reduceNeg, reduceCtorEq, List.mem_cons, List.not_mem_nil, or_false, false_or, or_true, true_or, Nat.not_lt_zero, Bool.true_and, Bool.false_and, Bool.and_true, Bool.and_false, Bool.or_true, Bool.or_false, Bool.true_or, Bool.false_or, off S 101 7 (by decide) rfl, h, Md.val, c_reso_Reg S, hl, c_word_Mask S]
theorem c_reso_Val (dp : Nat) (p_w : Int) (p_wn : Int) (p_fu : Int) (p_r0 : Int) (p_r1 : Int) (p_r2 : Int) (p_r3 : Int) (p_ms : List MemT) (p_ls : List Label) (p_is : List Ins) (of_r0 : Int) (of_r1 : Int) (of_r2 : Int) (of_r3 : Int) (l : List Ent) (i : Int) (v_g : Bool) (v_n : Int) (hl : l.length < 1073741824) (A : List Blk) (nb : Nat) (us : List Nat) : evOwnK false E (evC E fn (dp + 4)) 101 A nb (some ([.agg [vi p_w, vi p_wn, vi p_fu, vi p_r0, vi p_r1, vi p_r2, vi p_r3, rowD p_ms, rowD p_ls, rowD p_is], .agg [vi of_r0, vi of_r1, vi of_r2, vi of_r3], rowD l, vi i, .agg [vb v_g, vi v_n]], us)) = some (.made (.d (.tup [vi (Md.val (⟨p_w, p_wn, p_fu, ⟨p_r0, p_r1, p_r2, p_r3⟩, p_ms, p_ls, p_is⟩ : Prog) (⟨of_r0, of_r1, of_r2, of_r3⟩ : Regs) l i (⟨v_g, v_n⟩ : Val)).1, vb (Md.val (⟨p_w, p_wn, p_fu, ⟨p_r0, p_r1, p_r2, p_r3⟩, p_ms, p_ls, p_is⟩ : Prog) (⟨of_r0, of_r1, of_r2, of_r3⟩ : Regs) l i (⟨v_g, v_n⟩ : Val)).2])) []) :=
  Says.flat (raw_reso_Val S dp (⟨p_w, p_wn, p_fu, ⟨p_r0, p_r1, p_r2, p_r3⟩, p_ms, p_ls, p_is⟩ : Prog) (⟨of_r0, of_r1, of_r2, of_r3⟩ : Regs) l i (⟨v_g, v_n⟩ : Val) hl) (np S 101 (by decide)) (rfl) A nb us
theorem raw_reso_Blocked_1 (dp : Nat) (e : Ent) (p : Prog) : Says E fn (dp + 2) 126 [.agg (Cl.cells e), .vptr (progC p)] (vb (Md.isFence p e)) := by
  unfold Says
  show ansOf (evC E fn (dp + 1 + 1) 126 [.d (.agg (Cl.cells e)), .d (.vptr (progC p))] []) = _
  rw [evC_succ, S.f_reso_Blocked_1, apF_some, F_reso_Blocked_1, mkF_run _ _ _ _ _ _ _ _ rfl]
  simp only [endN_gen, go_sem, Nat.reduceLT, Nat.reduceEqDiff, Nat.reduceAdd, Nat.reduceMul, Nat.reduceLeDiff, thq S, nbr S, TH, f_reach, Bool.beq_eq_decide_eq, bne, decide_true, decide_false, Int.reduceEq, Int.reduceLT, Int.reduceLE, Int.reduceNeg, reduceCtorEq, List.mem_cons, List.not_mem_nil, or_false, false_or, or_true, true_or, Nat.not_lt_zero, Bool.true_and, Bool.false_and, Bool.and_true, Bool.and_false, Bool.or_true, Bool.or_false, Bool.true_or, Bool.false_or, c_seqm_At S, Md.isFence]
theorem c_reso_Blocked_1 (dp : Nat) (e_pc : Int) (e_vl : Int) (e_ad : Int) (e_fr : Int) (e_nx : Int) (e_dn : Bool) (e_kn : Bool) (e_ft : Bool) (p_w : Int) (p_wn : Int) (p_fu : Int) (p_r0 : Int) (p_r1 : Int) (p_r2 : Int) (p_r3 : Int) (p_ms : List MemT) (p_ls : List Label) (p_is : List Ins) (A : List Blk) (nb : Nat) (us : List Nat) : evOwnK false E (evC E fn (dp + 2)) 126 A nb (some ([.agg [vi e_pc, vi e_vl, vi e_ad, vi e_fr, vi e_nx, vb e_dn, vb e_kn, vb e_ft], .vptr [vi p_w, vi p_wn, vi p_fu, vi p_r0, vi p_r1, vi p_r2, vi p_r3, rowD p_ms, rowD p_ls, rowD p_is]], us)) = some (.made (.d (vb (Md.isFence (⟨p_w, p_wn, p_fu, ⟨p_r0, p_r1, p_r2, p_r3⟩, p_ms, p_ls, p_is⟩ : Prog) (⟨e_pc, e_vl, e_ad, e_fr, e_nx, e_dn, e_kn, e_ft⟩ : Ent)))) []) :=
  Says.flat (raw_reso_Blocked_1 S dp (⟨e_pc, e_vl, e_ad, e_fr, e_nx, e_dn, e_kn, e_ft⟩ : Ent) (⟨p_w, p_wn, p_fu, ⟨p_r0, p_r1, p_r2, p_r3⟩, p_ms, p_ls, p_is⟩ : Prog) ) (np S 126 (by decide)) (rfl) A nb us
theorem loop_idx (dp : Nat) (p : Prog) (l : List Ent) (hl : l.length < 1073741824) (kx : Nat → K)
    (hx : ∀ T, ansOf (kx 0 (mk .bot 19 T) []) = some (vi (-1))) :
    ∀ (m k fuel : Nat), k + m = l.length → m ≤ fuel → ansOf (B6_slices_IndexFunc_api_Ent_api_Ent (inn E 136) (evC E fn (dp + 2)) (loopK 6 B6_slices_IndexFunc_api_Ent_api_Ent (inn E 136) (evC E fn (dp + 2)) kx (kEnd 0 [.tmp 4]) fuel) kx (kEnd 0 [.tmp 4])
      (mk .bot 19 [(0, .d (rowD l)), (1, .d (.fn (.func 126) [.vptr (progC p)])), (7, aint l.length), (8, aint k)]) []) = some (vi (idxGo p k (l.drop k))) := by
  intro m
  induction m with
  | zero =>
    intro k fuel hk _
    generalize loopK 6 B6_slices_IndexFunc_api_Ent_api_Ent _ _ kx _ fuel = KK
    rw [B6_slices_IndexFunc_api_Ent_api_Ent, List.drop_of_length_le (by omega)]
    simp only [endN_gen, go_sem, Nat.reduceLT, Nat.reduceEqDiff, Nat.reduceAdd, Nat.reduceMul, Nat.reduceLeDiff, thq S, nbr S, TH, f_reach, Bool.beq_eq_decide_eq, bne, decide_true, decide_false, Int.reduceEq, Int.reduceLT, Int.reduceLE, Int.reduceNeg, reduceCtorEq, List.mem_cons, List.not_mem_nil, or_false, false_or, or_true, true_or, Nat.not_lt_zero, Bool.true_and, Bool.false_and, Bool.and_true, Bool.and_false, Bool.or_true, Bool.or_false, Bool.true_or, Bool.false_or, off S 136 1 (by decide) rfl, off S 136 13 (by decide) rfl, show ¬ (k : Int) < l.length by omega, idxGo]
    exact hx _
  | succ m ih =>
    intro k fuel hk hf
    obtain ⟨e, he⟩ := get_of (show k < l.length by omega)
    obtain ⟨fuel, rfl⟩ : ∃ m, fuel = m + 1 := ⟨fuel - 1, by omega⟩
    generalize hK : loopK 6 B6_slices_IndexFunc_api_Ent_api_Ent _ _ kx _ (fuel + 1) = KK
    rw [B6_slices_IndexFunc_api_Ent_api_Ent, drop_get he]
    cases h0 : Md.isFence p e with
    | false =>
      simp only [endN_gen, go_sem, Nat.reduceLT, Nat.reduceEqDiff, Nat.reduceAdd, Nat.reduceMul, Nat.reduceLeDiff, thq S, nbr S, TH, f_reach, Bool.beq_eq_decide_eq, bne, decide_true, decide_false, Int.reduceEq, Int.reduceLT, Int.reduceLE, Int.reduceNeg, reduceCtorEq, List.mem_cons, List.not_mem_nil, or_false, false_or, or_true, true_or, Nat.not_lt_zero, Bool.true_and, Bool.false_and, Bool.and_true, Bool.and_false, Bool.or_true, Bool.or_false, Bool.true_or, Bool.false_or, off S 136 1 (by decide) rfl, off S 136 13 (by decide) rfl, show (k : Int) < l.length by omega, w_ix he, c_reso_Blocked_1 S, h0, idxGo, wi k (by omega)]
      rw [← hK, loop_in (on S _ _ [0, 1, 7, 8] (by decide) rfl) rfl _ _ _ _ _ _ _ _ _ rfl]
      simp only [endN_gen, go_sem, Nat.reduceLT, Nat.reduceEqDiff, Nat.reduceAdd, Nat.reduceMul, Nat.reduceLeDiff, thq S, nbr S, TH, f_reach, Bool.beq_eq_decide_eq, bne, decide_true, decide_false, Int.reduceEq, Int.reduceLT, Int.reduceLE, Int.reduceNeg, reduceCtorEq, List.mem_cons, List.not_mem_nil, or_false, false_or, or_true, true_or, Nat.not_lt_zero, Bool.true_and, Bool.false_and, Bool.and_true, Bool.and_false, Bool.or_true, Bool.or_false, Bool.true_or, Bool.false_or, off S 136 1 (by decide) rfl, off S 136 13 (by decide) rfl]
      exact ih (k + 1) fuel (by omega) (by omega)
    | true => simp only [endN_gen, go_sem, Nat.reduceLT, Nat.reduceEqDiff, Nat.reduceAdd, Nat.reduceMul, Nat.reduceLeDiff, thq S, nbr S, TH, f_reach, Bool.beq_eq_decide_eq, bne, decide_true, decide_false, Int.reduceEq, Int.reduceLT, Int.reduceLE, Int.reduceNeg, reduceCtorEq, List.mem_cons, List.not_mem_nil, or_false, false_or, or_true, true_or, Nat.not_lt_zero, Bool.true_and, Bool.false_and, Bool.and_true, Bool.and_false, Bool.or_true, Bool.or_false, Bool.true_or, Bool.false_or, off S 136 1 (by decide) rfl, off S 136 13 (by decide) rfl, show (k : Int) < l.length by omega, w_ix he, c_reso_Blocked_1 S, h0, idxGo, wi k (by omega)]
theorem raw_slices_IndexFunc_api_Ent_api_Ent (dp : Nat) (l : List Ent) (p : Prog) (hl : l.length < 1073741824) : Says E fn (dp + 3) 136 [rowD l, .fn (.func 126) [.vptr (progC p)]] (vi (idxGo p 0 l)) := by
  unfold Says
  show ansOf (evC E fn (dp + 2 + 1) 136 [.d (rowD l), .d (.fn (.func 126) [.vptr (progC p)])] []) = _
  rw [evC_succ, S.f_slices_IndexFunc_api_Ent_api_Ent, apF_some, F_slices_IndexFunc_api_Ent_api_Ent, mkF_run _ _ _ _ _ _ _ _ rfl]
  simp only [endN_gen, go_sem, Nat.reduceLT, Nat.reduceEqDiff, Nat.reduceAdd, Nat.reduceMul, Nat.reduceLeDiff, thq S, nbr S, TH, f_reach, Bool.beq_eq_decide_eq, bne, decide_true, decide_false, Int.reduceEq, Int.reduceLT, Int.reduceLE, Int.reduceNeg, reduceCtorEq, List.mem_cons, List.not_mem_nil, or_false, false_or, or_true, true_or, Nat.not_lt_zero, Bool.true_and, Bool.false_and, Bool.and_true, Bool.and_false, Bool.or_true, Bool.or_false, Bool.true_or, Bool.false_or, off S 136 1 (by decide) rfl, off S 136 13 (by decide) rfl]
  rw [big_eq, loop_in (on S _ _ [0, 1, 7, 8] (by decide) rfl) rfl _ _ _ _ _ _ _ _ _ rfl]
  simp only [endN_gen, go_sem, Nat.reduceLT, Nat.reduceEqDiff, Nat.reduceAdd, Nat.reduceMul, Nat.reduceLeDiff, thq S, nbr S, TH, f_reach, Bool.beq_eq_decide_eq, bne, decide_true, decide_false, Int.reduceEq, Int.reduceLT, Int.reduceLE, Int.reduceNeg, reduceCtorEq, List.mem_cons, List.not_mem_nil, or_false, false_or, or_true, true_or, Nat.not_lt_zero, Bool.true_and, Bool.false_and, Bool.and_true, Bool.and_false, Bool.or_true, Bool.or_false, Bool.true_or, Bool.false_or, off S 136 1 (by decide) rfl, off S 136 13 (by decide) rfl]
  have := loop_idx S dp p l hl (blockK 0 (cSeq (cOps [st 4 (oMov (ci (-1)))]) cRet (inn E 136) (evC E fn (dp + 2)) (kEnd 0 [.tmp 4]) (fun _ _ _ => none) (kEnd 0 [.tmp 4])) (fun _ _ _ => none)) ?_ l.length 0 999999999999999999999999999999 (by omega) (by omega)
  · rw [List.drop_zero] at this
    exact this
  intro T
  simp only [endN_gen, go_sem, Nat.reduceLT, Nat.reduceEqDiff, Nat.reduceAdd, Nat.reduceMul, Nat.reduceLeDiff, thq S, nbr S, TH, f_reach, Bool.beq_eq_decide_eq, bne, decide_true, decide_false, Int.reduceEq, Int.reduceLT, Int.reduceLE, Int.reduceNeg, reduceCtorEq, List.mem_cons, List.not_mem_nil, or_false, false_or, or_true, true_or, Nat.not_lt_zero, Bool.true_and, Bool.false_and, Bool.and_true, Bool.and_false, Bool.or_true, Bool.or_false, Bool.true_or, Bool.false_or, off S 136 1 (by decide) rfl, off S 136 13 (by decide) rfl]
theorem c_slices_IndexFunc_api_Ent_api_Ent (dp : Nat) (l : List Ent) (p_w : Int) (p_wn : Int) (p_fu : Int) (p_r0 : Int) (p_r1 : Int) (p_r2 : Int) (p_r3 : Int) (p_ms : List MemT) (p_ls : List Label) (p_is : List Ins) (hl : l.length < 1073741824) (A : List Blk) (nb : Nat) (us : List Nat) : evOwnK false E (evC E fn (dp + 3)) 136 A nb (some ([rowD l, .fn (.func 126) [.vptr [vi p_w, vi p_wn, vi p_fu, vi p_r0, vi p_r1, vi p_r2, vi p_r3, rowD p_ms, rowD p_ls, rowD p_is]]], us)) = some (.made (.d (vi (idxGo (⟨p_w, p_wn, p_fu, ⟨p_r0, p_r1, p_r2, p_r3⟩, p_ms, p_ls, p_is⟩ : Prog) 0 l))) []) :=
  Says.flat (raw_slices_IndexFunc_api_Ent_api_Ent S dp l (⟨p_w, p_wn, p_fu, ⟨p_r0, p_r1, p_r2, p_r3⟩, p_ms, p_ls, p_is⟩ : Prog) hl) (np S 136 (by decide)) (rfl) A nb us
theorem raw_slices_ContainsFunc_api_Ent_api_Ent (dp : Nat) (l : List Ent) (p : Prog) (hl : l.length < 1073741824) : Says E fn (dp + 4) 125 [rowD l, .fn (.func 126) [.vptr (progC p)]] (vb (l.any (Md.isFence p))) := by
  unfold Says
  show ansOf (evC E fn (dp + 3 + 1) 125 [.d (rowD l), .d (.fn (.func 126) [.vptr (progC p)])] []) = _
  rw [evC_succ, S.f_slices_ContainsFunc_api_Ent_api_Ent, apF_some, F_slices_ContainsFunc_api_Ent_api_Ent, mkF_run _ _ _ _ _ _ _ _ rfl]
  rw [← idxGo_any p l 0]
  simp only [endN_gen, go_sem, Nat.reduceLT, Nat.reduceEqDiff, Nat.reduceAdd, Nat.reduceMul, Nat.reduceLeDiff, thq S, nbr S, TH, f_reach, Bool.beq_eq_decide_eq, bne, decide_true, decide_false, Int.reduceEq, Int.reduceLT, Int.reduceLE, Int.reduceNeg, reduceCtorEq, List.mem_cons, List.not_mem_nil, or_false, false_or, or_true, true_or, Nat.not_lt_zero, Bool.true_and, Bool.false_and, Bool.and_true, Bool.and_false, Bool.or_true, Bool.or_false, Bool.true_or, Bool.false_or, c_slices_IndexFunc_api_Ent_api_Ent S, hl]
theorem c_slices_ContainsFunc_api_Ent_api_Ent (dp : Nat) (l : List Ent) (p_w : Int) (p_wn : Int) (p_fu : Int) (p_r0 : Int) (p_r1 : Int) (p_r2 : Int) (p_r3 : Int) (p_ms : List MemT) (p_ls : List Label) (p_is : List Ins) (hl : l.length < 1073741824) (A : List Blk) (nb : Nat) (us : List Nat) : evOwnK false E (evC E fn (dp + 4)) 125 A nb (some ([rowD l, .fn (.func 126) [.vptr [vi p_w, vi p_wn, vi p_fu, vi p_r0, vi p_r1, vi p_r2, vi p_r3, rowD p_ms, rowD p_ls, rowD p_is]]], us)) = some (.made (.d (vb (l.any (Md.isFence (⟨p_w, p_wn, p_fu, ⟨p_r0, p_r1, p_r2, p_r3⟩, p_ms, p_ls, p_is⟩ : Prog))))) []) :=
  Says.flat (raw_slices_ContainsFunc_api_Ent_api_Ent S dp l (⟨p_w, p_wn, p_fu, ⟨p_r0, p_r1, p_r2, p_r3⟩, p_ms, p_ls, p_is⟩ : Prog) hl) (np S 125 (by decide)) (rfl) A nb us
theorem raw_reso_Blocked (dp : Nat) (p : Prog) (l : List Ent) (i : Int) (hl : l.length < 1073741824) : Says E fn (dp + 5) 99 [progD p, rowD l, vi i] (vb (Md.blocked p l i)) := by
  unfold Says
  show ansOf (evC E fn (dp + 4 + 1) 99 [.d (progD p), .d (rowD l), .d (vi i)] []) = _
  rw [evC_succ, S.f_reso_Blocked, apF_some, F_reso_Blocked, mkF_run _ _ _ _ _ _ _ _ rfl]
  have hcl := cut_len l i
  simp only [endN_gen, go_sem, Nat.reduceLT, Nat.reduceEqDiff, Nat.reduceAdd, Nat.reduceMul, Nat.reduceLeDiff, thq S, nbr S, TH, f_reach, Bool.beq_eq_decide_eq, bne, decide_true, decide_false, Int.reduceEq, Int.reduceLT, Int.reduceLE, Int.reduceNeg, reduceCtorEq, List.mem_cons, List.not_mem_nil, or_false, false_or, or_true, true_or, Nat.not_lt_zero, Bool.true_and, Bool.false_and, Bool.and_true, Bool.and_false, Bool.or_true, Bool.or_false, Bool.true_or, Bool.false_or, c_robq_Cut S, hl, deep_ref, c_slices_ContainsFunc_api_Ent_api_Ent S, show (Md.cut l i).length < 1073741824 by omega, Md.blocked]
theorem c_reso_Blocked (dp : Nat) (p_w : Int) (p_wn : Int) (p_fu : Int) (p_r0 : Int) (p_r1 : Int) (p_r2 : Int) (p_r3 : Int) (p_ms : List MemT) (p_ls : List Label) (p_is : List Ins) (l : List Ent) (i : Int) (hl : l.length < 1073741824) (A : List Blk) (nb : Nat) (us : List Nat) : evOwnK false E (evC E fn (dp + 5)) 99 A nb (some ([.agg [vi p_w, vi p_wn, vi p_fu, vi p_r0, vi p_r1, vi p_r2, vi p_r3, rowD p_ms, rowD p_ls, rowD p_is], rowD l, vi i], us)) = some (.made (.d (vb (Md.blocked (⟨p_w, p_wn, p_fu, ⟨p_r0, p_r1, p_r2, p_r3⟩, p_ms, p_ls, p_is⟩ : Prog) l i))) []) :=
  Says.flat (raw_reso_Blocked S dp (⟨p_w, p_wn, p_fu, ⟨p_r0, p_r1, p_r2, p_r3⟩, p_ms, p_ls, p_is⟩ : Prog) l i hl) (np S 99 (by decide)) (rfl) A nb us
end
end Go.Aug.Mc


