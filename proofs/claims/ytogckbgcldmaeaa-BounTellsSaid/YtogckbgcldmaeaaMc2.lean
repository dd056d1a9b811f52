/- What is held of a run's surroundings. -/
import Derived.Test.YtogckbgcldmaeaaMcP
import Derived.Test.YtogckbgcldmaeaaEvP
import Derived.Test.YtogckbgcldmaeaaEvPc
import Derived.Test.YtogckbgcldmaeaaMd2
namespace Go.Aug.Mc
open Go Go.Aug

/-- Functions that work on the caller's blocks. -/
def BR : List Nat := [120, 121, 134, 135]
/-- Who calls (times 1000), and whom: where the answer is the caller's own. -/
def TH : List Nat := [139 * 1000 + 124, 103 * 1000 + 124, 106 * 1000 + 108, 122 * 1000 + 108, 118 * 1000 + 108, 7 * 1000 + 1000000, 49 * 1000 + 1000000, 17 * 1000 + 1000000]
/-- Functions that are told. -/
def PR : List Nat := [108, 124, 16, 25, 38, 99999, 99999, 99999, 99999, 99999, 99999]
/-- What a law's own test answers. -/
def trueG : List DV → Option (AV × List Blk)
  | [] => some (.d (.v (.bool true)), [])
  | _ => none

structure Sur (E : Env) (fn : FuncId → Option (Env → CallT → CallT)) : Prop extends Fns fn where
  lv : ∀ f k, k < 1000000 → E.lives f k = tbl f k
  br : ∀ g, memN g E.br = memN g [120, 121, 134, 135]
  tq : ∀ f g, (memN g E.th || isSomeL (E.lives f (thKey g))) = memN (f * 1000 + g) TH
  pn : ∀ g, memN g PR = false → E.prim g = none
  pe : E.prim 108 = some (cloneG 8 48)
  pi : E.prim 124 = some (cloneG 1 8)
  bk : E.back 140 = some (8, true)

variable {E : Env} {fn : FuncId → Option (Env → CallT → CallT)}
theorem nbr (S : Sur E fn) (g : Nat) : memN g E.br = memN g [120, 121, 134, 135] := S.br g
theorem thq (S : Sur E fn) (f g : Nat) : (memN g E.th || isSomeL (E.lives f (thKey g))) = memN (f * 1000 + g) TH := S.tq f g
theorem off (S : Sur E fn) (f k : Nat) (hk : k < 1000000) (h : tbl f k = none) : E.lives f k = none := by rw [S.lv f k hk]; exact h
theorem on (S : Sur E fn) (f k : Nat) (l : List Nat) (hk : k < 1000000) (h : tbl f k = some l) : E.lives f k = some l := by rw [S.lv f k hk]; exact h
theorem np (S : Sur E fn) (g : Nat) (h : memN g PR = false) : E.prim g = none := S.pn g h
theorem c_cloneE (S : Sur E fn) {l : List Ent} (h : l.length < 1073741824) (call : CallT) (A : List Blk) (nb : Nat) : evOwnK false E call 108 A nb (some ([rowD l], [])) = some (.made (.d (rowD l)) []) :=
  clone_deep S.pe rfl l (by unfold limA; omega) A nb
theorem c_cloneI (S : Sur E fn) {l : List Int} (h : l.length < 1073741824) (call : CallT) (A : List Blk) (nb : Nat) : evOwnK false E call 124 A nb (some ([rowD l], [])) = some (.made (.d (rowD l)) []) :=
  clone_deep S.pi rfl l (by unfold limA; omega) A nb
theorem o_cloneE (S : Sur E fn) {l : List Ent} (h : l.length < 1073741824) (call : CallT) (A : List Blk) (nb : Nat) (us : List Nat) : evOwnK true E call 108 A nb (some ([rowD l], us)) = some (.made (ownA nb l) (ownB l)) :=
  clone_own S.pe rfl l (by unfold limA; omega) A nb us
theorem o_cloneI (S : Sur E fn) {l : List Int} (h : l.length < 1073741824) (call : CallT) (A : List Blk) (nb : Nat) (us : List Nat) : evOwnK true E call 124 A nb (some ([rowD l], us)) = some (.made (ownA nb l) (ownB l)) :=
  clone_own S.pi rfl l (by unfold limA; omega) A nb us
theorem take_get {α : Type} {l : List α} {k : Nat} {e : α} (h : l[k]? = some e) : l.take (k + 1) = l.take k ++ [e] := by rw [List.take_add_one, h]; rfl
theorem take_rev {α : Type} {l : List α} {k : Nat} {e : α} (h : l[k]? = some e) : (l.take (k + 1)).reverse = e :: (l.take k).reverse := by rw [take_get h, List.reverse_append]; rfl
theorem drop_get {α : Type} {l : List α} {k : Nat} {e : α} (h : l[k]? = some e) : l.drop k = e :: l.drop (k + 1) := by
  obtain ⟨hi, rfl⟩ := List.getElem?_eq_some_iff.1 h
  exact List.drop_eq_getElem_cons hi
theorem get_of {α : Type} {l : List α} {k : Nat} (h : k < l.length) : ∃ e, l[k]? = some e := ⟨l[k], List.getElem?_eq_getElem h⟩
theorem wi (k : Nat) (h : k < 4611686018427387904) : IntKind.i64.wrap ((k : Int) + 1) = ((k + 1 : Nat) : Int) := by rw [wrap_i64 (by omega) (by omega)]; omega
theorem wd (k : Nat) (h : k < 4611686018427387904) : IntKind.i64.wrap ((k : Int) - 1) = (k : Int) - 1 := by rw [wrap_i64 (by omega) (by omega)]
theorem min0 (i : Int) (n : Nat) : min (max i 0) (n : Int) = ((min i.toNat n : Nat) : Int) := by omega
theorem cut_min (l : List Ent) (i : Int) : Md.cut l i = l.take (min i.toNat l.length) := by
  unfold Md.cut
  by_cases h : i.toNat ≤ l.length
  · rw [Nat.min_eq_left h]
  · rw [List.take_of_length_le (by omega), List.take_of_length_le (by omega)]
theorem rep1' {α : Type} (l : List α) : rep l 1 = l := by simp [rep]
theorem rep0' {α : Type} (l : List α) : rep l 0 = [] := rfl
/-- A test that is told. -/
theorem c_told {g : FuncId} (h : E.prim g = some trueG) (call : CallT) (A : List Blk) (nb : Nat) : evOwnK false E call g A nb (some ([], [])) = some (.made (abool true) []) := by
  simp only [evOwnK, evRaw, h, trueG]; rfl
theorem cut_len (l : List Ent) (n : Int) : (Md.cut l n).length ≤ l.length := by unfold Md.cut; simp; omega
end Go.Aug.Mc


/- Words, cuts and instructions: what the functions answer. -/
namespace Go.Aug.Mc
open Go Go.Aug
set_option linter.unusedSimpArgs false
set_option linter.unusedVariables false
set_option maxHeartbeats 40000000
variable {E : Env} {fn : FuncId → Option (Env → CallT → CallT)}
section
variable (S : Sur E fn)
include S

theorem raw_word_Ok (dp : Nat) (w : Int) : Says E fn (dp + 1) 96 [vi w] (vb (Md.okW w)) := by
  unfold Says
  show ansOf (evC E fn (dp + 1) 96 [.d (vi w)] []) = _
  rw [evC_succ, S.f_word_Ok, apF_some, F_word_Ok, mkF_run _ _ _ _ _ _ _ _ rfl]
  by_cases h : 1 ≤ w <;> simp only [endN_gen, go_sem, Nat.reduceLT, Nat.reduceEqDiff, Nat.reduceAdd, Nat.reduceMul, Nat.reduceLeDiff, thq S, nbr S, TH, f_reach, Bool.beq_eq_decide_eq, bne, decide_true, decide_false, Int.reduceEq, Int.reduceLT, Int.reduceLE, Int.reduceNeg, reduceCtorEq, List.mem_cons, List.not_mem_nil, or_false, false_or, or_true, true_or, Nat.not_lt_zero, Bool.true_and, Bool.false_and, Bool.and_true, Bool.and_false, Bool.or_true, Bool.or_false, Bool.true_or, Bool.false_or, ge_iff_le, h, decide_true, decide_false, Bool.true_and, Bool.false_and, Md.okW]
theorem c_word_Ok (dp : Nat) (w : Int) (A : List Blk) (nb : Nat) (us : List Nat) : evOwnK false E (evC E fn (dp + 1)) 96 A nb (some ([vi w], us)) = some (.made (.d (vb (Md.okW w))) []) :=
  Says.flat (raw_word_Ok S dp w ) (np S 96 (by decide)) (rfl) A nb us
theorem raw_conf_Final (dp : Nat) (c : Conf) : Says E fn (dp + 1) 98 [confD c] (vb (c.end_ != 0)) := by
  unfold Says
  show ansOf (evC E fn (dp + 1) 98 [.d (confD c)] []) = _
  rw [evC_succ, S.f_conf_Final, apF_some, F_conf_Final, mkF_run _ _ _ _ _ _ _ _ rfl]
  simp only [endN_gen, go_sem, Nat.reduceLT, Nat.reduceEqDiff, Nat.reduceAdd, Nat.reduceMul, Nat.reduceLeDiff, thq S, nbr S, TH, f_reach, Bool.beq_eq_decide_eq, bne, decide_true, decide_false, Int.reduceEq, Int.reduceLT, Int.reduceLE, Int.reduceNeg, reduceCtorEq, List.mem_cons, List.not_mem_nil, or_false, false_or, or_true, true_or, Nat.not_lt_zero, Bool.true_and, Bool.false_and, Bool.and_true, Bool.and_false, Bool.or_true, Bool.or_false, Bool.true_or, Bool.false_or]
theorem c_conf_Final (dp : Nat) (c_r0 : Int) (c_r1 : Int) (c_r2 : Int) (c_r3 : Int) (c_mm : List Int) (c_st : List Int) (c_pc : Int) (c_bf : List Ent) (c_rb : List Int) (c_en : Int) (A : List Blk) (nb : Nat) (us : List Nat) : evOwnK false E (evC E fn (dp + 1)) 98 A nb (some ([.agg [vi c_r0, vi c_r1, vi c_r2, vi c_r3, rowD c_mm, rowD c_st, vi c_pc, rowD c_bf, rowD c_rb, vi c_en]], us)) = some (.made (.d (vb ((⟨⟨⟨c_r0, c_r1, c_r2, c_r3⟩, c_mm, c_st, c_pc⟩, c_bf, c_rb, c_en⟩ : Conf).end_ != 0))) []) :=
  Says.flat (raw_conf_Final S dp (⟨⟨⟨c_r0, c_r1, c_r2, c_r3⟩, c_mm, c_st, c_pc⟩, c_bf, c_rb, c_en⟩ : Conf) ) (np S 98 (by decide)) (rfl) A nb us
theorem raw_auguryref1_truth (dp : Nat) (b : Bool) : Says E fn (dp + 1) 115 [vb b] (vi (Md.truth b)) := by
  unfold Says
  show ansOf (evC E fn (dp + 1) 115 [.d (vb b)] []) = _
  rw [evC_succ, S.f_auguryref1_truth, apF_some, F_auguryref1_truth, mkF_run _ _ _ _ _ _ _ _ rfl]
  cases b <;> simp only [endN_gen, go_sem, Nat.reduceLT, Nat.reduceEqDiff, Nat.reduceAdd, Nat.reduceMul, Nat.reduceLeDiff, thq S, nbr S, TH, f_reach, Bool.beq_eq_decide_eq, bne, decide_true, decide_false, Int.reduceEq, Int.reduceLT, Int.reduceLE, Int.reduceNeg, reduceCtorEq, List.mem_cons, List.not_mem_nil, or_false, false_or, or_true, true_or, Nat.not_lt_zero, Bool.true_and, Bool.false_and, Bool.and_true, Bool.and_false, Bool.or_true, Bool.or_false, Bool.true_or, Bool.false_or, off S 115 7 (by decide) rfl] <;> rfl
theorem c_auguryref1_truth (dp : Nat) (b : Bool) (A : List Blk) (nb : Nat) (us : List Nat) : evOwnK false E (evC E fn (dp + 1)) 115 A nb (some ([vb b], us)) = some (.made (.d (vi (Md.truth b))) []) :=
  Says.flat (raw_auguryref1_truth S dp b ) (np S 115 (by decide)) (rfl) A nb us
theorem raw_word_truth (dp : Nat) (b : Bool) : Says E fn (dp + 1) 129 [vb b] (vi (Md.truth b)) := by
  unfold Says
  show ansOf (evC E fn (dp + 1) 129 [.d (vb b)] []) = _
  rw [evC_succ, S.f_word_truth, apF_some, F_word_truth, mkF_run _ _ _ _ _ _ _ _ rfl]
  cases b <;> simp only [endN_gen, go_sem, Nat.reduceLT, Nat.reduceEqDiff, Nat.reduceAdd, Nat.reduceMul, Nat.reduceLeDiff, thq S, nbr S, TH, f_reach, Bool.beq_eq_decide_eq, bne, decide_true, decide_false, Int.reduceEq, Int.reduceLT, Int.reduceLE, Int.reduceNeg, reduceCtorEq, List.mem_cons, List.not_mem_nil, or_false, false_or, or_true, true_or, Nat.not_lt_zero, Bool.true_and, Bool.false_and, Bool.and_true, Bool.and_false, Bool.or_true, Bool.or_false, Bool.true_or, Bool.false_or, off S 129 7 (by decide) rfl] <;> rfl
theorem c_word_truth (dp : Nat) (b : Bool) (A : List Blk) (nb : Nat) (us : List Nat) : evOwnK false E (evC E fn (dp + 1)) 129 A nb (some ([vb b], us)) = some (.made (.d (vi (Md.truth b))) []) :=
  Says.flat (raw_word_truth S dp b ) (np S 129 (by decide)) (rfl) A nb us
theorem raw_auguryref9_truth (dp : Nat) (b : Bool) : Says E fn (dp + 1) 111 [vb b] (vi (Md.truth b)) := by
  unfold Says
  show ansOf (evC E fn (dp + 1) 111 [.d (vb b)] []) = _
  rw [evC_succ, S.f_auguryref9_truth, apF_some, F_auguryref9_truth, mkF_run _ _ _ _ _ _ _ _ rfl]
  cases b <;> simp only [endN_gen, go_sem, Nat.reduceLT, Nat.reduceEqDiff, Nat.reduceAdd, Nat.reduceMul, Nat.reduceLeDiff, thq S, nbr S, TH, f_reach, Bool.beq_eq_decide_eq, bne, decide_true, decide_false, Int.reduceEq, Int.reduceLT, Int.reduceLE, Int.reduceNeg, reduceCtorEq, List.mem_cons, List.not_mem_nil, or_false, false_or, or_true, true_or, Nat.not_lt_zero, Bool.true_and, Bool.false_and, Bool.and_true, Bool.and_false, Bool.or_true, Bool.or_false, Bool.true_or, Bool.false_or, off S 111 7 (by decide) rfl] <;> rfl
theorem c_auguryref9_truth (dp : Nat) (b : Bool) (A : List Blk) (nb : Nat) (us : List Nat) : evOwnK false E (evC E fn (dp + 1)) 111 A nb (some ([vb b], us)) = some (.made (.d (vi (Md.truth b))) []) :=
  Says.flat (raw_auguryref9_truth S dp b ) (np S 111 (by decide)) (rfl) A nb us
theorem raw_robq_Cut (dp : Nat) (l : List Ent) (n : Int) (hl : l.length < 1073741824) : Says E fn (dp + 2) 70 [rowD l, vi n] (rowD (Md.cut l n)) := by
  unfold Says
  show ansOf (evC E fn (dp + 1 + 1) 70 [.d (rowD l), .d (vi n)] []) = _
  rw [evC_succ, S.f_robq_Cut, apF_some, F_robq_Cut, mkF_run _ _ _ _ _ _ _ _ rfl]
  have hc := cut_len l n
  have h2 : bndsV l.length none (some (aint (min (max n 0) l.length))) none = some (0, (min (max n 0) (l.length : Int)).toNat, l.length) := bndsV_hi _ _ _ (by omega) (by omega)
  have h3 : l.take (min (max n 0) (l.length : Int)).toNat = Md.cut l n := by
    unfold Md.cut
    by_cases h : n.toNat ≤ l.length
    · congr 1; omega
    · rw [List.take_of_length_le (by omega), List.take_of_length_le (by omega)]
  simp only [endN_gen, go_sem, Nat.reduceLT, Nat.reduceEqDiff, Nat.reduceAdd, Nat.reduceMul, Nat.reduceLeDiff, thq S, nbr S, TH, f_reach, Bool.beq_eq_decide_eq, bne, decide_true, decide_false, Int.reduceEq, Int.reduceLT, Int.reduceLE, Int.reduceNeg, reduceCtorEq, List.mem_cons, List.not_mem_nil, or_false, false_or, or_true, true_or, Nat.not_lt_zero, Bool.true_and, Bool.false_and, Bool.and_true, Bool.and_false, Bool.or_true, Bool.or_false, Bool.true_or, Bool.false_or, h2, h3, c_cloneE S (show (Md.cut l n).length < 1073741824 by omega), List.drop_zero, Nat.sub_zero]
theorem c_robq_Cut (dp : Nat) (l : List Ent) (n : Int) (hl : l.length < 1073741824) (A : List Blk) (nb : Nat) : evOwnK false E (evC E fn (dp + 2)) 70 A nb (some ([rowD l, vi n], [])) = some (.made (.d (rowD (Md.cut l n))) []) :=
  Says.deep (raw_robq_Cut S dp l n hl) (np S 70 (by decide)) A nb
theorem u_robq_Cut (dp : Nat) (l : List Ent) (n : Int) (hl : l.length < 1073741824) (hf : DV.flat 8 (rowD (Md.cut l n)) = false) (A : List Blk) (nb ui : Nat) (us : List Nat) : evOwnK false E (evC E fn (dp + 2)) 70 A nb (some ([rowD l, vi n], ui :: us)) = some (.turned (.d (rowD (Md.cut l n))) (setRo A (ui :: us))) :=
  Says.used (raw_robq_Cut S dp l n hl) (np S 70 (by decide)) hf A nb ui us
theorem raw_seqm_At (dp : Nat) (p : Prog) (pc : Int) : Says E fn (dp + 1) 100 [progD p, vi pc] (.agg (Cl.cells (Md.at_ p pc))) := by
  unfold Says
  show ansOf (evC E fn (dp + 1) 100 [.d (progD p), .d (vi pc)] []) = _
  rw [evC_succ, S.f_seqm_At, apF_some, F_seqm_At, mkF_run _ _ _ _ _ _ _ _ rfl]
  by_cases h : pc < 0
  · simp only [endN_gen, go_sem, Nat.reduceLT, Nat.reduceEqDiff, Nat.reduceAdd, Nat.reduceMul, Nat.reduceLeDiff, thq S, nbr S, TH, f_reach, Bool.beq_eq_decide_eq, bne, decide_true, decide_false, Int.reduceEq, Int.reduceLT, Int.reduceLE, Int.reduceNeg, reduceCtorEq, List.mem_cons, List.not_mem_nil, or_false, false_or, or_true, true_or, Nat.not_lt_zero, Bool.true_and, Bool.false_and, Bool.and_true, Bool.and_false, Bool.or_true, Bool.or_false, Bool.true_or, Bool.false_or, off S 100 7 (by decide) rfl, h, decide_true, Md.at_, show ¬ 0 ≤ pc by omega, Md.faultI]
  · obtain ⟨i, rfl⟩ := Int.eq_ofNat_of_zero_le (show 0 ≤ pc by omega)
    cases hx : p.ins[i]? with
    | none =>
      have hl : (i : Int) ≥ p.ins.length := by have := List.getElem?_eq_none_iff.1 hx; omega
      simp only [endN_gen, go_sem, Nat.reduceLT, Nat.reduceEqDiff, Nat.reduceAdd, Nat.reduceMul, Nat.reduceLeDiff, thq S, nbr S, TH, f_reach, Bool.beq_eq_decide_eq, bne, decide_true, decide_false, Int.reduceEq, Int.reduceLT, Int.reduceLE, Int.reduceNeg, reduceCtorEq, List.mem_cons, List.not_mem_nil, or_false, false_or, or_true, true_or, Nat.not_lt_zero, Bool.true_and, Bool.false_and, Bool.and_true, Bool.and_false, Bool.or_true, Bool.or_false, Bool.true_or, Bool.false_or, off S 100 7 (by decide) rfl, h, hl, decide_true, decide_false, Md.at_, Int.natCast_nonneg, Int.toNat_natCast, hx, Option.getD_none, Md.faultI]
    | some e =>
      have hl : ¬ (i : Int) ≥ p.ins.length := by have := (List.getElem?_eq_some_iff.1 hx).1; omega
      simp only [endN_gen, go_sem, Nat.reduceLT, Nat.reduceEqDiff, Nat.reduceAdd, Nat.reduceMul, Nat.reduceLeDiff, thq S, nbr S, TH, f_reach, Bool.beq_eq_decide_eq, bne, decide_true, decide_false, Int.reduceEq, Int.reduceLT, Int.reduceLE, Int.reduceNeg, reduceCtorEq, List.mem_cons, List.not_mem_nil, or_false, false_or, or_true, true_or, Nat.not_lt_zero, Bool.true_and, Bool.false_and, Bool.and_true, Bool.and_false, Bool.or_true, Bool.or_false, Bool.true_or, Bool.false_or, off S 100 7 (by decide) rfl, h, hl, decide_true, decide_false, Md.at_, Int.natCast_nonneg, Int.toNat_natCast, hx, Option.getD_some, w_ix hx]
theorem c_seqm_At (dp : Nat) (p_w : Int) (p_wn : Int) (p_fu : Int) (p_r0 : Int) (p_r1 : Int) (p_r2 : Int) (p_r3 : Int) (p_ms : List MemT) (p_ls : List Label) (p_is : List Ins) (pc : Int) (A : List Blk) (nb : Nat) (us : List Nat) : evOwnK false E (evC E fn (dp + 1)) 100 A nb (some ([.agg [vi p_w, vi p_wn, vi p_fu, vi p_r0, vi p_r1, vi p_r2, vi p_r3, rowD p_ms, rowD p_ls, rowD p_is], vi pc], us)) = some (.made (.d (.agg (Cl.cells (Md.at_ (⟨p_w, p_wn, p_fu, ⟨p_r0, p_r1, p_r2, p_r3⟩, p_ms, p_ls, p_is⟩ : Prog) pc)))) []) :=
  Says.flat (raw_seqm_At S dp (⟨p_w, p_wn, p_fu, ⟨p_r0, p_r1, p_r2, p_r3⟩, p_ms, p_ls, p_is⟩ : Prog) pc ) (np S 100 (by decide)) (rfl) A nb us
theorem raw_auguryref7_At (dp : Nat) (p : Prog) (pc : Int) : Says E fn (dp + 1) 55 [progD p, vi pc] (.agg (Cl.cells (Md.at_ p pc))) := by
  unfold Says
  show ansOf (evC E fn (dp + 1) 55 [.d (progD p), .d (vi pc)] []) = _
  rw [evC_succ, S.f_auguryref7_At, apF_some, F_auguryref7_At, mkF_run _ _ _ _ _ _ _ _ rfl]
  by_cases h : pc < 0
  · simp only [endN_gen, go_sem, Nat.reduceLT, Nat.reduceEqDiff, Nat.reduceAdd, Nat.reduceMul, Nat.reduceLeDiff, thq S, nbr S, TH, f_reach, Bool.beq_eq_decide_eq, bne, decide_true, decide_false, Int.reduceEq, Int.reduceLT, Int.reduceLE, Int.reduceNeg, reduceCtorEq, List.mem_cons, List.not_mem_nil, or_false, false_or, or_true, true_or, Nat.not_lt_zero, Bool.true_and, Bool.false_and, Bool.and_true, Bool.and_false, Bool.or_true, Bool.or_false, Bool.true_or, Bool.false_or, off S 55 7 (by decide) rfl, h, decide_true, Md.at_, show ¬ 0 ≤ pc by omega, Md.faultI]
  · obtain ⟨i, rfl⟩ := Int.eq_ofNat_of_zero_le (show 0 ≤ pc by omega)
    cases hx : p.ins[i]? with
    | none =>
      have hl : (i : Int) ≥ p.ins.length := by have := List.getElem?_eq_none_iff.1 hx; omega
      simp only [endN_gen, go_sem, Nat.reduceLT, Nat.reduceEqDiff, Nat.reduceAdd, Nat.reduceMul, Nat.reduceLeDiff, thq S, nbr S, TH, f_reach, Bool.beq_eq_decide_eq, bne, decide_true, decide_false, Int.reduceEq, Int.reduceLT, Int.reduceLE, Int.reduceNeg, reduceCtorEq, List.mem_cons, List.not_mem_nil, or_false, false_or, or_true, true_or, Nat.not_lt_zero, Bool.true_and, Bool.false_and, Bool.and_true, Bool.and_false, Bool.or_true, Bool.or_false, Bool.true_or, Bool.false_or, off S 55 7 (by decide) rfl, h, hl, decide_true, decide_false, Md.at_, Int.natCast_nonneg, Int.toNat_natCast, hx, Option.getD_none, Md.faultI]
    | some e =>
      have hl : ¬ (i : Int) ≥ p.ins.length := by have := (List.getElem?_eq_some_iff.1 hx).1; omega
      simp only [endN_gen, go_sem, Nat.reduceLT, Nat.reduceEqDiff, Nat.reduceAdd, Nat.reduceMul, Nat.reduceLeDiff, thq S, nbr S, TH, f_reach, Bool.beq_eq_decide_eq, bne, decide_true, decide_false, Int.reduceEq, Int.reduceLT, Int.reduceLE, Int.reduceNeg, reduceCtorEq, List.mem_cons, List.not_mem_nil, or_false, false_or, or_true, true_or, Nat.not_lt_zero, Bool.true_and, Bool.false_and, Bool.and_true, Bool.and_false, Bool.or_true, Bool.or_false, Bool.true_or, Bool.false_or, off S 55 7 (by decide) rfl, h, hl, decide_true, decide_false, Md.at_, Int.natCast_nonneg, Int.toNat_natCast, hx, Option.getD_some, w_ix hx]
theorem c_auguryref7_At (dp : Nat) (p_w : Int) (p_wn : Int) (p_fu : Int) (p_r0 : Int) (p_r1 : Int) (p_r2 : Int) (p_r3 : Int) (p_ms : List MemT) (p_ls : List Label) (p_is : List Ins) (pc : Int) (A : List Blk) (nb : Nat) (us : List Nat) : evOwnK false E (evC E fn (dp + 1)) 55 A nb (some ([.agg [vi p_w, vi p_wn, vi p_fu, vi p_r0, vi p_r1, vi p_r2, vi p_r3, rowD p_ms, rowD p_ls, rowD p_is], vi pc], us)) = some (.made (.d (.agg (Cl.cells (Md.at_ (⟨p_w, p_wn, p_fu, ⟨p_r0, p_r1, p_r2, p_r3⟩, p_ms, p_ls, p_is⟩ : Prog) pc)))) []) :=
  Says.flat (raw_auguryref7_At S dp (⟨p_w, p_wn, p_fu, ⟨p_r0, p_r1, p_r2, p_r3⟩, p_ms, p_ls, p_is⟩ : Prog) pc ) (np S 55 (by decide)) (rfl) A nb us
theorem raw_reso_Dest (dp : Nat) (x : Ins) : Says E fn (dp + 1) 138 [.agg (Cl.cells x)] (.tup [vi (Md.dest x), vb (Md.destK x)]) := by
  unfold Says
  show ansOf (evC E fn (dp + 1) 138 [.d (.agg (Cl.cells x))] []) = _
  rw [evC_succ, S.f_reso_Dest, apF_some, F_reso_Dest, mkF_run _ _ _ _ _ _ _ _ rfl]
  by_cases h1 : x.kind = 1
  · simp only [endN_gen, go_sem, Nat.reduceLT, Nat.reduceEqDiff, Nat.reduceAdd, Nat.reduceMul, Nat.reduceLeDiff, thq S, nbr S, TH, f_reach, Bool.beq_eq_decide_eq, bne, decide_true, decide_false, Int.reduceEq, Int.reduceLT, Int.reduceLE, Int.reduceNeg, reduceCtorEq, List.mem_cons, List.not_mem_nil, or_false, false_or, or_true, true_or, Nat.not_lt_zero, Bool.true_and, Bool.false_and, Bool.and_true, Bool.and_false, Bool.or_true, Bool.or_false, Bool.true_or, Bool.false_or, off S 138 7 (by decide) rfl, h1, Md.dest, Md.destK]
  · by_cases h2 : x.kind = 2
    · simp only [endN_gen, go_sem, Nat.reduceLT, Nat.reduceEqDiff, Nat.reduceAdd, Nat.reduceMul, Nat.reduceLeDiff, thq S, nbr S, TH, f_reach, Bool.beq_eq_decide_eq, bne, decide_true, decide_false, Int.reduceEq, Int.reduceLT, Int.reduceLE, Int.reduceNeg, reduceCtorEq, List.mem_cons, List.not_mem_nil, or_false, false_or, or_true, true_or, Nat.not_lt_zero, Bool.true_and, Bool.false_and, Bool.and_true, Bool.and_false, Bool.or_true, Bool.or_false, Bool.true_or, Bool.false_or, off S 138 7 (by decide) rfl, h2, Md.dest, Md.destK]
    · by_cases h4 : x.kind = 4
      · simp only [endN_gen, go_sem, Nat.reduceLT, Nat.reduceEqDiff, Nat.reduceAdd, Nat.reduceMul, Nat.reduceLeDiff, thq S, nbr S, TH, f_reach, Bool.beq_eq_decide_eq, bne, decide_true, decide_false, Int.reduceEq, Int.reduceLT, Int.reduceLE, Int.reduceNeg, reduceCtorEq, List.mem_cons, List.not_mem_nil, or_false, false_or, or_true, true_or, Nat.not_lt_zero, Bool.true_and, Bool.false_and, Bool.and_true, Bool.and_false, Bool.or_true, Bool.or_false, Bool.true_or, Bool.false_or, off S 138 7 (by decide) rfl, h4, Md.dest, Md.destK]
      · simp only [endN_gen, go_sem, Nat.reduceLT, Nat.reduceEqDiff, Nat.reduceAdd, Nat.reduceMul, Nat.reduceLeDiff, thq S, nbr S, TH, f_reach, Bool.beq_eq_decide_eq, bne, decide_true, decide_false, Int.reduceEq, Int.reduceLT, Int.reduceLE, Int.reduceNeg, reduceCtorEq, List.mem_cons, List.not_mem_nil, or_false, false_or, or_true, true_or, Nat.not_lt_zero, Bool.true_and, Bool.false_and, Bool.and_true, Bool.and_false, Bool.or_true, Bool.or_false, Bool.true_or, Bool.false_or, off S 138 7 (by decide) rfl, h1, h2, h4, Md.dest, Md.destK]
theorem c_reso_Dest (dp : Nat) (x_k : Int) (x_o : Int) (x_d : Int) (x_ag : Bool) (x_an : Int) (x_bg : Bool) (x_bn : Int) (x_nm : ByteArray) (x_tg : Int) (A : List Blk) (nb : Nat) (us : List Nat) : evOwnK false E (evC E fn (dp + 1)) 138 A nb (some ([.agg [vi x_k, vi x_o, vi x_d, vb x_ag, vi x_an, vb x_bg, vi x_bn, vt x_nm, vi x_tg]], us)) = some (.made (.d (.tup [vi (Md.dest (⟨x_k, x_o, x_d, ⟨x_ag, x_an⟩, ⟨x_bg, x_bn⟩, x_nm, x_tg⟩ : Ins)), vb (Md.destK (⟨x_k, x_o, x_d, ⟨x_ag, x_an⟩, ⟨x_bg, x_bn⟩, x_nm, x_tg⟩ : Ins))])) []) :=
  Says.flat (raw_reso_Dest S dp (⟨x_k, x_o, x_d, ⟨x_ag, x_an⟩, ⟨x_bg, x_bn⟩, x_nm, x_tg⟩ : Ins) ) (np S 138 (by decide)) (rfl) A nb us
theorem raw_auguryref9_Dest (dp : Nat) (x : Ins) : Says E fn (dp + 1) 132 [.agg (Cl.cells x)] (.tup [vi (Md.dest x), vb (Md.destK x)]) := by
  unfold Says
  show ansOf (evC E fn (dp + 1) 132 [.d (.agg (Cl.cells x))] []) = _
  rw [evC_succ, S.f_auguryref9_Dest, apF_some, F_auguryref9_Dest, mkF_run _ _ _ _ _ _ _ _ rfl]
  by_cases h1 : x.kind = 1
  · simp only [endN_gen, go_sem, Nat.reduceLT, Nat.reduceEqDiff, Nat.reduceAdd, Nat.reduceMul, Nat.reduceLeDiff, thq S, nbr S, TH, f_reach, Bool.beq_eq_decide_eq, bne, decide_true, decide_false, Int.reduceEq, Int.reduceLT, Int.reduceLE, Int.reduceNeg, reduceCtorEq, List.mem_cons, List.not_mem_nil, or_false, false_or, or_true, true_or, Nat.not_lt_zero, Bool.true_and, Bool.false_and, Bool.and_true, Bool.and_false, Bool.or_true, Bool.or_false, Bool.true_or, Bool.false_or, off S 132 7 (by decide) rfl, h1, Md.dest, Md.destK]
  · by_cases h2 : x.kind = 2
    · simp only [endN_gen, go_sem, Nat.reduceLT, Nat.reduceEqDiff, Nat.reduceAdd, Nat.reduceMul, Nat.reduceLeDiff, thq S, nbr S, TH, f_reach, Bool.beq_eq_decide_eq, bne, decide_true, decide_false, Int.reduceEq, Int.reduceLT, Int.reduceLE, Int.reduceNeg, reduceCtorEq, List.mem_cons, List.not_mem_nil, or_false, false_or, or_true, true_or, Nat.not_lt_zero, Bool.true_and, Bool.false_and, Bool.and_true, Bool.and_false, Bool.or_true, Bool.or_false, Bool.true_or, Bool.false_or, off S 132 7 (by decide) rfl, h2, Md.dest, Md.destK]
    · by_cases h4 : x.kind = 4
      · simp only [endN_gen, go_sem, Nat.reduceLT, Nat.reduceEqDiff, Nat.reduceAdd, Nat.reduceMul, Nat.reduceLeDiff, thq S, nbr S, TH, f_reach, Bool.beq_eq_decide_eq, bne, decide_true, decide_false, Int.reduceEq, Int.reduceLT, Int.reduceLE, Int.reduceNeg, reduceCtorEq, List.mem_cons, List.not_mem_nil, or_false, false_or, or_true, true_or, Nat.not_lt_zero, Bool.true_and, Bool.false_and, Bool.and_true, Bool.and_false, Bool.or_true, Bool.or_false, Bool.true_or, Bool.false_or, off S 132 7 (by decide) rfl, h4, Md.dest, Md.destK]
      · simp only [endN_gen, go_sem, Nat.reduceLT, Nat.reduceEqDiff, Nat.reduceAdd, Nat.reduceMul, Nat.reduceLeDiff, thq S, nbr S, TH, f_reach, Bool.beq_eq_decide_eq, bne, decide_true, decide_false, Int.reduceEq, Int.reduceLT, Int.reduceLE, Int.reduceNeg, reduceCtorEq, List.mem_cons, List.not_mem_nil, or_false, false_or, or_true, true_or, Nat.not_lt_zero, Bool.true_and, Bool.false_and, Bool.and_true, Bool.and_false, Bool.or_true, Bool.or_false, Bool.true_or, Bool.false_or, off S 132 7 (by decide) rfl, h1, h2, h4, Md.dest, Md.destK]
theorem c_auguryref9_Dest (dp : Nat) (x_k : Int) (x_o : Int) (x_d : Int) (x_ag : Bool) (x_an : Int) (x_bg : Bool) (x_bn : Int) (x_nm : ByteArray) (x_tg : Int) (A : List Blk) (nb : Nat) (us : List Nat) : evOwnK false E (evC E fn (dp + 1)) 132 A nb (some ([.agg [vi x_k, vi x_o, vi x_d, vb x_ag, vi x_an, vb x_bg, vi x_bn, vt x_nm, vi x_tg]], us)) = some (.made (.d (.tup [vi (Md.dest (⟨x_k, x_o, x_d, ⟨x_ag, x_an⟩, ⟨x_bg, x_bn⟩, x_nm, x_tg⟩ : Ins)), vb (Md.destK (⟨x_k, x_o, x_d, ⟨x_ag, x_an⟩, ⟨x_bg, x_bn⟩, x_nm, x_tg⟩ : Ins))])) []) :=
  Says.flat (raw_auguryref9_Dest S dp (⟨x_k, x_o, x_d, ⟨x_ag, x_an⟩, ⟨x_bg, x_bn⟩, x_nm, x_tg⟩ : Ins) ) (np S 132 (by decide)) (rfl) A nb us
end
end Go.Aug.Mc


/- Words: what the functions answer. -/
namespace Go.Aug.Mc
open Go Go.Aug
set_option linter.unusedSimpArgs false
set_option linter.unusedVariables false
set_option maxHeartbeats 40000000
theorem b_and (k : IntKind) (x y : Int) : evBin .and (.d (.v (.int k x))) (.d (.v (.int k y))) = (evInt .and k x y).map fun r => .d (.v r) := b_int _ _ _ _ (by simp) (by simp)
theorem b_iand (x y : Int) : evBin .and (.d (.v (.int .i64 x))) (.d (.v (.int .i64 y))) = some (aint (Md.iand x y)) := b_and _ _ _
theorem b_ior (x y : Int) : evBin .or (.d (.v (.int .i64 x))) (.d (.v (.int .i64 y))) = some (aint (Md.ior x y)) := by rw [b_int _ _ _ _ (by simp) (by simp)]; rfl
theorem b_ixor (x y : Int) : evBin .xor (.d (.v (.int .i64 x))) (.d (.v (.int .i64 y))) = some (aint (Md.ixor x y)) := by rw [b_int _ _ _ _ (by simp) (by simp)]; rfl
theorem size_val {k : Nat} (h : k ≤ 16) : IntKind.i64.wrap (1 * 2 ^ min k 64) = 2 ^ k := by
  have := Md.pow_le16 h
  have := Md.pow_pos' k
  rw [Nat.min_eq_left (by omega), Int.one_mul, wrap_i64 (by omega) (by omega)]
theorem okW_cast {k : Nat} (h1 : 1 ≤ k) (h2 : k ≤ 16) : Md.okW (k : Int) = true := Md.okW_iff.2 ⟨by omega, by omega⟩
/-- What is moved: before it is masked. -/
def movedI (w op a b : Int) : Int := if b ≥ w then 0 else if op = 6 then IntKind.i64.wrap (a * 2 ^ min b.toNat 64) else a.fdiv (2 ^ min b.toNat 64)
theorem mask_mv {w b : Int} (h : Md.okW w = true) (hb : ¬ b ≥ w) : min b.toNat 64 = b.toNat := by
  have := Md.okW_iff.1 h; omega
variable {E : Env} {fn : FuncId → Option (Env → CallT → CallT)}
section
variable (S : Sur E fn)
include S

theorem raw_word_Size (dp : Nat) (w : Int) : Says E fn (dp + 2) 42 [vi w] (vi (Md.size w)) := by
  unfold Says
  show ansOf (evC E fn (dp + 1 + 1) 42 [.d (vi w)] []) = _
  rw [evC_succ, S.f_word_Size, apF_some, F_word_Size, mkF_run _ _ _ _ _ _ _ _ rfl]
  cases h : Md.okW w with
  | true =>
    obtain ⟨k, rfl, h1, h2⟩ := Md.okW_nat h
    simp only [endN_gen, go_sem, Nat.reduceLT, Nat.reduceEqDiff, Nat.reduceAdd, Nat.reduceMul, Nat.reduceLeDiff, thq S, nbr S, TH, f_reach, Bool.beq_eq_decide_eq, bne, decide_true, decide_false, Int.reduceEq, Int.reduceLT, Int.reduceLE, Int.reduceNeg, reduceCtorEq, List.mem_cons, List.not_mem_nil, or_false, false_or, or_true, true_or, Nat.not_lt_zero, Bool.true_and, Bool.false_and, Bool.and_true, Bool.and_false, Bool.or_true, Bool.or_false, Bool.true_or, Bool.false_or, off S 42 7 (by decide) rfl, c_word_Ok S, h, Md.size, b_shl _ _ _ _ (Int.natCast_nonneg k), Int.toNat_natCast, IntKind.bits, size_val h2]
  | false =>
    simp only [endN_gen, go_sem, Nat.reduceLT, Nat.reduceEqDiff, Nat.reduceAdd, Nat.reduceMul, Nat.reduceLeDiff, thq S, nbr S, TH, f_reach, Bool.beq_eq_decide_eq, bne, decide_true, decide_false, Int.reduceEq, Int.reduceLT, Int.reduceLE, Int.reduceNeg, reduceCtorEq, List.mem_cons, List.not_mem_nil, or_false, false_or, or_true, true_or, Nat.not_lt_zero, Bool.true_and, Bool.false_and, Bool.and_true, Bool.and_false, Bool.or_true, Bool.or_false, Bool.true_or, Bool.false_or, off S 42 7 (by decide) rfl, c_word_Ok S, h, Md.size]
theorem c_word_Size (dp : Nat) (w : Int) (A : List Blk) (nb : Nat) (us : List Nat) : evOwnK false E (evC E fn (dp + 2)) 42 A nb (some ([vi w], us)) = some (.made (.d (vi (Md.size w))) []) :=
  Says.flat (raw_word_Size S dp w ) (np S 42 (by decide)) (rfl) A nb us
theorem raw_auguryref1_Size (dp : Nat) (w : Int) : Says E fn (dp + 1) 50 [vi w] (vi (Md.size w)) := by
  unfold Says
  show ansOf (evC E fn (dp + 1) 50 [.d (vi w)] []) = _
  rw [evC_succ, S.f_auguryref1_Size, apF_some, F_auguryref1_Size, mkF_run _ _ _ _ _ _ _ _ rfl]
  by_cases h1 : w < 1
  · simp only [endN_gen, go_sem, Nat.reduceLT, Nat.reduceEqDiff, Nat.reduceAdd, Nat.reduceMul, Nat.reduceLeDiff, thq S, nbr S, TH, f_reach, Bool.beq_eq_decide_eq, bne, decide_true, decide_false, Int.reduceEq, Int.reduceLT, Int.reduceLE, Int.reduceNeg, reduceCtorEq, List.mem_cons, List.not_mem_nil, or_false, false_or, or_true, true_or, Nat.not_lt_zero, Bool.true_and, Bool.false_and, Bool.and_true, Bool.and_false, Bool.or_true, Bool.or_false, Bool.true_or, Bool.false_or, off S 50 7 (by decide) rfl, h1, Md.size, Md.okW, show ¬ 1 ≤ w by omega]
  · by_cases h2 : w > 16
    · simp only [endN_gen, go_sem, Nat.reduceLT, Nat.reduceEqDiff, Nat.reduceAdd, Nat.reduceMul, Nat.reduceLeDiff, thq S, nbr S, TH, f_reach, Bool.beq_eq_decide_eq, bne, decide_true, decide_false, Int.reduceEq, Int.reduceLT, Int.reduceLE, Int.reduceNeg, reduceCtorEq, List.mem_cons, List.not_mem_nil, or_false, false_or, or_true, true_or, Nat.not_lt_zero, Bool.true_and, Bool.false_and, Bool.and_true, Bool.and_false, Bool.or_true, Bool.or_false, Bool.true_or, Bool.false_or, off S 50 7 (by decide) rfl, h1, h2, Md.size, Md.okW, show ¬ w ≤ 16 by omega]
    · obtain ⟨k, rfl⟩ := Int.eq_ofNat_of_zero_le (show 0 ≤ w by omega)
      have hw : IntKind.u64.wrap (k : Int) = k := wrap_u64 (by omega) (by omega)
      simp only [endN_gen, go_sem, Nat.reduceLT, Nat.reduceEqDiff, Nat.reduceAdd, Nat.reduceMul, Nat.reduceLeDiff, thq S, nbr S, TH, f_reach, Bool.beq_eq_decide_eq, bne, decide_true, decide_false, Int.reduceEq, Int.reduceLT, Int.reduceLE, Int.reduceNeg, reduceCtorEq, List.mem_cons, List.not_mem_nil, or_false, false_or, or_true, true_or, Nat.not_lt_zero, Bool.true_and, Bool.false_and, Bool.and_true, Bool.and_false, Bool.or_true, Bool.or_false, Bool.true_or, Bool.false_or, off S 50 7 (by decide) rfl, h1, h2, hw, Md.size, Md.okW, show 1 ≤ (k : Int) by omega, show (k : Int) ≤ 16 by omega, b_shl _ _ _ _ (Int.natCast_nonneg k), Int.toNat_natCast, IntKind.bits, size_val (show k ≤ 16 by omega)]
theorem c_auguryref1_Size (dp : Nat) (w : Int) (A : List Blk) (nb : Nat) (us : List Nat) : evOwnK false E (evC E fn (dp + 1)) 50 A nb (some ([vi w], us)) = some (.made (.d (vi (Md.size w))) []) :=
  Says.flat (raw_auguryref1_Size S dp w ) (np S 50 (by decide)) (rfl) A nb us
theorem raw_word_Mask (dp : Nat) (w : Int) (m : Int) : Says E fn (dp + 3) 107 [vi w, vi m] (vi (Md.mask w m)) := by
  unfold Says
  show ansOf (evC E fn (dp + 2 + 1) 107 [.d (vi w), .d (vi m)] []) = _
  rw [evC_succ, S.f_word_Mask, apF_some, F_word_Mask, mkF_run _ _ _ _ _ _ _ _ rfl]
  cases h : Md.okW w with
  | true =>
    obtain ⟨k, rfl, h1, h2⟩ := Md.okW_nat h
    have hp := Md.pow_pos' k
    have hq := Md.pow_le16 h2
    have hw : IntKind.i64.wrap (2 ^ k - 1) = 2 ^ k - 1 := wrap_i64 (by omega) (by omega)
    simp only [endN_gen, go_sem, Nat.reduceLT, Nat.reduceEqDiff, Nat.reduceAdd, Nat.reduceMul, Nat.reduceLeDiff, thq S, nbr S, TH, f_reach, Bool.beq_eq_decide_eq, bne, decide_true, decide_false, Int.reduceEq, Int.reduceLT, Int.reduceLE, Int.reduceNeg, reduceCtorEq, List.mem_cons, List.not_mem_nil, or_false, false_or, or_true, true_or, Nat.not_lt_zero, Bool.true_and, Bool.false_and, Bool.and_true, Bool.and_false, Bool.or_true, Bool.or_false, Bool.true_or, Bool.false_or, off S 107 7 (by decide) rfl, c_word_Ok S, c_word_Size S, h, Md.size, Md.mask, Int.toNat_natCast, hw, b_and, Md.and_mask m h2]
  | false =>
    simp only [endN_gen, go_sem, Nat.reduceLT, Nat.reduceEqDiff, Nat.reduceAdd, Nat.reduceMul, Nat.reduceLeDiff, thq S, nbr S, TH, f_reach, Bool.beq_eq_decide_eq, bne, decide_true, decide_false, Int.reduceEq, Int.reduceLT, Int.reduceLE, Int.reduceNeg, reduceCtorEq, List.mem_cons, List.not_mem_nil, or_false, false_or, or_true, true_or, Nat.not_lt_zero, Bool.true_and, Bool.false_and, Bool.and_true, Bool.and_false, Bool.or_true, Bool.or_false, Bool.true_or, Bool.false_or, off S 107 7 (by decide) rfl, c_word_Ok S, h, Md.mask]
theorem c_word_Mask (dp : Nat) (w : Int) (m : Int) (A : List Blk) (nb : Nat) (us : List Nat) : evOwnK false E (evC E fn (dp + 3)) 107 A nb (some ([vi w, vi m], us)) = some (.made (.d (vi (Md.mask w m))) []) :=
  Says.flat (raw_word_Mask S dp w m ) (np S 107 (by decide)) (rfl) A nb us
theorem raw_auguryref1_Mask (dp : Nat) (w : Int) (m : Int) : Says E fn (dp + 2) 82 [vi w, vi m] (vi (Md.mask w m)) := by
  unfold Says
  show ansOf (evC E fn (dp + 1 + 1) 82 [.d (vi w), .d (vi m)] []) = _
  rw [evC_succ, S.f_auguryref1_Mask, apF_some, F_auguryref1_Mask, mkF_run _ _ _ _ _ _ _ _ rfl]
  cases h : Md.okW w with
  | true =>
    obtain ⟨k, rfl, h1, h2⟩ := Md.okW_nat h
    have hp := Md.pow_pos' k
    have hq := Md.pow_le16 h2
    have hz : (2 : Int) ^ k ≠ 0 := by omega
    have hr := Int.tmod_lt_of_pos m hp
    have hr2 : -(2 ^ k) ≤ m.tmod (2 ^ k) := by
      rw [Int.tmod_eq_emod]
      have := Int.emod_nonneg m hz
      have hs : (((2 : Int) ^ k).natAbs : Int) = 2 ^ k := by omega
      split <;> omega
    have hw : IntKind.i64.wrap (m.tmod (2 ^ k) + 2 ^ k) = m.tmod (2 ^ k) + 2 ^ k := wrap_i64 (by omega) (by omega)
    simp only [endN_gen, go_sem, Nat.reduceLT, Nat.reduceEqDiff, Nat.reduceAdd, Nat.reduceMul, Nat.reduceLeDiff, thq S, nbr S, TH, f_reach, Bool.beq_eq_decide_eq, bne, decide_true, decide_false, Int.reduceEq, Int.reduceLT, Int.reduceLE, Int.reduceNeg, reduceCtorEq, List.mem_cons, List.not_mem_nil, or_false, false_or, or_true, true_or, Nat.not_lt_zero, Bool.true_and, Bool.false_and, Bool.and_true, Bool.and_false, Bool.or_true, Bool.or_false, Bool.true_or, Bool.false_or, off S 82 9 (by decide) rfl, c_auguryref1_Size S, h, Md.size, Md.mask, Int.toNat_natCast, hz, hw, b_rem _ _ _ hz, Md.rem_mask m hp]
  | false =>
    simp only [endN_gen, go_sem, Nat.reduceLT, Nat.reduceEqDiff, Nat.reduceAdd, Nat.reduceMul, Nat.reduceLeDiff, thq S, nbr S, TH, f_reach, Bool.beq_eq_decide_eq, bne, decide_true, decide_false, Int.reduceEq, Int.reduceLT, Int.reduceLE, Int.reduceNeg, reduceCtorEq, List.mem_cons, List.not_mem_nil, or_false, false_or, or_true, true_or, Nat.not_lt_zero, Bool.true_and, Bool.false_and, Bool.and_true, Bool.and_false, Bool.or_true, Bool.or_false, Bool.true_or, Bool.false_or, off S 82 9 (by decide) rfl, c_auguryref1_Size S, h, Md.size, Md.mask]
theorem c_auguryref1_Mask (dp : Nat) (w : Int) (m : Int) (A : List Blk) (nb : Nat) (us : List Nat) : evOwnK false E (evC E fn (dp + 2)) 82 A nb (some ([vi w, vi m], us)) = some (.made (.d (vi (Md.mask w m))) []) :=
  Says.flat (raw_auguryref1_Mask S dp w m ) (np S 82 (by decide)) (rfl) A nb us
theorem raw_word_moved (dp : Nat) (w : Int) (op : Int) (a : Int) (b : Int) (hb : 0 ≤ b) : Says E fn (dp + 1) 128 [vi w, vi op, vi a, vi b] (vi (movedI w op a b)) := by
  unfold Says
  show ansOf (evC E fn (dp + 1) 128 [.d (vi w), .d (vi op), .d (vi a), .d (vi b)] []) = _
  rw [evC_succ, S.f_word_moved, apF_some, F_word_moved, mkF_run _ _ _ _ _ _ _ _ rfl]
  by_cases h1 : b ≥ w
  · simp only [endN_gen, go_sem, Nat.reduceLT, Nat.reduceEqDiff, Nat.reduceAdd, Nat.reduceMul, Nat.reduceLeDiff, thq S, nbr S, TH, f_reach, Bool.beq_eq_decide_eq, bne, decide_true, decide_false, Int.reduceEq, Int.reduceLT, Int.reduceLE, Int.reduceNeg, reduceCtorEq, List.mem_cons, List.not_mem_nil, or_false, false_or, or_true, true_or, Nat.not_lt_zero, Bool.true_and, Bool.false_and, Bool.and_true, Bool.and_false, Bool.or_true, Bool.or_false, Bool.true_or, Bool.false_or, off S 128 7 (by decide) rfl, off S 128 11 (by decide) rfl, h1, movedI]
  · by_cases h2 : op = 6
    · simp only [endN_gen, go_sem, Nat.reduceLT, Nat.reduceEqDiff, Nat.reduceAdd, Nat.reduceMul, Nat.reduceLeDiff, thq S, nbr S, TH, f_reach, Bool.beq_eq_decide_eq, bne, decide_true, decide_false, Int.reduceEq, Int.reduceLT, Int.reduceLE, Int.reduceNeg, reduceCtorEq, List.mem_cons, List.not_mem_nil, or_false, false_or, or_true, true_or, Nat.not_lt_zero, Bool.true_and, Bool.false_and, Bool.and_true, Bool.and_false, Bool.or_true, Bool.or_false, Bool.true_or, Bool.false_or, off S 128 7 (by decide) rfl, off S 128 11 (by decide) rfl, h1, h2, movedI, b_shl _ _ _ _ hb, IntKind.bits]
    · simp only [endN_gen, go_sem, Nat.reduceLT, Nat.reduceEqDiff, Nat.reduceAdd, Nat.reduceMul, Nat.reduceLeDiff, thq S, nbr S, TH, f_reach, Bool.beq_eq_decide_eq, bne, decide_true, decide_false, Int.reduceEq, Int.reduceLT, Int.reduceLE, Int.reduceNeg, reduceCtorEq, List.mem_cons, List.not_mem_nil, or_false, false_or, or_true, true_or, Nat.not_lt_zero, Bool.true_and, Bool.false_and, Bool.and_true, Bool.and_false, Bool.or_true, Bool.or_false, Bool.true_or, Bool.false_or, off S 128 7 (by decide) rfl, off S 128 11 (by decide) rfl, h1, h2, movedI, b_shr _ _ _ _ hb, IntKind.bits]
theorem c_word_moved (dp : Nat) (w : Int) (op : Int) (a : Int) (b : Int) (hb : 0 ≤ b) (A : List Blk) (nb : Nat) (us : List Nat) : evOwnK false E (evC E fn (dp + 1)) 128 A nb (some ([vi w, vi op, vi a, vi b], us)) = some (.made (.d (vi (movedI w op a b))) []) :=
  Says.flat (raw_word_moved S dp w op a b hb) (np S 128 (by decide)) (rfl) A nb us
theorem raw_word_Do (dp : Nat) (w : Int) (op : Int) (a : Int) (b : Int) : Says E fn (dp + 4) 102 [vi w, vi op, vi a, vi b] (.tup [vi (Md.wdo w op a b), vb (Md.wdoK w op a b)]) := by
  unfold Says
  show ansOf (evC E fn (dp + 3 + 1) 102 [.d (vi w), .d (vi op), .d (vi a), .d (vi b)] []) = _
  rw [evC_succ, S.f_word_Do, apF_some, F_word_Do, mkF_run _ _ _ _ _ _ _ _ rfl]
  cases h : Md.okW w with
  | false => simp only [endN_gen, go_sem, Nat.reduceLT, Nat.reduceEqDiff, Nat.reduceAdd, Nat.reduceMul, Nat.reduceLeDiff, thq S, nbr S, TH, f_reach, Bool.beq_eq_decide_eq, bne, decide_true, decide_false, Int.reduceEq, Int.reduceLT, Int.reduceLE, Int.reduceNeg, reduceCtorEq, List.mem_cons, List.not_mem_nil, or_false, false_or, or_true, true_or, Nat.not_lt_zero, Bool.true_and, Bool.false_and, Bool.and_true, Bool.and_false, Bool.or_true, Bool.or_false, Bool.true_or, Bool.false_or, off S 102 7 (by decide) rfl, off S 102 19 (by decide) rfl, off S 102 23 (by decide) rfl, off S 102 27 (by decide) rfl, off S 102 31 (by decide) rfl, off S 102 35 (by decide) rfl, off S 102 39 (by decide) rfl, off S 102 41 (by decide) rfl, off S 102 45 (by decide) rfl, off S 102 49 (by decide) rfl, off S 102 53 (by decide) rfl, c_word_Ok S, h, Md.wdo, Md.wdoK]
  | true =>
    have hb := Md.mask_nn w b
    simp only [endN_gen, go_sem, Nat.reduceLT, Nat.reduceEqDiff, Nat.reduceAdd, Nat.reduceMul, Nat.reduceLeDiff, thq S, nbr S, TH, f_reach, Bool.beq_eq_decide_eq, bne, decide_true, decide_false, Int.reduceEq, Int.reduceLT, Int.reduceLE, Int.reduceNeg, reduceCtorEq, List.mem_cons, List.not_mem_nil, or_false, false_or, or_true, true_or, Nat.not_lt_zero, Bool.true_and, Bool.false_and, Bool.and_true, Bool.and_false, Bool.or_true, Bool.or_false, Bool.true_or, Bool.false_or, off S 102 7 (by decide) rfl, off S 102 19 (by decide) rfl, off S 102 23 (by decide) rfl, off S 102 27 (by decide) rfl, off S 102 31 (by decide) rfl, off S 102 35 (by decide) rfl, off S 102 39 (by decide) rfl, off S 102 41 (by decide) rfl, off S 102 45 (by decide) rfl, off S 102 49 (by decide) rfl, off S 102 53 (by decide) rfl, c_word_Ok S, c_word_Mask S, c_word_moved S _ _ _ _ _ hb, c_word_truth S, h, Md.wdo, Md.wdoK, Md.mask_wrap, b_iand, b_ior, b_ixor, Md.mask_iand h, Md.mask_ior h, Md.mask_ixor h, Md.mask_truth h]
    simp only [Bool.cond_decide, Md.opOf, movedI, Md.shl, Md.shr]
    by_cases h1 : op = 1
    · simp only [h1, if_true]; rfl
    by_cases h2 : op = 2
    · simp only [h1, h2, if_true, Int.reduceEq, if_false]; rfl
    by_cases h3 : op = 3
    · simp only [h1, h2, h3, if_true, Int.reduceEq, if_false]; rfl
    by_cases h4 : op = 4
    · simp only [h1, h2, h3, h4, if_true, Int.reduceEq, if_false]; rfl
    by_cases h5 : op = 5
    · simp only [h1, h2, h3, h4, h5, if_true, Int.reduceEq, if_false]; rfl
    by_cases h6 : op = 6
    · by_cases hm : Md.mask w b ≥ w
      · simp only [h6, hm, if_true, Int.reduceEq, if_false, Md.mask_zero h]; rfl
      · simp only [h6, hm, if_true, Int.reduceEq, if_false, Md.mask_wrap, mask_mv h hm]; rfl
    by_cases h7 : op = 7
    · by_cases hm : Md.mask w b ≥ w
      · simp only [h7, hm, if_true, Int.reduceEq, if_false, Md.mask_zero h]; rfl
      · simp only [h7, hm, if_true, Int.reduceEq, if_false, mask_mv h hm, Md.mask_shr h]; rfl
    by_cases h8 : op = 8
    · simp only [h8, if_true, Int.reduceEq, if_false]; rfl
    by_cases h9 : op = 9
    · simp only [h9, if_true, Int.reduceEq, if_false]; rfl
    by_cases h10 : op = 10
    · simp only [h10, if_true, Int.reduceEq, if_false]; rfl
    · simp only [h1, h2, h3, h4, h5, h6, h7, h8, h9, h10, if_false]; rfl
theorem c_word_Do (dp : Nat) (w : Int) (op : Int) (a : Int) (b : Int) (A : List Blk) (nb : Nat) (us : List Nat) : evOwnK false E (evC E fn (dp + 4)) 102 A nb (some ([vi w, vi op, vi a, vi b], us)) = some (.made (.d (.tup [vi (Md.wdo w op a b), vb (Md.wdoK w op a b)])) []) :=
  Says.flat (raw_word_Do S dp w op a b ) (np S 102 (by decide)) (rfl) A nb us
theorem raw_auguryref1_Do (dp : Nat) (w : Int) (op : Int) (a : Int) (b : Int) : Says E fn (dp + 3) 81 [vi w, vi op, vi a, vi b] (.tup [vi (Md.wdo w op a b), vb (Md.wdoK w op a b)]) := by
  unfold Says
  show ansOf (evC E fn (dp + 2 + 1) 81 [.d (vi w), .d (vi op), .d (vi a), .d (vi b)] []) = _
  rw [evC_succ, S.f_auguryref1_Do, apF_some, F_auguryref1_Do, mkF_run _ _ _ _ _ _ _ _ rfl]
  cases h : Md.okW w with
  | false => simp only [endN_gen, go_sem, Nat.reduceLT, Nat.reduceEqDiff, Nat.reduceAdd, Nat.reduceMul, Nat.reduceLeDiff, thq S, nbr S, TH, f_reach, Bool.beq_eq_decide_eq, bne, decide_true, decide_false, Int.reduceEq, Int.reduceLT, Int.reduceLE, Int.reduceNeg, reduceCtorEq, List.mem_cons, List.not_mem_nil, or_false, false_or, or_true, true_or, Nat.not_lt_zero, Bool.true_and, Bool.false_and, Bool.and_true, Bool.and_false, Bool.or_true, Bool.or_false, Bool.true_or, Bool.false_or, off S 81 7 (by decide) rfl, off S 81 15 (by decide) rfl, off S 81 19 (by decide) rfl, off S 81 23 (by decide) rfl, off S 81 27 (by decide) rfl, off S 81 31 (by decide) rfl, off S 81 35 (by decide) rfl, off S 81 37 (by decide) rfl, off S 81 43 (by decide) rfl, off S 81 45 (by decide) rfl, off S 81 51 (by decide) rfl, off S 81 55 (by decide) rfl, off S 81 59 (by decide) rfl, c_auguryref1_Size S, h, Md.size, Md.wdo, Md.wdoK]
  | true =>
    have hb := Md.mask_nn w b
    have hb2 := Md.mask_le w b
    have hu : IntKind.u64.wrap (Md.mask w b) = Md.mask w b := wrap_u64 (by omega) (by omega)
    have hz : (2 : Int) ^ w.toNat ≠ 0 := by have := Md.pow_pos' w.toNat; omega
    simp only [endN_gen, go_sem, Nat.reduceLT, Nat.reduceEqDiff, Nat.reduceAdd, Nat.reduceMul, Nat.reduceLeDiff, thq S, nbr S, TH, f_reach, Bool.beq_eq_decide_eq, bne, decide_true, decide_false, Int.reduceEq, Int.reduceLT, Int.reduceLE, Int.reduceNeg, reduceCtorEq, List.mem_cons, List.not_mem_nil, or_false, false_or, or_true, true_or, Nat.not_lt_zero, Bool.true_and, Bool.false_and, Bool.and_true, Bool.and_false, Bool.or_true, Bool.or_false, Bool.true_or, Bool.false_or, off S 81 7 (by decide) rfl, off S 81 15 (by decide) rfl, off S 81 19 (by decide) rfl, off S 81 23 (by decide) rfl, off S 81 27 (by decide) rfl, off S 81 31 (by decide) rfl, off S 81 35 (by decide) rfl, off S 81 37 (by decide) rfl, off S 81 43 (by decide) rfl, off S 81 45 (by decide) rfl, off S 81 51 (by decide) rfl, off S 81 55 (by decide) rfl, off S 81 59 (by decide) rfl, c_auguryref1_Size S, c_auguryref1_Mask S, c_auguryref1_truth S, h, Md.size, hz, hu, b_shl _ _ _ _ hb, b_shr _ _ _ _ hb, IntKind.bits, Md.wdo, Md.wdoK, Md.mask_wrap, b_iand, b_ior, b_ixor]
    simp only [Bool.cond_decide, Md.opOf, movedI, Md.shl, Md.shr]
    by_cases h1 : op = 1
    · simp only [h1, if_true]; rfl
    by_cases h2 : op = 2
    · simp only [h1, h2, if_true, Int.reduceEq, if_false]; rfl
    by_cases h3 : op = 3
    · simp only [h1, h2, h3, if_true, Int.reduceEq, if_false]; rfl
    by_cases h4 : op = 4
    · simp only [h1, h2, h3, h4, if_true, Int.reduceEq, if_false]; rfl
    by_cases h5 : op = 5
    · simp only [h1, h2, h3, h4, h5, if_true, Int.reduceEq, if_false]; rfl
    by_cases h6 : op = 6
    · by_cases hm : Md.mask w b ≥ w
      · simp only [h6, hm, if_true, Int.reduceEq, if_false, Md.mask_zero h]; rfl
      · simp only [h6, hm, if_true, Int.reduceEq, if_false, Md.mask_wrap, mask_mv h hm]; rfl
    by_cases h7 : op = 7
    · by_cases hm : Md.mask w b ≥ w
      · simp only [h7, hm, if_true, Int.reduceEq, if_false, Md.mask_zero h]; rfl
      · simp only [h7, hm, if_true, Int.reduceEq, if_false, mask_mv h hm, Md.mask_shr h]; rfl
    by_cases h8 : op = 8
    · simp only [h8, if_true, Int.reduceEq, if_false]; rfl
    by_cases h9 : op = 9
    · simp only [h9, if_true, Int.reduceEq, if_false]; rfl
    by_cases h10 : op = 10
    · simp only [h10, if_true, Int.reduceEq, if_false]; rfl
    · simp only [h1, h2, h3, h4, h5, h6, h7, h8, h9, h10, if_false]; rfl
theorem c_auguryref1_Do (dp : Nat) (w : Int) (op : Int) (a : Int) (b : Int) (A : List Blk) (nb : Nat) (us : List Nat) : evOwnK false E (evC E fn (dp + 3)) 81 A nb (some ([vi w, vi op, vi a, vi b], us)) = some (.made (.d (.tup [vi (Md.wdo w op a b), vb (Md.wdoK w op a b)])) []) :=
  Says.flat (raw_auguryref1_Do S dp w op a b ) (np S 81 (by decide)) (rfl) A nb us
end
end Go.Aug.Mc


