/- BounTells: the law's run. -/
import Derived.Test.YtogckbgcldmaeaaBo3
import Derived.Test.YtogckbgcldmaeaaWi1
namespace Go.Aug.Mc
open Go Go.Aug
set_option linter.unusedSimpArgs false
set_option linter.unusedVariables false
set_option maxHeartbeats 40000000
set_option maxRecDepth 200000
def Rq (w wn : Int) (ms : List MemT) (is : List Ins) : Nat := Bo.confsR (Md.size w).toNat ((is.length : Int) + 2).toNat (wn + 1).toNat wn.toNat (4 + cellsI ms).toNat
theorem Rq_pos {w wn : Int} {ms : List MemT} {is : List Ins} (hw : Md.okW w = true) : 0 < Rq w wn ms is := by
  obtain ⟨k, rfl, h1, h2⟩ := Md.okW_nat hw
  have := Md.pow_pos' k
  refine Bo.confsR_pos ?_ (by omega)
  simp only [Md.size, hw, cond_true, Int.toNat_natCast]
  omega
theorem Rq_le (w wn : Int) (ms : List MemT) (is : List Ins) : Rq w wn ms is ≤ 4611686018427387904 := Bo.confsR_le _ _ _ _ _
theorem mk_ms (l : List Int) : ∀ m ∈ (Md.make l).mems, 0 ≤ m.n ∧ m.n ≤ 16 := by
  intro m hm
  have hm : m ∈ Md.memsM l (Md.widM l) := hm
  have h1 : ∀ m ∈ Md.mem1 l (Md.widM l), 0 ≤ m.n ∧ m.n ≤ 16 := by
    intro m hm
    unfold Md.mem1 at hm
    split at hm
    · simp only [List.mem_singleton] at hm
      subst hm
      split <;> simp
    · simp at hm
  unfold Md.memsM at hm
  split at hm
  · rcases List.mem_append.1 hm with hm | hm
    · exact h1 m hm
    · simp only [List.mem_singleton] at hm
      subst hm; simp
  · exact h1 m hm
theorem mk_ml (l : List Int) : (Md.make l).mems.length < 1000 := by
  show (Md.memsM l (Md.widM l)).length < 1000
  have h1 : (Md.mem1 l (Md.widM l)).length ≤ 1 := by unfold Md.mem1; split <;> simp
  unfold Md.memsM
  split
  · simp; omega
  · omega
theorem mk_il (l : List Int) : (Md.make l).ins.length < 1000 := by
  show ((List.range (Md.nM l)).map _).length < 1000
  obtain ⟨r, h1, h2⟩ := Md.iand3 (Md.shi (Md.kM l 0) 12)
  rw [List.length_map, List.length_range]
  unfold Md.nM
  rw [h2, Int.toNat_natCast]; omega
theorem mk_w (l : List Int) : Md.okW (Md.make l).w = true := by
  obtain ⟨r, h1, h2⟩ := Md.iand1 (Md.kM l 0)
  show Md.okW (Md.iand (Md.kM l 0) 1 + 1) = true
  rw [h2]; exact Md.okW_iff.2 ⟨by omega, by omega⟩
theorem wi_w (l : List Int) (w r c : Int) : Md.okW (Md.wide l w r c).w = true := by
  obtain ⟨n, h1, h2⟩ : ∃ n : Nat, n < 16 ∧ Md.iand w 15 = n := Md.iand_low w 4 (by decide)
  show Md.okW (Md.iand w 15 + 1) = true
  rw [h2]; exact Md.okW_iff.2 ⟨by omega, by omega⟩
theorem wi_ms (l : List Int) (w r c : Int) : ∀ m ∈ (Md.wide l w r c).mems, 0 ≤ m.n ∧ m.n ≤ 16 := by
  obtain ⟨a, ha, ea⟩ : ∃ n : Nat, n < 8 ∧ Md.iand (Md.shi c 0) 7 = n := Md.iand_low _ 3 (by decide)
  obtain ⟨b, hb, eb⟩ : ∃ n : Nat, n < 8 ∧ Md.iand (Md.shi c 3) 7 = n := Md.iand_low _ 3 (by decide)
  intro m hm
  have hm : m ∈ Md.wide2 (Md.wideW w) c := hm
  have h1 : ∀ m ∈ Md.wide1 (Md.wideW w) c, 0 ≤ m.n ∧ m.n ≤ 16 := by
    intro m hm
    unfold Md.wide1 at hm
    split at hm
    · simp only [List.mem_singleton] at hm
      subst hm
      rw [ea]; show (0 : Int) ≤ (a : Int) ∧ (a : Int) ≤ 16; omega
    · simp at hm
  unfold Md.wide2 at hm
  split at hm
  · rcases List.mem_append.1 hm with hm | hm
    · exact h1 m hm
    · simp only [List.mem_singleton] at hm
      subst hm
      rw [eb]; show (0 : Int) ≤ (b : Int) ∧ (b : Int) ≤ 16; omega
  · exact h1 m hm
theorem wi_ml (l : List Int) (w r c : Int) : (Md.wide l w r c).mems.length < 1000 := by
  show (Md.wide2 (Md.wideW w) c).length < 1000
  have h1 : (Md.wide1 (Md.wideW w) c).length ≤ 1 := by unfold Md.wide1; split <;> simp
  unfold Md.wide2
  split
  · simp; omega
  · omega
theorem wi_il (l : List Int) (w r c : Int) : (Md.wide l w r c).ins.length < 1000 := mk_il l
theorem q_B6_augurylaw24_BounTells (E : Env) (call : CallT) (kn : K) (kx : Nat → K) (kr : K) (tm : List AV) (A : List Blk) : B6_augurylaw24_BounTells E call kn kx kr tm A = (cSeq (cOps [st 25 (oBin .lss (.t 24) (.t 23))]) (cSeq (cCond 1 (.t 25) (cSkip) (cExit 0)) (cSeq (cBlock 1 (cSeq (cOps [st 26 (oIxS (.t 22) (.t 24) 10), st 27 (oLoad (.t 26) true 10), st 12 (oNew [zi, zi, zi, zi, zi, zi, zi, zn, zn, zn]), su (oStore (.t 12) (.t 27) 10)]) (cSeq (cOps [st 28 (oMov (.t 4)), st 29 (oBin .and (.t 28) (ci 255)), st 30 (oBin .rem (.t 29) (ci 6)), st 31 (oAdd (.t 12) 1), su (oStore (.t 31) (.t 30) 1)]) (cSeq (cOps [st 32 (oAdd (.t 12) 1), st 33 (oLoad (.t 32) false 1), st 34 (oBin .add (.t 33) (ci 1)), st 35 (oAdd (.t 12) 1), su (oStore (.t 35) (.t 34) 1)]) (cSeq (cOps [st 36 (oLoad (.t 12) true 10), st 37 (oCall (.f 19) [(.t 36)]), st 13 (oMov (.t 37))]) (cSeq (cOps [st 14 (oMov (.c (.v (.int .u64 4611686018427387904))))]) (cSeq (cSeq (cOps [st 38 (oMov (.t 13)), st 39 (oBin .lss (.t 38) (.c (.v (.int .u64 2147483648))))]) (cCond 21 (.t 39) (cOps [st 40 (oMov (.t 13)), st 41 (oMov (.t 13)), st 42 (oBin .mul (.t 40) (.t 41)), st 14 (oMov (.t 42))]) (cSkip))) (cSeq (cOps [st 43 (oLoad (.t 12) true 10), st 44 (oCall (.f 15) [(.t 43)]), st 45 (oMov (.t 13)), st 46 (oBin .neq (.t 44) (.t 45)), st 47 (oMov (.t 46)), sg 48 47 false (oLoad (.t 12) true 10), sg 49 47 false (oCall (.f 20) [(.t 48)]), sg 50 47 false (oMov (.t 14)), sg 51 47 false (oMM false [(.t 50), (.c (.v (.int .u64 4611686018427387904)))]), sg 52 47 false (oBin .neq (.t 49) (.t 51)), st 53 (oPick (.t 47) (.c (.v (.bool true))) (.t 52)), st 54 (oMov (.t 53)), sg 55 54 false (oMov (.t 13)), sg 56 54 false (oBin .lss (.t 55) (.c (.v (.int .u64 1)))), st 57 (oPick (.t 54) (.c (.v (.bool true))) (.t 56))]) (cCond 25 (.t 57) (cSeq (cOps [st 10 (oMov (.c (.v (.bool false))))]) (cRet)) (cSkip)))))))))) (cOps [st 58 (oBin .add (.t 24) (ci 1)), st 24 (oMov (.t 58))])))) E call kn kx kr tm A := id rfl
variable {E : Env} {fn : FuncId → Option (Env → CallT → CallT)}
section
variable (S : Sur E fn)
include S
theorem q_boun (dp : Nat) (w wn fu r0 r1 r2 r3 : Int) (ms : List MemT) (ls : List Label) (is : List Ins) (h1 : 1 ≤ wn ∧ wn ≤ 6) (h2 : is.length < 1000) (h3 : ms.length < 1000) (A : List Blk) (nb : Nat) (us : List Nat) :
    evOwnK false E (evC E fn (dp + 6)) 15 A nb (some ([.agg [vi w, vi wn, vi fu, vi r0, vi r1, vi r2, vi r3, rowD ms, rowD ls, rowD is]], us)) = some (.made (.d (u6 (Rq w wn ms is))) []) := by
  have := c_boun_Confs S dp w wn fu r0 r1 r2 r3 ms ls is h1 h2 h3 A nb us
  rw [Bo.confs_eq] at this
  exact this
theorem q_pair (dp : Nat) (w wn fu r0 r1 r2 r3 : Int) (ms : List MemT) (ls : List Label) (is : List Ins) (h1 : 1 ≤ wn ∧ wn ≤ 6) (h2 : is.length < 1000) (h3 : ms.length < 1000) (A : List Blk) (nb : Nat) (us : List Nat) :
    evOwnK false E (evC E fn (dp + 7)) 20 A nb (some ([.agg [vi w, vi wn, vi fu, vi r0, vi r1, vi r2, vi r3, rowD ms, rowD ls, rowD is]], us)) = some (.made (.d (u6 (Bo.sat (Rq w wn ms is * Rq w wn ms is)))) []) := by
  have := c_boun_Pairs S dp w wn fu r0 r1 r2 r3 ms ls is h1 h2 h3 A nb us
  rw [Bo.confs_eq] at this
  exact this
theorem q_ref (dp : Nat) (w wn fu r0 r1 r2 r3 : Int) (ms : List MemT) (ls : List Label) (is : List Ins) (h1 : 1 ≤ wn ∧ wn ≤ 6) (h2 : is.length < 1000) (h3 : ms.length < 1000) (h4 : ∀ m ∈ ms, 0 ≤ m.n ∧ m.n ≤ 16) (A : List Blk) (nb : Nat) (us : List Nat) :
    evOwnK false E (evC E fn (dp + 6)) 19 A nb (some ([.agg [vi w, vi wn, vi fu, vi r0, vi r1, vi r2, vi r3, rowD ms, rowD ls, rowD is]], us)) = some (.made (.d (u6 (Rq w wn ms is))) []) :=
  c_auguryref19_Confs S dp w wn fu r0 r1 r2 r3 ms ls is h1 h2 h3 h4 A nb us
theorem raw_lawBnT (ha : E.prim 16 = some trueG) (dp : Nat) (m : List Int) (w r c xw : Int) : evC E fn (dp + 9) 4 [.d (rowD m), aint w, aint r, aint c, aint xw] [] = some (abool true, []) := by
  rw [evC_succ, S.f_augurylaw24_BounTells, apF_some, F_augurylaw24_BounTells, mkF_run _ _ _ _ _ _ _ _ rfl]
  have h6 : ∀ kx kr n d T A, loopK 6 B6_augurylaw24_BounTells (inn E 4) (evC E fn (dp + 8)) kx kr (n + 1) (mk d 60 T) A = nrmTo (B6_augurylaw24_BounTells (inn E 4) (evC E fn (dp + 8)) (loopK 6 B6_augurylaw24_BounTells (inn E 4) (evC E fn (dp + 8)) kx kr n) kx kr) 60 [4, 22, 23, 24] d T A (reach A 0 100000 ([4, 22, 23, 24].flatMap fun t => refsOf 8 (getS d T t)) []) := fun kx kr n d T A => loop_in (on S _ _ [4, 22, 23, 24] (by decide) rfl) rfl _ _ _ _ _ _ _ _ _ rfl
  have r2' : ∀ {α : Type} (l : List α), rep l 2 = l ++ l := fun l => by simp [rep]
  have lm6 : evBin .rem (aint (Md.iand xw 255)) (aint 6) = some (aint (Md.lowmod xw 6 : Nat)) := lm xw 6 (by decide)
  have hl6 := Md.lowmod_lt xw (show 0 < 6 by decide)
  generalize Md.lowmod xw 6 = q at lm6 hl6
  have hq1 : IntKind.i64.wrap ((q : Int) + 1) = (q : Int) + 1 := wrap_i64 (by omega) (by omega)
  have hq2 : 1 ≤ (q : Int) + 1 := by omega
  have hq3 : (q : Int) + 1 ≤ 6 := by omega
  have p1 := Rq_pos (wn := (q : Int) + 1) (ms := (Md.make m).mems) (is := (Md.make m).ins) (mk_w m)
  have l1' := Rq_le (Md.make m).w ((q : Int) + 1) (Md.make m).mems (Md.make m).ins
  have p2 := Rq_pos (wn := (q : Int) + 1) (ms := (Md.wide m w r c).mems) (is := (Md.wide m w r c).ins) (wi_w m w r c)
  have l2' := Rq_le (Md.wide m w r c).w ((q : Int) + 1) (Md.wide m w r c).mems (Md.wide m w r c).ins
  generalize hR1 : Rq (Md.make m).w ((q : Int) + 1) (Md.make m).mems (Md.make m).ins = R1 at p1 l1'
  generalize hR2 : Rq (Md.wide m w r c).w ((q : Int) + 1) (Md.wide m w r c).mems (Md.wide m w r c).ins = R2 at p2 l2'
  have one : ∀ R : Nat, 0 < R → ¬ (R : Int) < 1 := fun R h => by omega
  have o1 := one R1 p1
  have o2 := one R2 p2
  have sm : ∀ R : Nat, (R : Int) < 2147483648 → R * R < 4611686018427387904 := fun R h => by
    have := Nat.mul_le_mul (show R ≤ 2147483647 by omega) (show R ≤ 2147483647 by omega)
    omega
  have bg : ∀ R : Nat, ¬ (R : Int) < 2147483648 → 4611686018427387904 ≤ R * R := fun R h => by
    have := Nat.mul_le_mul (show 2147483648 ≤ R by omega) (show 2147483648 ≤ R by omega)
    omega
  have t1 : ∀ R : Nat, (R : Int) < 2147483648 → IntKind.u64.wrap ((R : Int) * R) = ((R * R : Nat) : Int) := fun R h => by
    have := sm R h
    rw [← Int.natCast_mul]
    generalize R * R = y at this
    exact wrap_u64 (by omega) (by omega)
  have t2 : ∀ R : Nat, (R : Int) < 2147483648 → Bo.sat (R * R) = R * R := fun R h => by have := sm R h; unfold Bo.sat Bo.far; omega
  have t3 : ∀ R : Nat, (R : Int) < 2147483648 → min ((R * R : Nat) : Int) 4611686018427387904 = ((R * R : Nat) : Int) := fun R h => by have := sm R h; exact Int.min_eq_left (by omega)
  have t4 : ∀ R : Nat, ¬ (R : Int) < 2147483648 → ((Bo.sat (R * R) : Nat) : Int) = 4611686018427387904 := fun R h => by have := bg R h; unfold Bo.sat Bo.far; omega
  have t5 : min (4611686018427387904 : Int) 4611686018427387904 = 4611686018427387904 := Int.min_self _
  have wz1 : IntKind.i64.wrap 1 = 1 := by decide
  have wz2 : IntKind.i64.wrap 2 = 2 := by decide
  by_cases a1 : (R1 : Int) < 2147483648
  · by_cases a2 : (R2 : Int) < 2147483648
    · simp only [endN_gen, go_sem, Nat.reduceLT, Nat.reduceEqDiff, Nat.reduceAdd, Nat.reduceMul, Nat.reduceLeDiff, thq S, nbr S, TH, f_reach, Bool.beq_eq_decide_eq, bne, decide_true, decide_false, Int.reduceEq, Int.reduceLT, Int.reduceLE, Int.reduceNeg, reduceCtorEq, List.mem_cons, List.not_mem_nil, or_false, false_or, or_true, true_or, Nat.not_lt_zero, Bool.true_and, Bool.false_and, Bool.and_true, Bool.and_false, Bool.or_true, Bool.or_false, Bool.true_or, Bool.false_or, off S 4 1 (by decide) rfl, off S 4 21 (by decide) rfl, off S 4 25 (by decide) rfl, h6, wz1, wz2, Int.toNat_one, Int.toNat_zero, q_B6_augurylaw24_BounTells, r2', b_iand, lm6, hq1, hq2, hq3, hR1, hR2, o1, o2, t5, q_boun S, q_pair S, q_ref S, c_augurylaw6_Make S, c_augurylaw19_Wide S, mk_ml, mk_il, wi_ml, wi_il, eq_true (mk_ms m), eq_true (wi_ms m w r c), c_told ha, and_self, Int.cast_ofNat_Int, List.length_cons, List.length_nil, Nat.zero_add, Int.reduceAdd, Nat.add_zero, Nat.zero_mul, Nat.one_mul, true_and, and_true, List.all_cons, List.all_nil, Nat.le_refl, ne_eq, not_true_eq_false, not_false_eq_true, Bool.not_true, Bool.not_false, Int.reduceToNat, a1, a2, t1 R1 a1, t2 R1 a1, t3 R1 a1, t1 R2 a2, t2 R2 a2, t3 R2 a2]
    · simp only [endN_gen, go_sem, Nat.reduceLT, Nat.reduceEqDiff, Nat.reduceAdd, Nat.reduceMul, Nat.reduceLeDiff, thq S, nbr S, TH, f_reach, Bool.beq_eq_decide_eq, bne, decide_true, decide_false, Int.reduceEq, Int.reduceLT, Int.reduceLE, Int.reduceNeg, reduceCtorEq, List.mem_cons, List.not_mem_nil, or_false, false_or, or_true, true_or, Nat.not_lt_zero, Bool.true_and, Bool.false_and, Bool.and_true, Bool.and_false, Bool.or_true, Bool.or_false, Bool.true_or, Bool.false_or, off S 4 1 (by decide) rfl, off S 4 21 (by decide) rfl, off S 4 25 (by decide) rfl, h6, wz1, wz2, Int.toNat_one, Int.toNat_zero, q_B6_augurylaw24_BounTells, r2', b_iand, lm6, hq1, hq2, hq3, hR1, hR2, o1, o2, t5, q_boun S, q_pair S, q_ref S, c_augurylaw6_Make S, c_augurylaw19_Wide S, mk_ml, mk_il, wi_ml, wi_il, eq_true (mk_ms m), eq_true (wi_ms m w r c), c_told ha, and_self, Int.cast_ofNat_Int, List.length_cons, List.length_nil, Nat.zero_add, Int.reduceAdd, Nat.add_zero, Nat.zero_mul, Nat.one_mul, true_and, and_true, List.all_cons, List.all_nil, Nat.le_refl, ne_eq, not_true_eq_false, not_false_eq_true, Bool.not_true, Bool.not_false, Int.reduceToNat, a1, a2, t1 R1 a1, t2 R1 a1, t3 R1 a1, t4 R2 a2]
  · by_cases a2 : (R2 : Int) < 2147483648
    · simp only [endN_gen, go_sem, Nat.reduceLT, Nat.reduceEqDiff, Nat.reduceAdd, Nat.reduceMul, Nat.reduceLeDiff, thq S, nbr S, TH, f_reach, Bool.beq_eq_decide_eq, bne, decide_true, decide_false, Int.reduceEq, Int.reduceLT, Int.reduceLE, Int.reduceNeg, reduceCtorEq, List.mem_cons, List.not_mem_nil, or_false, false_or, or_true, true_or, Nat.not_lt_zero, Bool.true_and, Bool.false_and, Bool.and_true, Bool.and_false, Bool.or_true, Bool.or_false, Bool.true_or, Bool.false_or, off S 4 1 (by decide) rfl, off S 4 21 (by decide) rfl, off S 4 25 (by decide) rfl, h6, wz1, wz2, Int.toNat_one, Int.toNat_zero, q_B6_augurylaw24_BounTells, r2', b_iand, lm6, hq1, hq2, hq3, hR1, hR2, o1, o2, t5, q_boun S, q_pair S, q_ref S, c_augurylaw6_Make S, c_augurylaw19_Wide S, mk_ml, mk_il, wi_ml, wi_il, eq_true (mk_ms m), eq_true (wi_ms m w r c), c_told ha, and_self, Int.cast_ofNat_Int, List.length_cons, List.length_nil, Nat.zero_add, Int.reduceAdd, Nat.add_zero, Nat.zero_mul, Nat.one_mul, true_and, and_true, List.all_cons, List.all_nil, Nat.le_refl, ne_eq, not_true_eq_false, not_false_eq_true, Bool.not_true, Bool.not_false, Int.reduceToNat, a1, a2, t4 R1 a1, t1 R2 a2, t2 R2 a2, t3 R2 a2]
    · simp only [endN_gen, go_sem, Nat.reduceLT, Nat.reduceEqDiff, Nat.reduceAdd, Nat.reduceMul, Nat.reduceLeDiff, thq S, nbr S, TH, f_reach, Bool.beq_eq_decide_eq, bne, decide_true, decide_false, Int.reduceEq, Int.reduceLT, Int.reduceLE, Int.reduceNeg, reduceCtorEq, List.mem_cons, List.not_mem_nil, or_false, false_or, or_true, true_or, Nat.not_lt_zero, Bool.true_and, Bool.false_and, Bool.and_true, Bool.and_false, Bool.or_true, Bool.or_false, Bool.true_or, Bool.false_or, off S 4 1 (by decide) rfl, off S 4 21 (by decide) rfl, off S 4 25 (by decide) rfl, h6, wz1, wz2, Int.toNat_one, Int.toNat_zero, q_B6_augurylaw24_BounTells, r2', b_iand, lm6, hq1, hq2, hq3, hR1, hR2, o1, o2, t5, q_boun S, q_pair S, q_ref S, c_augurylaw6_Make S, c_augurylaw19_Wide S, mk_ml, mk_il, wi_ml, wi_il, eq_true (mk_ms m), eq_true (wi_ms m w r c), c_told ha, and_self, Int.cast_ofNat_Int, List.length_cons, List.length_nil, Nat.zero_add, Int.reduceAdd, Nat.add_zero, Nat.zero_mul, Nat.one_mul, true_and, and_true, List.all_cons, List.all_nil, Nat.le_refl, ne_eq, not_true_eq_false, not_false_eq_true, Bool.not_true, Bool.not_false, Int.reduceToNat, a1, a2, t4 R1 a1, t4 R2 a2]
end
end Go.Aug.Mc


