/- How many machines there may be: products and powers. -/
import Derived.Test.YtogckbgcldmaeaaMc10
import Derived.Test.YtogckbgcldmaeaaWi
namespace Go.Aug.Mc
open Go Go.Aug
set_option linter.unusedSimpArgs false
set_option linter.unusedVariables false
set_option maxHeartbeats 40000000
abbrev u6 (n : Nat) : DV := .v (.int .u64 n)
variable {E : Env} {fn : FuncId → Option (Env → CallT → CallT)}
section
variable (S : Sur E fn)
include S
theorem raw_boun_times (dp : Nat) (a : Int) (b : Int) (ha : 0 ≤ a) (hb : 0 ≤ b) : Says E fn (dp + 1) 43 [.v (.int .u64 a), .v (.int .u64 b)] (u6 (Bo.sat (a.toNat * b.toNat))) := by
  unfold Says
  show ansOf (evC E fn (dp + 1) 43 [.d (.v (.int .u64 a)), .d (.v (.int .u64 b))] []) = _
  obtain ⟨a, rfl⟩ := Int.eq_ofNat_of_zero_le ha
  obtain ⟨b, rfl⟩ := Int.eq_ofNat_of_zero_le hb
  rw [evC_succ, S.f_boun_times, apF_some, F_boun_times, mkF_run _ _ _ _ _ _ _ _ rfl]
  by_cases h : (a : Int) > 0
  · have h0 : (a : Int) ≠ 0 := by omega
    have hq : IntKind.u64.wrap (Int.tdiv 4611686018427387904 a) = ((Bo.far / a : Nat) : Int) := by
      have e : Int.tdiv 4611686018427387904 (a : Int) = ((Bo.far / a : Nat) : Int) := by
        rw [Int.natCast_ediv]; exact Int.tdiv_eq_ediv_of_nonneg (by omega)
      rw [e]
      have h1 : Bo.far / a ≤ Bo.far := Nat.div_le_self _ _
      have h2 : Bo.far = 4611686018427387904 := rfl
      generalize Bo.far / a = q at h1
      exact wrap_u64 (by omega) (by omega)
    have hc : decide ((b : Int) > ((Bo.far / a : Nat) : Int)) = decide (Bo.far / a < b) := by
      simp only [gt_iff_lt, Int.ofNat_lt]
    rw [Int.toNat_natCast, Int.toNat_natCast, Bo.sat_if (by omega)]
    by_cases hb : Bo.far / a < b
    · simp only [endN_gen, go_sem, Nat.reduceLT, Nat.reduceEqDiff, Nat.reduceAdd, Nat.reduceMul, Nat.reduceLeDiff, thq S, nbr S, TH, f_reach, Bool.beq_eq_decide_eq, bne, decide_true, decide_false, Int.reduceEq, Int.reduceLT, Int.reduceLE, Int.reduceNeg, reduceCtorEq, List.mem_cons, List.not_mem_nil, or_false, false_or, or_true, true_or, Nat.not_lt_zero, Bool.true_and, Bool.false_and, Bool.and_true, Bool.and_false, Bool.or_true, Bool.or_false, Bool.true_or, Bool.false_or, off S 43 7 (by decide) rfl, h, b_quo _ _ _ h0, hq, hc, hb]
      rfl
    · have hle : a * b ≤ Bo.far := by
        have h1 : b ≤ Bo.far / a := by omega
        have := Nat.mul_le_mul_left a h1
        exact Nat.le_trans this (Nat.mul_div_le Bo.far a)
      have hf : Bo.far = 4611686018427387904 := rfl
      have hw : IntKind.u64.wrap ((a : Int) * b) = ((a * b : Nat) : Int) := by
        rw [← Int.natCast_mul]
        generalize a * b = q at hle
        exact wrap_u64 (by omega) (by omega)
      simp only [endN_gen, go_sem, Nat.reduceLT, Nat.reduceEqDiff, Nat.reduceAdd, Nat.reduceMul, Nat.reduceLeDiff, thq S, nbr S, TH, f_reach, Bool.beq_eq_decide_eq, bne, decide_true, decide_false, Int.reduceEq, Int.reduceLT, Int.reduceLE, Int.reduceNeg, reduceCtorEq, List.mem_cons, List.not_mem_nil, or_false, false_or, or_true, true_or, Nat.not_lt_zero, Bool.true_and, Bool.false_and, Bool.and_true, Bool.and_false, Bool.or_true, Bool.or_false, Bool.true_or, Bool.false_or, off S 43 7 (by decide) rfl, h, b_quo _ _ _ h0, hq, hc, hb, hw]
  · have h0 : a = 0 := by omega
    subst h0
    have hw : IntKind.u64.wrap (((0 : Nat) : Int) * b) = 0 := by simp [IntKind.wrap, IntKind.bits, IntKind.signed]
    have hs : Bo.sat (((0 : Nat) : Int).toNat * (b : Int).toNat) = 0 := by simp [Bo.sat]
    rw [hs]
    simp only [endN_gen, go_sem, Nat.reduceLT, Nat.reduceEqDiff, Nat.reduceAdd, Nat.reduceMul, Nat.reduceLeDiff, thq S, nbr S, TH, f_reach, Bool.beq_eq_decide_eq, bne, decide_true, decide_false, Int.reduceEq, Int.reduceLT, Int.reduceLE, Int.reduceNeg, reduceCtorEq, List.mem_cons, List.not_mem_nil, or_false, false_or, or_true, true_or, Nat.not_lt_zero, Bool.true_and, Bool.false_and, Bool.and_true, Bool.and_false, Bool.or_true, Bool.or_false, Bool.true_or, Bool.false_or, off S 43 7 (by decide) rfl, h, hw]
    rfl
theorem c_boun_times (dp : Nat) (a : Int) (b : Int) (ha : 0 ≤ a) (hb : 0 ≤ b) (A : List Blk) (nb : Nat) (us : List Nat) : evOwnK false E (evC E fn (dp + 1)) 43 A nb (some ([.v (.int .u64 a), .v (.int .u64 b)], us)) = some (.made (.d (u6 (Bo.sat (a.toNat * b.toNat)))) []) :=
  Says.flat (raw_boun_times S dp a b ha hb) (np S 43 (by decide)) (rfl) A nb us
theorem raw_auguryref19_mul (dp : Nat) (a : Int) (b : Int) (ha : 0 ≤ a) (hb : 0 ≤ b) : Says E fn (dp + 1) 51 [.v (.int .u64 a), .v (.int .u64 b)] (u6 (Bo.sat (a.toNat * b.toNat))) := by
  unfold Says
  show ansOf (evC E fn (dp + 1) 51 [.d (.v (.int .u64 a)), .d (.v (.int .u64 b))] []) = _
  obtain ⟨a, rfl⟩ := Int.eq_ofNat_of_zero_le ha
  obtain ⟨b, rfl⟩ := Int.eq_ofNat_of_zero_le hb
  rw [evC_succ, S.f_auguryref19_mul, apF_some, F_auguryref19_mul, mkF_run _ _ _ _ _ _ _ _ rfl]
  rw [Int.toNat_natCast, Int.toNat_natCast]
  by_cases h : (a : Int) = 0
  · have h0 : a = 0 := by omega
    have hs : Bo.sat (a * b) = 0 := by simp [Bo.sat, h0]
    rw [hs]
    simp only [endN_gen, go_sem, Nat.reduceLT, Nat.reduceEqDiff, Nat.reduceAdd, Nat.reduceMul, Nat.reduceLeDiff, thq S, nbr S, TH, f_reach, Bool.beq_eq_decide_eq, bne, decide_true, decide_false, Int.reduceEq, Int.reduceLT, Int.reduceLE, Int.reduceNeg, reduceCtorEq, List.mem_cons, List.not_mem_nil, or_false, false_or, or_true, true_or, Nat.not_lt_zero, Bool.true_and, Bool.false_and, Bool.and_true, Bool.and_false, Bool.or_true, Bool.or_false, Bool.true_or, Bool.false_or, off S 51 7 (by decide) rfl, off S 51 11 (by decide) rfl, h]
    rfl
  by_cases h' : (b : Int) = 0
  · have h0 : b = 0 := by omega
    have hs : Bo.sat (a * b) = 0 := by simp [Bo.sat, h0]
    rw [hs]
    simp only [endN_gen, go_sem, Nat.reduceLT, Nat.reduceEqDiff, Nat.reduceAdd, Nat.reduceMul, Nat.reduceLeDiff, thq S, nbr S, TH, f_reach, Bool.beq_eq_decide_eq, bne, decide_true, decide_false, Int.reduceEq, Int.reduceLT, Int.reduceLE, Int.reduceNeg, reduceCtorEq, List.mem_cons, List.not_mem_nil, or_false, false_or, or_true, true_or, Nat.not_lt_zero, Bool.true_and, Bool.false_and, Bool.and_true, Bool.and_false, Bool.or_true, Bool.or_false, Bool.true_or, Bool.false_or, off S 51 7 (by decide) rfl, off S 51 11 (by decide) rfl, h, h']
    rfl
  have hq : IntKind.u64.wrap (Int.tdiv 4611686018427387904 b) = ((Bo.far / b : Nat) : Int) := by
    have e : Int.tdiv 4611686018427387904 (b : Int) = ((Bo.far / b : Nat) : Int) := by
      rw [Int.natCast_ediv]; exact Int.tdiv_eq_ediv_of_nonneg (by omega)
    rw [e]
    have h1 : Bo.far / b ≤ Bo.far := Nat.div_le_self _ _
    have h2 : Bo.far = 4611686018427387904 := rfl
    generalize Bo.far / b = q at h1
    exact wrap_u64 (by omega) (by omega)
  have hc : decide ((a : Int) > ((Bo.far / b : Nat) : Int)) = decide (Bo.far / b < a) := by
    simp only [gt_iff_lt, Int.ofNat_lt]
  rw [Nat.mul_comm, Bo.sat_if (by omega)]
  by_cases hb : Bo.far / b < a
  · simp only [endN_gen, go_sem, Nat.reduceLT, Nat.reduceEqDiff, Nat.reduceAdd, Nat.reduceMul, Nat.reduceLeDiff, thq S, nbr S, TH, f_reach, Bool.beq_eq_decide_eq, bne, decide_true, decide_false, Int.reduceEq, Int.reduceLT, Int.reduceLE, Int.reduceNeg, reduceCtorEq, List.mem_cons, List.not_mem_nil, or_false, false_or, or_true, true_or, Nat.not_lt_zero, Bool.true_and, Bool.false_and, Bool.and_true, Bool.and_false, Bool.or_true, Bool.or_false, Bool.true_or, Bool.false_or, off S 51 7 (by decide) rfl, off S 51 11 (by decide) rfl, h, h', b_quo _ _ _ h', hq, hc, hb]
    rfl
  · have hle : b * a ≤ Bo.far := by
      have h1 : a ≤ Bo.far / b := by omega
      have := Nat.mul_le_mul_left b h1
      exact Nat.le_trans this (Nat.mul_div_le Bo.far b)
    have hf : Bo.far = 4611686018427387904 := rfl
    have hw : IntKind.u64.wrap ((a : Int) * b) = ((b * a : Nat) : Int) := by
      rw [← Int.natCast_mul, Nat.mul_comm]
      generalize b * a = q at hle
      exact wrap_u64 (by omega) (by omega)
    have hm : min ((b * a : Nat) : Int) 4611686018427387904 = ((b * a : Nat) : Int) := Int.min_eq_left (by omega)
    simp only [endN_gen, go_sem, Nat.reduceLT, Nat.reduceEqDiff, Nat.reduceAdd, Nat.reduceMul, Nat.reduceLeDiff, thq S, nbr S, TH, f_reach, Bool.beq_eq_decide_eq, bne, decide_true, decide_false, Int.reduceEq, Int.reduceLT, Int.reduceLE, Int.reduceNeg, reduceCtorEq, List.mem_cons, List.not_mem_nil, or_false, false_or, or_true, true_or, Nat.not_lt_zero, Bool.true_and, Bool.false_and, Bool.and_true, Bool.and_false, Bool.or_true, Bool.or_false, Bool.true_or, Bool.false_or, off S 51 7 (by decide) rfl, off S 51 11 (by decide) rfl, h, h', b_quo _ _ _ h', hq, hc, hb, hw, hm]
theorem c_auguryref19_mul (dp : Nat) (a : Int) (b : Int) (ha : 0 ≤ a) (hb : 0 ≤ b) (A : List Blk) (nb : Nat) (us : List Nat) : evOwnK false E (evC E fn (dp + 1)) 51 A nb (some ([.v (.int .u64 a), .v (.int .u64 b)], us)) = some (.made (.d (u6 (Bo.sat (a.toNat * b.toNat)))) []) :=
  Says.flat (raw_auguryref19_mul S dp a b ha hb) (np S 51 (by decide)) (rfl) A nb us
theorem loop_power (dp : Nat) (a n : Nat) (hn : n < 4611686018427387904) (kx : Nat → K) (kr : K) : ∀ m k f out, k + m = n → m ≤ f →
    B8_boun_power (inn E 44) (evC E fn (dp + 1)) (loopK 8 B8_boun_power (inn E 44) (evC E fn (dp + 1)) kx kr f) kx kr (mk .bot 14 [(0, .d (u6 a)), (5, .d (u6 out)), (6, aint n), (7, aint k)]) [] =
    kx 0 (mk .bot 14 [(8, abool false), (0, .d (u6 a)), (5, .d (u6 (Bo.powS a out m))), (6, aint n), (7, aint n)]) [] := by
  intro m
  induction m with
  | zero =>
    intro k f out hk _
    obtain rfl : k = n := by omega
    generalize loopK 8 B8_boun_power _ _ kx kr f = KK
    rw [B8_boun_power]
    simp only [endN_gen, go_sem, Nat.reduceLT, Nat.reduceEqDiff, Nat.reduceAdd, Nat.reduceMul, Nat.reduceLeDiff, thq S, nbr S, TH, f_reach, Bool.beq_eq_decide_eq, bne, decide_true, decide_false, Int.reduceEq, Int.reduceLT, Int.reduceLE, Int.reduceNeg, reduceCtorEq, List.mem_cons, List.not_mem_nil, or_false, false_or, or_true, true_or, Nat.not_lt_zero, Bool.true_and, Bool.false_and, Bool.and_true, Bool.and_false, Bool.or_true, Bool.or_false, Bool.true_or, Bool.false_or, off S 44 1 (by decide) rfl, Int.lt_irrefl, Bo.powS]
  | succ m ih =>
    intro k f out hk hf
    obtain ⟨f, rfl⟩ : ∃ g, f = g + 1 := ⟨f - 1, by omega⟩
    generalize hK : loopK 8 B8_boun_power _ _ kx kr (f + 1) = KK
    rw [B8_boun_power]
    have h : (k : Int) < n := by omega
    simp only [endN_gen, go_sem, Nat.reduceLT, Nat.reduceEqDiff, Nat.reduceAdd, Nat.reduceMul, Nat.reduceLeDiff, thq S, nbr S, TH, f_reach, Bool.beq_eq_decide_eq, bne, decide_true, decide_false, Int.reduceEq, Int.reduceLT, Int.reduceLE, Int.reduceNeg, reduceCtorEq, List.mem_cons, List.not_mem_nil, or_false, false_or, or_true, true_or, Nat.not_lt_zero, Bool.true_and, Bool.false_and, Bool.and_true, Bool.and_false, Bool.or_true, Bool.or_false, Bool.true_or, Bool.false_or, off S 44 1 (by decide) rfl, h, c_boun_times S, Int.natCast_nonneg, Int.toNat_natCast, wi k (by omega)]
    rw [← hK, loop_in (on S _ _ [0, 5, 6, 7] (by decide) rfl) rfl _ _ _ _ _ _ _ _ _ rfl]
    simp only [endN_gen, go_sem, Nat.reduceLT, Nat.reduceEqDiff, Nat.reduceAdd, Nat.reduceMul, Nat.reduceLeDiff, thq S, nbr S, TH, f_reach, Bool.beq_eq_decide_eq, bne, decide_true, decide_false, Int.reduceEq, Int.reduceLT, Int.reduceLE, Int.reduceNeg, reduceCtorEq, List.mem_cons, List.not_mem_nil, or_false, false_or, or_true, true_or, Nat.not_lt_zero, Bool.true_and, Bool.false_and, Bool.and_true, Bool.and_false, Bool.or_true, Bool.or_false, Bool.true_or, Bool.false_or, off S 44 1 (by decide) rfl]
    exact ih (k + 1) f _ (by omega) (by omega)
theorem raw_boun_power (dp : Nat) (a : Int) (n : Int) (ha : 0 ≤ a) (h0 : 0 ≤ n) (hn : n < 4611686018427387904) : Says E fn (dp + 2) 44 [.v (.int .u64 a), vi n] (u6 (Bo.pw a.toNat n.toNat)) := by
  unfold Says
  show ansOf (evC E fn (dp + 1 + 1) 44 [.d (.v (.int .u64 a)), .d (vi n)] []) = _
  obtain ⟨a, rfl⟩ := Int.eq_ofNat_of_zero_le ha
  obtain ⟨n, rfl⟩ := Int.eq_ofNat_of_zero_le h0
  rw [evC_succ, S.f_boun_power, apF_some, F_boun_power, mkF_run _ _ _ _ _ _ _ _ rfl]
  simp only [endN_gen, go_sem, Nat.reduceLT, Nat.reduceEqDiff, Nat.reduceAdd, Nat.reduceMul, Nat.reduceLeDiff, thq S, nbr S, TH, f_reach, Bool.beq_eq_decide_eq, bne, decide_true, decide_false, Int.reduceEq, Int.reduceLT, Int.reduceLE, Int.reduceNeg, reduceCtorEq, List.mem_cons, List.not_mem_nil, or_false, false_or, or_true, true_or, Nat.not_lt_zero, Bool.true_and, Bool.false_and, Bool.and_true, Bool.and_false, Bool.or_true, Bool.or_false, Bool.true_or, Bool.false_or, off S 44 1 (by decide) rfl]
  rw [big_eq, loop_in (on S _ _ [0, 5, 6, 7] (by decide) rfl) rfl _ _ _ _ _ _ _ _ _ rfl]
  simp only [endN_gen, go_sem, Nat.reduceLT, Nat.reduceEqDiff, Nat.reduceAdd, Nat.reduceMul, Nat.reduceLeDiff, thq S, nbr S, TH, f_reach, Bool.beq_eq_decide_eq, bne, decide_true, decide_false, Int.reduceEq, Int.reduceLT, Int.reduceLE, Int.reduceNeg, reduceCtorEq, List.mem_cons, List.not_mem_nil, or_false, false_or, or_true, true_or, Nat.not_lt_zero, Bool.true_and, Bool.false_and, Bool.and_true, Bool.and_false, Bool.or_true, Bool.or_false, Bool.true_or, Bool.false_or, off S 44 1 (by decide) rfl]
  have := fun kx kr => loop_power S dp a n (by omega) kx kr n 0 999999999999999999999999999999 1 (by omega) (by omega)
  simp only [u6, Int.cast_ofNat_Int] at this
  rw [this]
  simp only [endN_gen, go_sem, Nat.reduceLT, Nat.reduceEqDiff, Nat.reduceAdd, Nat.reduceMul, Nat.reduceLeDiff, thq S, nbr S, TH, f_reach, Bool.beq_eq_decide_eq, bne, decide_true, decide_false, Int.reduceEq, Int.reduceLT, Int.reduceLE, Int.reduceNeg, reduceCtorEq, List.mem_cons, List.not_mem_nil, or_false, false_or, or_true, true_or, Nat.not_lt_zero, Bool.true_and, Bool.false_and, Bool.and_true, Bool.and_false, Bool.or_true, Bool.or_false, Bool.true_or, Bool.false_or, off S 44 1 (by decide) rfl, Int.toNat_natCast, Bo.pw]
theorem c_boun_power (dp : Nat) (a : Int) (n : Int) (ha : 0 ≤ a) (h0 : 0 ≤ n) (hn : n < 4611686018427387904) (A : List Blk) (nb : Nat) (us : List Nat) : evOwnK false E (evC E fn (dp + 2)) 44 A nb (some ([.v (.int .u64 a), vi n], us)) = some (.made (.d (u6 (Bo.pw a.toNat n.toNat))) []) :=
  Says.flat (raw_boun_power S dp a n ha h0 hn) (np S 44 (by decide)) (rfl) A nb us
theorem loop_pow (dp : Nat) (a n : Nat) (hn : n < 4611686018427387904) (kx : Nat → K) (kr : K) : ∀ m k f out, k + m = n → m ≤ f →
    B8_auguryref19_pow (inn E 52) (evC E fn (dp + 1)) (loopK 8 B8_auguryref19_pow (inn E 52) (evC E fn (dp + 1)) kx kr f) kx kr (mk .bot 16 [(0, .d (u6 a)), (1, aint n), (5, .d (u6 out)), (6, aint k)]) [] =
    kx 0 (mk .bot 16 [(9, abool false), (8, aint n), (7, aint n), (0, .d (u6 a)), (1, aint n), (5, .d (u6 (Bo.powS a out m))), (6, aint n)]) [] := by
  intro m
  induction m with
  | zero =>
    intro k f out hk _
    obtain rfl : k = n := by omega
    generalize loopK 8 B8_auguryref19_pow _ _ kx kr f = KK
    rw [B8_auguryref19_pow]
    simp only [endN_gen, go_sem, Nat.reduceLT, Nat.reduceEqDiff, Nat.reduceAdd, Nat.reduceMul, Nat.reduceLeDiff, thq S, nbr S, TH, f_reach, Bool.beq_eq_decide_eq, bne, decide_true, decide_false, Int.reduceEq, Int.reduceLT, Int.reduceLE, Int.reduceNeg, reduceCtorEq, List.mem_cons, List.not_mem_nil, or_false, false_or, or_true, true_or, Nat.not_lt_zero, Bool.true_and, Bool.false_and, Bool.and_true, Bool.and_false, Bool.or_true, Bool.or_false, Bool.true_or, Bool.false_or, off S 52 1 (by decide) rfl, Int.lt_irrefl, Bo.powS]
  | succ m ih =>
    intro k f out hk hf
    obtain ⟨f, rfl⟩ : ∃ g, f = g + 1 := ⟨f - 1, by omega⟩
    generalize hK : loopK 8 B8_auguryref19_pow _ _ kx kr (f + 1) = KK
    rw [B8_auguryref19_pow]
    have h : (k : Int) < n := by omega
    simp only [endN_gen, go_sem, Nat.reduceLT, Nat.reduceEqDiff, Nat.reduceAdd, Nat.reduceMul, Nat.reduceLeDiff, thq S, nbr S, TH, f_reach, Bool.beq_eq_decide_eq, bne, decide_true, decide_false, Int.reduceEq, Int.reduceLT, Int.reduceLE, Int.reduceNeg, reduceCtorEq, List.mem_cons, List.not_mem_nil, or_false, false_or, or_true, true_or, Nat.not_lt_zero, Bool.true_and, Bool.false_and, Bool.and_true, Bool.and_false, Bool.or_true, Bool.or_false, Bool.true_or, Bool.false_or, off S 52 1 (by decide) rfl, h, c_auguryref19_mul S, Int.natCast_nonneg, Int.toNat_natCast, wi k (by omega)]
    rw [← hK, loop_in (on S _ _ [0, 1, 5, 6] (by decide) rfl) rfl _ _ _ _ _ _ _ _ _ rfl]
    simp only [endN_gen, go_sem, Nat.reduceLT, Nat.reduceEqDiff, Nat.reduceAdd, Nat.reduceMul, Nat.reduceLeDiff, thq S, nbr S, TH, f_reach, Bool.beq_eq_decide_eq, bne, decide_true, decide_false, Int.reduceEq, Int.reduceLT, Int.reduceLE, Int.reduceNeg, reduceCtorEq, List.mem_cons, List.not_mem_nil, or_false, false_or, or_true, true_or, Nat.not_lt_zero, Bool.true_and, Bool.false_and, Bool.and_true, Bool.and_false, Bool.or_true, Bool.or_false, Bool.true_or, Bool.false_or, off S 52 1 (by decide) rfl]
    exact ih (k + 1) f _ (by omega) (by omega)
theorem raw_auguryref19_pow (dp : Nat) (a : Int) (n : Int) (ha : 0 ≤ a) (h0 : 0 ≤ n) (hn : n < 4611686018427387904) : Says E fn (dp + 2) 52 [.v (.int .u64 a), vi n] (u6 (Bo.pw a.toNat n.toNat)) := by
  unfold Says
  show ansOf (evC E fn (dp + 1 + 1) 52 [.d (.v (.int .u64 a)), .d (vi n)] []) = _
  obtain ⟨a, rfl⟩ := Int.eq_ofNat_of_zero_le ha
  obtain ⟨n, rfl⟩ := Int.eq_ofNat_of_zero_le h0
  rw [evC_succ, S.f_auguryref19_pow, apF_some, F_auguryref19_pow, mkF_run _ _ _ _ _ _ _ _ rfl]
  simp only [endN_gen, go_sem, Nat.reduceLT, Nat.reduceEqDiff, Nat.reduceAdd, Nat.reduceMul, Nat.reduceLeDiff, thq S, nbr S, TH, f_reach, Bool.beq_eq_decide_eq, bne, decide_true, decide_false, Int.reduceEq, Int.reduceLT, Int.reduceLE, Int.reduceNeg, reduceCtorEq, List.mem_cons, List.not_mem_nil, or_false, false_or, or_true, true_or, Nat.not_lt_zero, Bool.true_and, Bool.false_and, Bool.and_true, Bool.and_false, Bool.or_true, Bool.or_false, Bool.true_or, Bool.false_or, off S 52 1 (by decide) rfl]
  rw [big_eq, loop_in (on S _ _ [0, 1, 5, 6] (by decide) rfl) rfl _ _ _ _ _ _ _ _ _ rfl]
  simp only [endN_gen, go_sem, Nat.reduceLT, Nat.reduceEqDiff, Nat.reduceAdd, Nat.reduceMul, Nat.reduceLeDiff, thq S, nbr S, TH, f_reach, Bool.beq_eq_decide_eq, bne, decide_true, decide_false, Int.reduceEq, Int.reduceLT, Int.reduceLE, Int.reduceNeg, reduceCtorEq, List.mem_cons, List.not_mem_nil, or_false, false_or, or_true, true_or, Nat.not_lt_zero, Bool.true_and, Bool.false_and, Bool.and_true, Bool.and_false, Bool.or_true, Bool.or_false, Bool.true_or, Bool.false_or, off S 52 1 (by decide) rfl]
  have := fun kx kr => loop_pow S dp a n (by omega) kx kr n 0 999999999999999999999999999999 1 (by omega) (by omega)
  simp only [u6, Int.cast_ofNat_Int] at this
  rw [this]
  simp only [endN_gen, go_sem, Nat.reduceLT, Nat.reduceEqDiff, Nat.reduceAdd, Nat.reduceMul, Nat.reduceLeDiff, thq S, nbr S, TH, f_reach, Bool.beq_eq_decide_eq, bne, decide_true, decide_false, Int.reduceEq, Int.reduceLT, Int.reduceLE, Int.reduceNeg, reduceCtorEq, List.mem_cons, List.not_mem_nil, or_false, false_or, or_true, true_or, Nat.not_lt_zero, Bool.true_and, Bool.false_and, Bool.and_true, Bool.and_false, Bool.or_true, Bool.or_false, Bool.true_or, Bool.false_or, off S 52 1 (by decide) rfl, Int.toNat_natCast, Bo.pw]
theorem c_auguryref19_pow (dp : Nat) (a : Int) (n : Int) (ha : 0 ≤ a) (h0 : 0 ≤ n) (hn : n < 4611686018427387904) (A : List Blk) (nb : Nat) (us : List Nat) : evOwnK false E (evC E fn (dp + 2)) 52 A nb (some ([.v (.int .u64 a), vi n], us)) = some (.made (.d (u6 (Bo.pw a.toNat n.toNat))) []) :=
  Says.flat (raw_auguryref19_pow S dp a n ha h0 hn) (np S 52 (by decide)) (rfl) A nb us
end
end Go.Aug.Mc


/- How many machines there may be: what the functions answer. -/
namespace Go.Aug.Mc
open Go Go.Aug
set_option linter.unusedSimpArgs false
set_option linter.unusedVariables false
set_option maxHeartbeats 40000000
theorem hs_size (w : Int) : 0 ≤ Md.size w ∧ Md.size w ≤ 65536 := by
  unfold Md.size
  cases h : Md.okW w with
  | false => simp
  | true =>
    obtain ⟨k, rfl, h1, h2⟩ := Md.okW_nat h
    have := Md.pow_le16 h2
    have := Md.pow_pos' k
    simp only [cond_true, Int.toNat_natCast]
    omega
variable {E : Env} {fn : FuncId → Option (Env → CallT → CallT)}
section
variable (S : Sur E fn)
include S
theorem loop_rCells (dp : Nat) (p : Prog) (hl : p.mems.length < 1073741824) (hr : ∀ m ∈ p.mems, 0 ≤ m.n ∧ m.n ≤ 16) (kx : Nat → K) (kr : K) : ∀ m k f, k + m = p.mems.length → m ≤ f →
    B8_auguryref7_Cells (inn E 53) (evC E fn dp) (loopK 8 B8_auguryref7_Cells (inn E 53) (evC E fn dp) kx kr f) kx kr (mk .bot 21 [(1, .ref 0 0 0), (3, aint (cellsI (p.mems.take k))), (4, aint k)]) [.cells ((progC p).map .d) 0 false] =
    kx 0 (mk .bot 21 [(9, abool false), (8, aint p.mems.length), (7, .d (rowD p.mems)), (6, .ref 0 0 7), (5, aint p.mems.length), (1, .ref 0 0 0), (3, aint (cellsI p.mems)), (4, aint p.mems.length)]) [.cells ((progC p).map .d) 0 false] := by
  intro m
  induction m with
  | zero =>
    intro k f hk _
    obtain rfl : k = p.mems.length := by omega
    generalize loopK 8 B8_auguryref7_Cells _ _ kx kr f = KK
    rw [B8_auguryref7_Cells, List.take_of_length_le (by omega)]
    simp only [endN_gen, go_sem, Nat.reduceLT, Nat.reduceEqDiff, Nat.reduceAdd, Nat.reduceMul, Nat.reduceLeDiff, thq S, nbr S, TH, f_reach, Bool.beq_eq_decide_eq, bne, decide_true, decide_false, Int.reduceEq, Int.reduceLT, Int.reduceLE, Int.reduceNeg, reduceCtorEq, List.mem_cons, List.not_mem_nil, or_false, false_or, or_true, true_or, Nat.not_lt_zero, Bool.true_and, Bool.false_and, Bool.and_true, Bool.and_false, Bool.or_true, Bool.or_false, Bool.true_or, Bool.false_or, off S 53 1 (by decide) rfl, Int.lt_irrefl]
  | succ m ih =>
    intro k f hk hf
    obtain ⟨e, he⟩ := get_of (show k < p.mems.length by omega)
    obtain ⟨f, rfl⟩ : ∃ g, f = g + 1 := ⟨f - 1, by omega⟩
    generalize hK : loopK 8 B8_auguryref7_Cells _ _ kx kr (f + 1) = KK
    rw [B8_auguryref7_Cells]
    have hb := cellsI_le (p.mems.take k)
    have hbl : (p.mems.take k).length ≤ p.mems.length := by simp; omega
    have hen := hr e (List.mem_of_getElem? he)
    have hw : IntKind.i64.wrap (cellsI (p.mems.take k) + e.n) = cellsI (p.mems.take (k + 1)) := by
      rw [cellsI_take he, Int.max_eq_left hen.1, Int.min_eq_left hen.2]
      exact wrap_i64 (by omega) (by omega)
    simp only [endN_gen, go_sem, Nat.reduceLT, Nat.reduceEqDiff, Nat.reduceAdd, Nat.reduceMul, Nat.reduceLeDiff, thq S, nbr S, TH, f_reach, Bool.beq_eq_decide_eq, bne, decide_true, decide_false, Int.reduceEq, Int.reduceLT, Int.reduceLE, Int.reduceNeg, reduceCtorEq, List.mem_cons, List.not_mem_nil, or_false, false_or, or_true, true_or, Nat.not_lt_zero, Bool.true_and, Bool.false_and, Bool.and_true, Bool.and_false, Bool.or_true, Bool.or_false, Bool.true_or, Bool.false_or, off S 53 1 (by decide) rfl, show (k : Int) < p.mems.length by omega, w_ix he, wi k (by omega), hw]
    rw [← hK, loop_in (on S _ _ [1, 3, 4] (by decide) rfl) rfl _ _ _ _ _ _ _ _ _ rfl]
    simp only [endN_gen, go_sem, Nat.reduceLT, Nat.reduceEqDiff, Nat.reduceAdd, Nat.reduceMul, Nat.reduceLeDiff, thq S, nbr S, TH, f_reach, Bool.beq_eq_decide_eq, bne, decide_true, decide_false, Int.reduceEq, Int.reduceLT, Int.reduceLE, Int.reduceNeg, reduceCtorEq, List.mem_cons, List.not_mem_nil, or_false, false_or, or_true, true_or, Nat.not_lt_zero, Bool.true_and, Bool.false_and, Bool.and_true, Bool.and_false, Bool.or_true, Bool.or_false, Bool.true_or, Bool.false_or, off S 53 1 (by decide) rfl]
    exact ih (k + 1) f (by omega) (by omega)
theorem raw_auguryref7_Cells (dp : Nat) (p : Prog) (hl : p.mems.length < 1073741824) (hr : ∀ m ∈ p.mems, 0 ≤ m.n ∧ m.n ≤ 16) : Says E fn (dp + 1) 53 [progD p] (vi (cellsI p.mems)) := by
  unfold Says
  show ansOf (evC E fn (dp + 1) 53 [.d (progD p)] []) = _
  rw [evC_succ, S.f_auguryref7_Cells, apF_some, F_auguryref7_Cells, mkF_run _ _ _ _ _ _ _ _ rfl]
  simp only [endN_gen, go_sem, Nat.reduceLT, Nat.reduceEqDiff, Nat.reduceAdd, Nat.reduceMul, Nat.reduceLeDiff, thq S, nbr S, TH, f_reach, Bool.beq_eq_decide_eq, bne, decide_true, decide_false, Int.reduceEq, Int.reduceLT, Int.reduceLE, Int.reduceNeg, reduceCtorEq, List.mem_cons, List.not_mem_nil, or_false, false_or, or_true, true_or, Nat.not_lt_zero, Bool.true_and, Bool.false_and, Bool.and_true, Bool.and_false, Bool.or_true, Bool.or_false, Bool.true_or, Bool.false_or, off S 53 1 (by decide) rfl]
  rw [big_eq, loop_in (on S _ _ [1, 3, 4] (by decide) rfl) rfl _ _ _ _ _ _ _ _ _ rfl]
  simp only [endN_gen, go_sem, Nat.reduceLT, Nat.reduceEqDiff, Nat.reduceAdd, Nat.reduceMul, Nat.reduceLeDiff, thq S, nbr S, TH, f_reach, Bool.beq_eq_decide_eq, bne, decide_true, decide_false, Int.reduceEq, Int.reduceLT, Int.reduceLE, Int.reduceNeg, reduceCtorEq, List.mem_cons, List.not_mem_nil, or_false, false_or, or_true, true_or, Nat.not_lt_zero, Bool.true_and, Bool.false_and, Bool.and_true, Bool.and_false, Bool.or_true, Bool.or_false, Bool.true_or, Bool.false_or, off S 53 1 (by decide) rfl]
  have := fun kx kr => loop_rCells S dp p hl hr kx kr p.mems.length 0 999999999999999999999999999999 (by omega) (by omega)
  simp only [go_sem, List.take_zero, Int.cast_ofNat_Int, show cellsI ([] : List MemT) = 0 from rfl] at this
  rw [this]
  simp only [endN_gen, go_sem, Nat.reduceLT, Nat.reduceEqDiff, Nat.reduceAdd, Nat.reduceMul, Nat.reduceLeDiff, thq S, nbr S, TH, f_reach, Bool.beq_eq_decide_eq, bne, decide_true, decide_false, Int.reduceEq, Int.reduceLT, Int.reduceLE, Int.reduceNeg, reduceCtorEq, List.mem_cons, List.not_mem_nil, or_false, false_or, or_true, true_or, Nat.not_lt_zero, Bool.true_and, Bool.false_and, Bool.and_true, Bool.and_false, Bool.or_true, Bool.or_false, Bool.true_or, Bool.false_or, off S 53 1 (by decide) rfl]
theorem c_auguryref7_Cells (dp : Nat) (p_w : Int) (p_wn : Int) (p_fu : Int) (p_r0 : Int) (p_r1 : Int) (p_r2 : Int) (p_r3 : Int) (p_ms : List MemT) (p_ls : List Label) (p_is : List Ins) (hl : (⟨p_w, p_wn, p_fu, ⟨p_r0, p_r1, p_r2, p_r3⟩, p_ms, p_ls, p_is⟩ : Prog).mems.length < 1073741824) (hr : ∀ m ∈ (⟨p_w, p_wn, p_fu, ⟨p_r0, p_r1, p_r2, p_r3⟩, p_ms, p_ls, p_is⟩ : Prog).mems, 0 ≤ m.n ∧ m.n ≤ 16) (A : List Blk) (nb : Nat) (us : List Nat) : evOwnK false E (evC E fn (dp + 1)) 53 A nb (some ([.agg [vi p_w, vi p_wn, vi p_fu, vi p_r0, vi p_r1, vi p_r2, vi p_r3, rowD p_ms, rowD p_ls, rowD p_is]], us)) = some (.made (.d (vi (cellsI (⟨p_w, p_wn, p_fu, ⟨p_r0, p_r1, p_r2, p_r3⟩, p_ms, p_ls, p_is⟩ : Prog).mems))) []) :=
  Says.flat (raw_auguryref7_Cells S dp (⟨p_w, p_wn, p_fu, ⟨p_r0, p_r1, p_r2, p_r3⟩, p_ms, p_ls, p_is⟩ : Prog) hl hr) (np S 53 (by decide)) (rfl) A nb us
end
end Go.Aug.Mc


/- How many machines there may be: the counts. -/
namespace Go.Aug.Mc
open Go Go.Aug
set_option linter.unusedSimpArgs false
set_option linter.unusedVariables false
set_option maxHeartbeats 40000000
theorem u_sat (x : Nat) : IntKind.u64.wrap (min ((Bo.sat x : Nat) : Int) 4611686018427387903 + 1) = ((min (Bo.sat x) (Bo.far - 1) + 1 : Nat) : Int) := by
  have := Bo.sat_le x
  unfold Bo.far at this ⊢
  generalize Bo.sat x = y at this
  rw [wrap_u64 (by omega) (by omega)]; omega
theorem u_sat1 (x : Nat) : min (IntKind.u64.wrap (1 + ((Bo.sat x : Nat) : Int))) 4611686018427387904 = ((min (1 + Bo.sat x) Bo.far : Nat) : Int) := by
  have := Bo.sat_le x
  unfold Bo.far at this ⊢
  generalize Bo.sat x = y at this
  rw [wrap_u64 (by omega) (by omega)]; omega
variable {E : Env} {fn : FuncId → Option (Env → CallT → CallT)}
section
variable (S : Sur E fn)
include S
theorem raw_boun_Confs (dp : Nat) (p : Prog) (hw : 1 ≤ p.window ∧ p.window ≤ 6) (hL : p.ins.length < 1000) (hM : p.mems.length < 1000) : Says E fn (dp + 6) 15 [progD p] (u6 (Bo.confs (Md.size p.w).toNat ((p.ins.length : Int) + 2).toNat (p.window + 1).toNat p.window.toNat (4 + cellsI p.mems).toNat)) := by
  unfold Says
  show ansOf (evC E fn (dp + 5 + 1) 15 [.d (progD p)] []) = _
  rw [evC_succ, S.f_boun_Confs, apF_some, F_boun_Confs, mkF_run _ _ _ _ _ _ _ _ rfl]
  have hl := hL
  have hm : p.mems.length < 1073741824 := by omega
  have hz := hs_size p.w
  have hcc := cellsI_le p.mems
  have hr : True := trivial
  have hw0 : max p.window 0 = p.window := Int.max_eq_left (by omega)
  have hw1 : IntKind.u64.wrap p.window = p.window := wrap_u64 (by omega) (by omega)
  have hw2 : IntKind.u64.wrap (p.window + 1) = p.window + 1 := wrap_u64 (by omega) (by omega)
  have hw3 : min p.window 64 = p.window := Int.min_eq_left (by omega)
  have hw4 : 0 ≤ p.window + 1 := by omega
  have hw5 : 0 ≤ p.window := by omega
  have hw6 : p.window < 4611686018427387904 := by omega
  have hw7 : IntKind.i64.wrap (p.window + 1) = p.window + 1 := wrap_i64 (by omega) (by omega)
  have hw8 : IntKind.i64.wrap ((p.ins.length : Int) + 2) = (p.ins.length : Int) + 2 := wrap_i64 (by omega) (by omega)
  have hs0 : 0 ≤ Md.size p.w := hz.1
  have hs1 : IntKind.u64.wrap (Md.size p.w) = Md.size p.w := wrap_u64 (by omega) (by omega)
  have hk0 : 0 ≤ (p.ins.length : Int) + 2 := by omega
  have hk1 : IntKind.u64.wrap (p.ins.length : Int) = (p.ins.length : Int) := wrap_u64 (by omega) (by omega)
  have hk2 : IntKind.u64.wrap ((p.ins.length : Int) + 2) = (p.ins.length : Int) + 2 := wrap_u64 (by omega) (by omega)
  have hc1 : IntKind.i64.wrap (4 + cellsI p.mems) = 4 + cellsI p.mems := wrap_i64 (by omega) (by omega)
  have hc0 : 0 ≤ 4 + cellsI p.mems := by omega
  have hc2 : 4 + cellsI p.mems < 4611686018427387904 := by omega
  simp only [endN_gen, go_sem, Nat.reduceLT, Nat.reduceEqDiff, Nat.reduceAdd, Nat.reduceMul, Nat.reduceLeDiff, thq S, nbr S, TH, f_reach, Bool.beq_eq_decide_eq, bne, decide_true, decide_false, Int.reduceEq, Int.reduceLT, Int.reduceLE, Int.reduceNeg, reduceCtorEq, List.mem_cons, List.not_mem_nil, or_false, false_or, or_true, true_or, Nat.not_lt_zero, Bool.true_and, Bool.false_and, Bool.and_true, Bool.and_false, Bool.or_true, Bool.or_false, Bool.true_or, Bool.false_or, hw0, hw1, hw2, hs0, hs1, hk1, hk2, hk0, hc1, hc0, hc2, hw3, hw4, hw5, hw6, hw7, hw8, c_word_Size S, c_auguryref1_Size S, c_boun_power S, c_boun_times S, c_arch_Cells S, c_auguryref19_mul S, c_auguryref19_pow S, c_auguryref7_Cells S, hl, hm, Int.natCast_nonneg, Int.toNat_natCast, Int.reduceToNat, u_sat, u_sat1, ge_iff_le, hr, Int.cast_ofNat_Int, Bo.confs]
theorem c_boun_Confs (dp : Nat) (p_w : Int) (p_wn : Int) (p_fu : Int) (p_r0 : Int) (p_r1 : Int) (p_r2 : Int) (p_r3 : Int) (p_ms : List MemT) (p_ls : List Label) (p_is : List Ins) (hw : 1 ≤ (⟨p_w, p_wn, p_fu, ⟨p_r0, p_r1, p_r2, p_r3⟩, p_ms, p_ls, p_is⟩ : Prog).window ∧ (⟨p_w, p_wn, p_fu, ⟨p_r0, p_r1, p_r2, p_r3⟩, p_ms, p_ls, p_is⟩ : Prog).window ≤ 6) (hL : (⟨p_w, p_wn, p_fu, ⟨p_r0, p_r1, p_r2, p_r3⟩, p_ms, p_ls, p_is⟩ : Prog).ins.length < 1000) (hM : (⟨p_w, p_wn, p_fu, ⟨p_r0, p_r1, p_r2, p_r3⟩, p_ms, p_ls, p_is⟩ : Prog).mems.length < 1000) (A : List Blk) (nb : Nat) (us : List Nat) : evOwnK false E (evC E fn (dp + 6)) 15 A nb (some ([.agg [vi p_w, vi p_wn, vi p_fu, vi p_r0, vi p_r1, vi p_r2, vi p_r3, rowD p_ms, rowD p_ls, rowD p_is]], us)) = some (.made (.d (u6 (Bo.confs (Md.size (⟨p_w, p_wn, p_fu, ⟨p_r0, p_r1, p_r2, p_r3⟩, p_ms, p_ls, p_is⟩ : Prog).w).toNat (((⟨p_w, p_wn, p_fu, ⟨p_r0, p_r1, p_r2, p_r3⟩, p_ms, p_ls, p_is⟩ : Prog).ins.length : Int) + 2).toNat ((⟨p_w, p_wn, p_fu, ⟨p_r0, p_r1, p_r2, p_r3⟩, p_ms, p_ls, p_is⟩ : Prog).window + 1).toNat (⟨p_w, p_wn, p_fu, ⟨p_r0, p_r1, p_r2, p_r3⟩, p_ms, p_ls, p_is⟩ : Prog).window.toNat (4 + cellsI (⟨p_w, p_wn, p_fu, ⟨p_r0, p_r1, p_r2, p_r3⟩, p_ms, p_ls, p_is⟩ : Prog).mems).toNat))) []) :=
  Says.flat (raw_boun_Confs S dp (⟨p_w, p_wn, p_fu, ⟨p_r0, p_r1, p_r2, p_r3⟩, p_ms, p_ls, p_is⟩ : Prog) hw hL hM) (np S 15 (by decide)) (rfl) A nb us
theorem raw_auguryref19_Confs (dp : Nat) (p : Prog) (hw : 1 ≤ p.window ∧ p.window ≤ 6) (hL : p.ins.length < 1000) (hM : p.mems.length < 1000) (hr : ∀ m ∈ p.mems, 0 ≤ m.n ∧ m.n ≤ 16) : Says E fn (dp + 6) 19 [progD p] (u6 (Bo.confsR (Md.size p.w).toNat ((p.ins.length : Int) + 2).toNat (p.window + 1).toNat p.window.toNat (4 + cellsI p.mems).toNat)) := by
  unfold Says
  show ansOf (evC E fn (dp + 5 + 1) 19 [.d (progD p)] []) = _
  rw [evC_succ, S.f_auguryref19_Confs, apF_some, F_auguryref19_Confs, mkF_run _ _ _ _ _ _ _ _ rfl]
  have hl := hL
  have hm : p.mems.length < 1073741824 := by omega
  have hz := hs_size p.w
  have hcc := cellsI_le p.mems
  have hw0 : max p.window 0 = p.window := Int.max_eq_left (by omega)
  have hw1 : IntKind.u64.wrap p.window = p.window := wrap_u64 (by omega) (by omega)
  have hw2 : IntKind.u64.wrap (p.window + 1) = p.window + 1 := wrap_u64 (by omega) (by omega)
  have hw3 : min p.window 64 = p.window := Int.min_eq_left (by omega)
  have hw4 : 0 ≤ p.window + 1 := by omega
  have hw5 : 0 ≤ p.window := by omega
  have hw6 : p.window < 4611686018427387904 := by omega
  have hw7 : IntKind.i64.wrap (p.window + 1) = p.window + 1 := wrap_i64 (by omega) (by omega)
  have hw8 : IntKind.i64.wrap ((p.ins.length : Int) + 2) = (p.ins.length : Int) + 2 := wrap_i64 (by omega) (by omega)
  have hs0 : 0 ≤ Md.size p.w := hz.1
  have hs1 : IntKind.u64.wrap (Md.size p.w) = Md.size p.w := wrap_u64 (by omega) (by omega)
  have hk0 : 0 ≤ (p.ins.length : Int) + 2 := by omega
  have hk1 : IntKind.u64.wrap (p.ins.length : Int) = (p.ins.length : Int) := wrap_u64 (by omega) (by omega)
  have hk2 : IntKind.u64.wrap ((p.ins.length : Int) + 2) = (p.ins.length : Int) + 2 := wrap_u64 (by omega) (by omega)
  have hc1 : IntKind.i64.wrap (4 + cellsI p.mems) = 4 + cellsI p.mems := wrap_i64 (by omega) (by omega)
  have hc0 : 0 ≤ 4 + cellsI p.mems := by omega
  have hc2 : 4 + cellsI p.mems < 4611686018427387904 := by omega
  have hr' : (∀ m ∈ p.mems, 0 ≤ m.n ∧ m.n ≤ 16) = True := eq_true hr
  simp only [endN_gen, go_sem, Nat.reduceLT, Nat.reduceEqDiff, Nat.reduceAdd, Nat.reduceMul, Nat.reduceLeDiff, thq S, nbr S, TH, f_reach, Bool.beq_eq_decide_eq, bne, decide_true, decide_false, Int.reduceEq, Int.reduceLT, Int.reduceLE, Int.reduceNeg, reduceCtorEq, List.mem_cons, List.not_mem_nil, or_false, false_or, or_true, true_or, Nat.not_lt_zero, Bool.true_and, Bool.false_and, Bool.and_true, Bool.and_false, Bool.or_true, Bool.or_false, Bool.true_or, Bool.false_or, hw0, hw1, hw2, hs0, hs1, hk1, hk2, hk0, hc1, hc0, hc2, hw3, hw4, hw5, hw6, hw7, hw8, c_word_Size S, c_auguryref1_Size S, c_boun_power S, c_boun_times S, c_arch_Cells S, c_auguryref19_mul S, c_auguryref19_pow S, c_auguryref7_Cells S, hl, hm, Int.natCast_nonneg, Int.toNat_natCast, Int.reduceToNat, u_sat, u_sat1, ge_iff_le, hr, Int.cast_ofNat_Int, Bo.confsR, hr']
theorem c_auguryref19_Confs (dp : Nat) (p_w : Int) (p_wn : Int) (p_fu : Int) (p_r0 : Int) (p_r1 : Int) (p_r2 : Int) (p_r3 : Int) (p_ms : List MemT) (p_ls : List Label) (p_is : List Ins) (hw : 1 ≤ (⟨p_w, p_wn, p_fu, ⟨p_r0, p_r1, p_r2, p_r3⟩, p_ms, p_ls, p_is⟩ : Prog).window ∧ (⟨p_w, p_wn, p_fu, ⟨p_r0, p_r1, p_r2, p_r3⟩, p_ms, p_ls, p_is⟩ : Prog).window ≤ 6) (hL : (⟨p_w, p_wn, p_fu, ⟨p_r0, p_r1, p_r2, p_r3⟩, p_ms, p_ls, p_is⟩ : Prog).ins.length < 1000) (hM : (⟨p_w, p_wn, p_fu, ⟨p_r0, p_r1, p_r2, p_r3⟩, p_ms, p_ls, p_is⟩ : Prog).mems.length < 1000) (hr : ∀ m ∈ (⟨p_w, p_wn, p_fu, ⟨p_r0, p_r1, p_r2, p_r3⟩, p_ms, p_ls, p_is⟩ : Prog).mems, 0 ≤ m.n ∧ m.n ≤ 16) (A : List Blk) (nb : Nat) (us : List Nat) : evOwnK false E (evC E fn (dp + 6)) 19 A nb (some ([.agg [vi p_w, vi p_wn, vi p_fu, vi p_r0, vi p_r1, vi p_r2, vi p_r3, rowD p_ms, rowD p_ls, rowD p_is]], us)) = some (.made (.d (u6 (Bo.confsR (Md.size (⟨p_w, p_wn, p_fu, ⟨p_r0, p_r1, p_r2, p_r3⟩, p_ms, p_ls, p_is⟩ : Prog).w).toNat (((⟨p_w, p_wn, p_fu, ⟨p_r0, p_r1, p_r2, p_r3⟩, p_ms, p_ls, p_is⟩ : Prog).ins.length : Int) + 2).toNat ((⟨p_w, p_wn, p_fu, ⟨p_r0, p_r1, p_r2, p_r3⟩, p_ms, p_ls, p_is⟩ : Prog).window + 1).toNat (⟨p_w, p_wn, p_fu, ⟨p_r0, p_r1, p_r2, p_r3⟩, p_ms, p_ls, p_is⟩ : Prog).window.toNat (4 + cellsI (⟨p_w, p_wn, p_fu, ⟨p_r0, p_r1, p_r2, p_r3⟩, p_ms, p_ls, p_is⟩ : Prog).mems).toNat))) []) :=
  Says.flat (raw_auguryref19_Confs S dp (⟨p_w, p_wn, p_fu, ⟨p_r0, p_r1, p_r2, p_r3⟩, p_ms, p_ls, p_is⟩ : Prog) hw hL hM hr) (np S 19 (by decide)) (rfl) A nb us
theorem raw_boun_Pairs (dp : Nat) (p : Prog) (hw : 1 ≤ p.window ∧ p.window ≤ 6) (hL : p.ins.length < 1000) (hM : p.mems.length < 1000) : Says E fn (dp + 7) 20 [progD p] (u6 (Bo.sat (Bo.confs (Md.size p.w).toNat ((p.ins.length : Int) + 2).toNat (p.window + 1).toNat p.window.toNat (4 + cellsI p.mems).toNat * Bo.confs (Md.size p.w).toNat ((p.ins.length : Int) + 2).toNat (p.window + 1).toNat p.window.toNat (4 + cellsI p.mems).toNat))) := by
  unfold Says
  show ansOf (evC E fn (dp + 6 + 1) 20 [.d (progD p)] []) = _
  rw [evC_succ, S.f_boun_Pairs, apF_some, F_boun_Pairs, mkF_run _ _ _ _ _ _ _ _ rfl]
  have hw1 := hw.1
  have hw2 := hw.2
  simp only [endN_gen, go_sem, Nat.reduceLT, Nat.reduceEqDiff, Nat.reduceAdd, Nat.reduceMul, Nat.reduceLeDiff, thq S, nbr S, TH, f_reach, Bool.beq_eq_decide_eq, bne, decide_true, decide_false, Int.reduceEq, Int.reduceLT, Int.reduceLE, Int.reduceNeg, reduceCtorEq, List.mem_cons, List.not_mem_nil, or_false, false_or, or_true, true_or, Nat.not_lt_zero, Bool.true_and, Bool.false_and, Bool.and_true, Bool.and_false, Bool.or_true, Bool.or_false, Bool.true_or, Bool.false_or, c_boun_Confs S, hw1, hw2, hL, hM, and_self, c_boun_times S, Int.natCast_nonneg, Int.toNat_natCast]
theorem c_boun_Pairs (dp : Nat) (p_w : Int) (p_wn : Int) (p_fu : Int) (p_r0 : Int) (p_r1 : Int) (p_r2 : Int) (p_r3 : Int) (p_ms : List MemT) (p_ls : List Label) (p_is : List Ins) (hw : 1 ≤ (⟨p_w, p_wn, p_fu, ⟨p_r0, p_r1, p_r2, p_r3⟩, p_ms, p_ls, p_is⟩ : Prog).window ∧ (⟨p_w, p_wn, p_fu, ⟨p_r0, p_r1, p_r2, p_r3⟩, p_ms, p_ls, p_is⟩ : Prog).window ≤ 6) (hL : (⟨p_w, p_wn, p_fu, ⟨p_r0, p_r1, p_r2, p_r3⟩, p_ms, p_ls, p_is⟩ : Prog).ins.length < 1000) (hM : (⟨p_w, p_wn, p_fu, ⟨p_r0, p_r1, p_r2, p_r3⟩, p_ms, p_ls, p_is⟩ : Prog).mems.length < 1000) (A : List Blk) (nb : Nat) (us : List Nat) : evOwnK false E (evC E fn (dp + 7)) 20 A nb (some ([.agg [vi p_w, vi p_wn, vi p_fu, vi p_r0, vi p_r1, vi p_r2, vi p_r3, rowD p_ms, rowD p_ls, rowD p_is]], us)) = some (.made (.d (u6 (Bo.sat (Bo.confs (Md.size (⟨p_w, p_wn, p_fu, ⟨p_r0, p_r1, p_r2, p_r3⟩, p_ms, p_ls, p_is⟩ : Prog).w).toNat (((⟨p_w, p_wn, p_fu, ⟨p_r0, p_r1, p_r2, p_r3⟩, p_ms, p_ls, p_is⟩ : Prog).ins.length : Int) + 2).toNat ((⟨p_w, p_wn, p_fu, ⟨p_r0, p_r1, p_r2, p_r3⟩, p_ms, p_ls, p_is⟩ : Prog).window + 1).toNat (⟨p_w, p_wn, p_fu, ⟨p_r0, p_r1, p_r2, p_r3⟩, p_ms, p_ls, p_is⟩ : Prog).window.toNat (4 + cellsI (⟨p_w, p_wn, p_fu, ⟨p_r0, p_r1, p_r2, p_r3⟩, p_ms, p_ls, p_is⟩ : Prog).mems).toNat * Bo.confs (Md.size (⟨p_w, p_wn, p_fu, ⟨p_r0, p_r1, p_r2, p_r3⟩, p_ms, p_ls, p_is⟩ : Prog).w).toNat (((⟨p_w, p_wn, p_fu, ⟨p_r0, p_r1, p_r2, p_r3⟩, p_ms, p_ls, p_is⟩ : Prog).ins.length : Int) + 2).toNat ((⟨p_w, p_wn, p_fu, ⟨p_r0, p_r1, p_r2, p_r3⟩, p_ms, p_ls, p_is⟩ : Prog).window + 1).toNat (⟨p_w, p_wn, p_fu, ⟨p_r0, p_r1, p_r2, p_r3⟩, p_ms, p_ls, p_is⟩ : Prog).window.toNat (4 + cellsI (⟨p_w, p_wn, p_fu, ⟨p_r0, p_r1, p_r2, p_r3⟩, p_ms, p_ls, p_is⟩ : Prog).mems).toNat)))) []) :=
  Says.flat (raw_boun_Pairs S dp (⟨p_w, p_wn, p_fu, ⟨p_r0, p_r1, p_r2, p_r3⟩, p_ms, p_ls, p_is⟩ : Prog) hw hL hM) (np S 20 (by decide)) (rfl) A nb us
end
end Go.Aug.Mc


