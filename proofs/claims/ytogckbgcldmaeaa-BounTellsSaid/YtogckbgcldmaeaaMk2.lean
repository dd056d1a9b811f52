/- Programs of numbers: what the functions answer. -/
import Derived.Test.YtogckbgcldmaeaaMc2
import Derived.Test.YtogckbgcldmaeaaWi
namespace Go.Aug.Mc
open Go Go.Aug
set_option linter.unusedSimpArgs false
set_option linter.unusedVariables false
set_option maxHeartbeats 40000000
theorem sh_i (x : Int) (n : Nat) (h : n ≤ 63) : evBin .shr (.d (.v (.int .i64 x))) (.d (.v (.int .u64 (n : Int)))) = some (aint (Md.shi x n)) := by
  rw [b_shr _ _ _ _ (Int.natCast_nonneg n), Int.toNat_natCast, Nat.min_eq_left (by show n ≤ 64; omega)]; rfl
theorem sh1 (x : Int) : evBin .shr (.d (.v (.int .i64 x))) (.d (.v (.int .u64 1))) = some (aint (Md.shi x 1)) := sh_i x 1 (by decide)
theorem sh8 (x : Int) : evBin .shr (.d (.v (.int .i64 x))) (.d (.v (.int .u64 8))) = some (aint (Md.shi x 8)) := sh_i x 8 (by decide)
theorem sh10 (x : Int) : evBin .shr (.d (.v (.int .i64 x))) (.d (.v (.int .u64 10))) = some (aint (Md.shi x 10)) := sh_i x 10 (by decide)
theorem sh11 (x : Int) : evBin .shr (.d (.v (.int .i64 x))) (.d (.v (.int .u64 11))) = some (aint (Md.shi x 11)) := sh_i x 11 (by decide)
theorem sh12 (x : Int) : evBin .shr (.d (.v (.int .i64 x))) (.d (.v (.int .u64 12))) = some (aint (Md.shi x 12)) := sh_i x 12 (by decide)
theorem sh14 (x : Int) : evBin .shr (.d (.v (.int .i64 x))) (.d (.v (.int .u64 14))) = some (aint (Md.shi x 14)) := sh_i x 14 (by decide)
theorem sh16 (x : Int) : evBin .shr (.d (.v (.int .i64 x))) (.d (.v (.int .u64 16))) = some (aint (Md.shi x 16)) := sh_i x 16 (by decide)
theorem sh18 (x : Int) : evBin .shr (.d (.v (.int .i64 x))) (.d (.v (.int .u64 18))) = some (aint (Md.shi x 18)) := sh_i x 18 (by decide)
/-- The remainder of the lowest byte. -/
theorem lm (x : Int) (n : Nat) (h : 0 < n) : evBin .rem (aint (Md.iand x 255)) (aint (n : Int)) = some (aint (Md.lowmod x n : Nat)) := by
  rw [b_rem _ _ _ (by omega), Md.lowmod_eq]
theorem lm18 (x : Int) : evBin .rem (aint (Md.iand x 255)) (aint 18) = some (aint (Md.lowmod x 18 : Nat)) := lm x 18 (by decide)
theorem lm10 (x : Int) : evBin .rem (aint (Md.iand x 255)) (aint 10) = some (aint (Md.lowmod x 10 : Nat)) := lm x 10 (by decide)
theorem lm3 (x : Int) : evBin .rem (aint (Md.iand x 255)) (aint 3) = some (aint (Md.lowmod x 3 : Nat)) := lm x 3 (by decide)
/-- A row of numbers that is written out, looked at. -/
theorem ix_lit {l : List Int} {i : Nat} (h : i < l.length) (n : Nat) (hn : n = l.length) (cs : List DV) (hc : cs = rowC l) : evIxS (.d (.lst cs n (some n))) (aint (i : Int)) 1 = some (.d (.vptr (vi (l.getD i 0) :: rowC (l.drop (i + 1))))) := by
  subst hn hc
  have := ix_row h (s := 1) rfl (some l.length) .i64
  rw [List.getD_eq_getElem?_getD, List.getElem?_eq_getElem h]
  exact this
theorem ix18 (x : Int) : evIxS (.d (.lst [vi 1, vi 1, vi 2, vi 2, vi 2, vi 3, vi 3, vi 4, vi 5, vi 5, vi 5, vi 6, vi 7, vi 8, vi 9, vi 10, vi 11, vi 1] 18 (some 18))) (aint (Md.lowmod x 18 : Nat)) 1 = some (.d (.vptr (vi (Md.k18.getD (Md.lowmod x 18) 0) :: rowC (Md.k18.drop (Md.lowmod x 18 + 1))))) :=
  ix_lit (l := Md.k18) (Md.lowmod_lt x (by decide)) 18 rfl _ rfl
theorem ix4o (x : Int) : evIxS (.d (.lst [vi 9, vi 10, vi 3, vi 2] 4 (some 4))) (aint (Md.iand x 3)) 1 = some (.d (.vptr (vi (Md.o4.getD (Md.iand x 3).toNat 0) :: rowC (Md.o4.drop ((Md.iand x 3).toNat + 1))))) := by
  obtain ⟨r, hr, h⟩ := Md.iand3 x
  rw [h, Int.toNat_natCast]
  exact ix_lit (l := Md.o4) hr 4 rfl _ rfl
theorem w10 (x : Int) : IntKind.i64.wrap ((Md.lowmod x 10 : Nat) + 1) = (Md.lowmod x 10 : Nat) + 1 := by
  have := Md.lowmod_lt x (show 0 < 10 by decide)
  exact wrap_i64 (by omega) (by omega)
theorem lmN (x : Int) (n : Nat) : evBin .rem (aint (Md.iand x 255)) (aint ((n : Int) + 1)) = some (aint (Md.lowmod x (n + 1) : Nat)) := by
  have := lm x (n + 1) (by omega)
  rw [Int.natCast_add] at this
  exact this
theorem d_endD (ps : List (Opd × Opd)) (k : K) (tm : List AV) (A : List Blk) : endD ps k tm A = bif refsNe tm ps then k tm A else none := id rfl
theorem d_ne0 (tm : List AV) : refsNe tm [] = true := id rfl
theorem d_ne1 (tm : List AV) (a b : Opd) (l : List (Opd × Opd)) : refsNe tm ((a, b) :: l) = (refNe (look tm a) (look tm b) && refsNe tm l) := id rfl
theorem d_ne2 (i v o j w q : Nat) : refNe (.ref i v o) (.ref j w q) = !decide (i = j) := by
  show (!Nat.beq i j) = _
  by_cases h : i = j
  · subst h
    have : Nat.beq i i = true := Nat.beq_refl i
    rw [this]; simp
  · have : Nat.beq i j = false := by
      cases hb : Nat.beq i j with
      | false => rfl
      | true => exact absurd (Nat.eq_of_beq_eq_true hb) h
    rw [this, decide_eq_false h]
variable {E : Env} {fn : FuncId → Option (Env → CallT → CallT)}
section
variable (S : Sur E fn)
include S
theorem raw_augurylaw6_val (dp : Nat) (n : Int) : Says E fn (dp + 1) 97 [vi n] (.agg (Cl.cells (Md.valN n))) := by
  unfold Says
  show ansOf (evC E fn (dp + 1) 97 [.d (vi n)] []) = _
  rw [evC_succ, S.f_augurylaw6_val, apF_some, F_augurylaw6_val, mkF_run _ _ _ _ _ _ _ _ rfl]
  by_cases h : Md.iand n 4 = 0
  · simp only [endN_gen, go_sem, Nat.reduceLT, Nat.reduceEqDiff, Nat.reduceAdd, Nat.reduceMul, Nat.reduceLeDiff, thq S, nbr S, TH, f_reach, Bool.beq_eq_decide_eq, bne, decide_true, decide_false, Int.reduceEq, Int.reduceLT, Int.reduceLE, Int.reduceNeg, reduceCtorEq, List.mem_cons, List.not_mem_nil, or_false, false_or, or_true, true_or, Nat.not_lt_zero, Bool.true_and, Bool.false_and, Bool.and_true, Bool.and_false, Bool.or_true, Bool.or_false, Bool.true_or, Bool.false_or, off S 97 7 (by decide) rfl, b_iand, h, Md.valN]
  · simp only [endN_gen, go_sem, Nat.reduceLT, Nat.reduceEqDiff, Nat.reduceAdd, Nat.reduceMul, Nat.reduceLeDiff, thq S, nbr S, TH, f_reach, Bool.beq_eq_decide_eq, bne, decide_true, decide_false, Int.reduceEq, Int.reduceLT, Int.reduceLE, Int.reduceNeg, reduceCtorEq, List.mem_cons, List.not_mem_nil, or_false, false_or, or_true, true_or, Nat.not_lt_zero, Bool.true_and, Bool.false_and, Bool.and_true, Bool.and_false, Bool.or_true, Bool.or_false, Bool.true_or, Bool.false_or, off S 97 7 (by decide) rfl, b_iand, h, Md.valN]
theorem c_augurylaw6_val (dp : Nat) (n : Int) (A : List Blk) (nb : Nat) (us : List Nat) : evOwnK false E (evC E fn (dp + 1)) 97 A nb (some ([vi n], us)) = some (.made (.d (.agg (Cl.cells (Md.valN n)))) []) :=
  Says.flat (raw_augurylaw6_val S dp n ) (np S 97 (by decide)) (rfl) A nb us
theorem raw_augurylaw6_Make_1 (dp : Nat) (i : Int) (l : List Int) (h0 : 0 ≤ i) : Says E fn (dp + 1) 47 [vi i, .vptr [rowD l]] (vi (Md.kM l i)) := by
  unfold Says
  show ansOf (evC E fn (dp + 1) 47 [.d (vi i), .d (.vptr [rowD l])] []) = _
  rw [evC_succ, S.f_augurylaw6_Make_1, apF_some, F_augurylaw6_Make_1, mkF_run _ _ _ _ _ _ _ _ rfl]
  by_cases h : i < l.length
  · obtain ⟨e, he⟩ := get_of (show i.toNat < l.length by omega)
    simp only [endN_gen, go_sem, Nat.reduceLT, Nat.reduceEqDiff, Nat.reduceAdd, Nat.reduceMul, Nat.reduceLeDiff, thq S, nbr S, TH, f_reach, Bool.beq_eq_decide_eq, bne, decide_true, decide_false, Int.reduceEq, Int.reduceLT, Int.reduceLE, Int.reduceNeg, reduceCtorEq, List.mem_cons, List.not_mem_nil, or_false, false_or, or_true, true_or, Nat.not_lt_zero, Bool.true_and, Bool.false_and, Bool.and_true, Bool.and_false, Bool.or_true, Bool.or_false, Bool.true_or, Bool.false_or, off S 47 7 (by decide) rfl, h, w_ixI h0 he, he, Option.getD_some, Md.kM]
  · simp only [endN_gen, go_sem, Nat.reduceLT, Nat.reduceEqDiff, Nat.reduceAdd, Nat.reduceMul, Nat.reduceLeDiff, thq S, nbr S, TH, f_reach, Bool.beq_eq_decide_eq, bne, decide_true, decide_false, Int.reduceEq, Int.reduceLT, Int.reduceLE, Int.reduceNeg, reduceCtorEq, List.mem_cons, List.not_mem_nil, or_false, false_or, or_true, true_or, Nat.not_lt_zero, Bool.true_and, Bool.false_and, Bool.and_true, Bool.and_false, Bool.or_true, Bool.or_false, Bool.true_or, Bool.false_or, off S 47 7 (by decide) rfl, h, Md.kM, List.getElem?_eq_none (show l.length ≤ i.toNat by omega), Option.getD_none]
theorem c_augurylaw6_Make_1 (dp : Nat) (i : Int) (l : List Int) (h0 : 0 ≤ i) (A : List Blk) (nb : Nat) (us : List Nat) : evOwnK false E (evC E fn (dp + 1)) 47 A nb (some ([vi i, .vptr [rowD l]], us)) = some (.made (.d (vi (Md.kM l i))) []) :=
  Says.flat (raw_augurylaw6_Make_1 S dp i l h0) (np S 47 (by decide)) (rfl) A nb us
theorem raw_augurylaw6_ins (dp : Nat) (x : Int) (n : Nat) (hn : n < 1000) : Says E fn (dp + 2) 49 [vi x, vi (n : Nat)] (.agg (Cl.cells (Md.insN x n))) := by
  unfold Says
  show ansOf (evC E fn (dp + 1 + 1) 49 [.d (vi x), .d (vi (n : Nat))] []) = _
  rw [evC_succ, S.f_augurylaw6_ins, apF_some, F_augurylaw6_ins, mkF_run _ _ _ _ _ _ _ _ rfl]
  have hw : IntKind.i64.wrap ((n : Int) + 1) = (n : Int) + 1 := wrap_i64 (by omega) (by omega)
  have hi : Md.insN x n = Md.insN x n := rfl
  unfold Md.insN
  have r18 : ∀ {α : Type} (l : List α), rep l 18 = l ++ (l ++ (l ++ (l ++ (l ++ (l ++ (l ++ (l ++ (l ++ (l ++ (l ++ (l ++ (l ++ (l ++ (l ++ (l ++ (l ++ l)))))))))))))))) := fun l => by simp [rep]
  have r4 : ∀ {α : Type} (l : List α), rep l 4 = l ++ (l ++ (l ++ l)) := fun l => by simp [rep]
  simp only [endN_gen, go_sem, Nat.reduceLT, Nat.reduceEqDiff, Nat.reduceAdd, Nat.reduceMul, Nat.reduceLeDiff, thq S, nbr S, TH, f_reach, Bool.beq_eq_decide_eq, bne, decide_true, decide_false, Int.reduceEq, Int.reduceLT, Int.reduceLE, Int.reduceNeg, reduceCtorEq, List.mem_cons, List.not_mem_nil, or_false, false_or, or_true, true_or, Nat.not_lt_zero, Bool.true_and, Bool.false_and, Bool.and_true, Bool.and_false, Bool.or_true, Bool.or_false, Bool.true_or, Bool.false_or, off S 49 13 (by decide) rfl, off S 49 17 (by decide) rfl, off S 49 19 (by decide) rfl, off S 49 21 (by decide) rfl, off S 49 25 (by decide) rfl, off S 49 29 (by decide) rfl, off S 49 31 (by decide) rfl, off S 49 35 (by decide) rfl, sh8, sh11, sh14, sh16, sh18, b_iand, lm18, lm10, lmN, ix18, ix4o, hw, w10, c_augurylaw6_val S, r18, r4, d_endD, d_ne0, d_ne1, d_ne2, Md.v0]
  generalize Md.k18.getD (Md.lowmod x 18) 0 = k
  by_cases k1 : k = 1
  · simp only [k1, decide_true, cond_true, if_true]
  by_cases k2 : k = 2
  · simp only [k2, decide_true, decide_false, cond_true, cond_false, if_true, if_false, Int.reduceEq, true_or, or_true]
  by_cases k3 : k = 3
  · simp only [k3, decide_true, decide_false, cond_true, cond_false, if_true, if_false, Int.reduceEq, true_or, or_true]
  by_cases k4 : k = 4
  · simp only [k4, decide_true, decide_false, cond_true, cond_false, if_true, if_false, Int.reduceEq, true_or, or_true, or_false]
  by_cases k5 : k = 5
  · simp only [k5, decide_true, decide_false, cond_true, cond_false, if_true, if_false, Int.reduceEq, true_or, or_true, or_false]
  by_cases k6 : k = 6
  · simp only [k6, decide_true, decide_false, cond_true, cond_false, if_true, if_false, Int.reduceEq, true_or, or_true, or_false]
  by_cases k8 : k = 8
  · simp only [k8, decide_true, decide_false, cond_true, cond_false, if_true, if_false, Int.reduceEq, true_or, or_true, or_false]
  by_cases k7 : k = 7
  · simp only [k7, decide_true, decide_false, cond_true, cond_false, if_true, if_false, Int.reduceEq, true_or, or_true, or_false]
  simp only [k1, k2, k3, k4, k5, k6, k7, k8, decide_false, cond_false, if_false, or_false]
theorem c_augurylaw6_ins (dp : Nat) (x : Int) (n : Nat) (hn : n < 1000) (A : List Blk) (nb : Nat) (us : List Nat) : evOwnK false E (evC E fn (dp + 2)) 49 A nb (some ([vi x, vi (n : Nat)], us)) = some (.made (.d (.agg (Cl.cells (Md.insN x n)))) []) :=
  Says.flat (raw_augurylaw6_ins S dp x n hn) (np S 49 (by decide)) (rfl) A nb us
end
end Go.Aug.Mc


/- A number's digits: what the function answers, of one digit. -/
namespace Go.Aug.Mc
open Go Go.Aug
set_option linter.unusedSimpArgs false
set_option linter.unusedVariables false
set_option maxHeartbeats 40000000
def dig (n : Nat) : ByteArray := ⟨#[(48 + n).toUInt8]⟩
theorem o_text (r : Bool) (x : Opd) (E : Env) (call : CallT) (tm : List AV) (A : List Blk) (nb : Nat) : oText r x E call tm A nb = one? (evText A r (look tm x)) := id rfl
theorem t_cat (a b : ByteArray) (h : a.size + b.size ≤ 1099511627776) : evBin .add (.d (vt a)) (.d (vt b)) = some (.d (vt (a ++ b))) := by
  show (evStr .add a b).map _ = _
  simp [evStr, h]
theorem dg (z : Int) : bytesText [z] ++ (⟨#[]⟩ : ByteArray) = ⟨#[UInt8.ofNat z.toNat]⟩ := by
  have : (⟨#[]⟩ : ByteArray) = ByteArray.empty := rfl
  rw [this, ByteArray.append_empty]
  rfl
theorem t_dig (z : Int) : evBin .add (.d (vt (bytesText [z]))) (.d (vt ⟨#[]⟩)) = some (.d (vt ⟨#[UInt8.ofNat z.toNat]⟩)) := by
  rw [t_cat _ _ (by rw [← ByteArray.size_append, dg]; show (1 : Nat) ≤ _; decide), dg]
theorem t_ne (z : UInt8) : evBin .eql (.d (vt ⟨#[z]⟩)) (.d (vt ⟨#[]⟩)) = some (abool false) := by
  simp [evBin, evStr]
theorem q_B10_auguryref4_Digits (E : Env) (call : CallT) (kn : K) (kx : Nat → K) (kr : K) (tm : List AV) (A : List Blk) : B10_auguryref4_Digits E call kn kx kr tm A = (cSeq (cSeq (cOps [st 6 (oMov (.t 0)), st 7 (oBin .gtr (.t 6) (ci 0)), st 8 (oMov (.t 7)), sg 9 8 false (oMov (.t 3)), sg 10 8 false (oBin .eql (.t 9) (.c (.v (.string ⟨#[]⟩)))), st 11 (oPick (.t 8) (.c (.v (.bool true))) (.t 10))]) (cCond 1 (.t 11) (cSkip) (cExit 0))) (cBlock 1 (cSeq (cOps [st 12 (oMov (.t 0)), st 13 (oBin .rem (.t 12) (ci 10)), st 14 (oBin .add (ci 48) (.t 13)), st 15 (oCint .u8 (.t 14)), st 16 (oMkS (rep [.d (.v (.int .u8 0))] 1) 1 1 [(0, 1, (.t 15))]), st 17 (oText false (.t 16)), st 18 (oMov (.t 3)), st 19 (oBin .add (.t 17) (.t 18)), st 3 (oMov (.t 19))]) (cOps [st 20 (oMov (.t 0)), st 21 (oBin .quo (.t 20) (ci 10)), st 0 (oMov (.t 21))])))) E call kn kx kr tm A := id rfl
variable {E : Env} {fn : FuncId → Option (Env → CallT → CallT)}
section
variable (S : Sur E fn)
include S
theorem raw_auguryref4_Digits (dp : Nat) (n : Int) (hn : 0 ≤ n ∧ n < 6) : Says E fn (dp + 1) 48 [vi n] (vt (dig n.toNat)) := by
  unfold Says
  show ansOf (evC E fn (dp + 1) 48 [.d (vi n)] []) = _
  rw [evC_succ, S.f_auguryref4_Digits, apF_some, F_auguryref4_Digits, mkF_run _ _ _ _ _ _ _ _ rfl]
  have hloop : ∀ kx kr m d T A, loopK 10 B10_auguryref4_Digits (inn E 48) (evC E fn dp) kx kr (m + 1) (mk d 23 T) A = nrmTo (B10_auguryref4_Digits (inn E 48) (evC E fn dp) (loopK 10 B10_auguryref4_Digits (inn E 48) (evC E fn dp) kx kr m) kx kr) 23 [0, 3] d T A (reach A 0 100000 ([0, 3].flatMap fun t => refsOf 8 (getS d T t)) []) := fun kx kr m d T A => loop_in (on S _ _ [0, 3] (by decide) rfl) rfl _ _ _ _ _ _ _ _ _ rfl
  have w1 : ∀ z : Int, 0 ≤ z → z < 100 → IntKind.i64.wrap z = z := fun z h1 h2 => wrap_i64 (by omega) (by omega)
  have w2 : ∀ z : Int, 0 ≤ z → z < 100 → IntKind.u8.wrap z = z := fun z h1 h2 => by simp only [IntKind.wrap, IntKind.signed, IntKind.bits]; simp; omega
  have e0 : evBin .eql (.d (vt ⟨#[]⟩)) (.d (vt ⟨#[]⟩)) = some (abool true) := by simp [evBin, evStr]
  rcases (show n = 0 ∨ n = 1 ∨ n = 2 ∨ n = 3 ∨ n = 4 ∨ n = 5 by omega) with rfl | rfl | rfl | rfl | rfl | rfl
  all_goals simp only [endN_gen, go_sem, Nat.reduceLT, Nat.reduceEqDiff, Nat.reduceAdd, Nat.reduceMul, Nat.reduceLeDiff, thq S, nbr S, TH, f_reach, Bool.beq_eq_decide_eq, bne, decide_true, decide_false, Int.reduceEq, Int.reduceLT, Int.reduceLE, Int.reduceNeg, reduceCtorEq, List.mem_cons, List.not_mem_nil, or_false, false_or, or_true, true_or, Nat.not_lt_zero, Bool.true_and, Bool.false_and, Bool.and_true, Bool.and_false, Bool.or_true, Bool.or_false, Bool.true_or, Bool.false_or, off S 48 1 (by decide) rfl, off S 48 7 (by decide) rfl, hloop, q_B10_auguryref4_Digits, ne_eq, not_false_eq_true, e0, gt_iff_lt, Int.reduceTMod, Int.reduceTDiv, Int.reduceMod, Int.reduceAdd, w1, w2, o_text, evText, readSlice, cellsAt, List.getElem?_cons_zero, List.take_succ_cons, List.take_zero, List.drop_zero, true_and, Nat.le_refl, and_self, intsOf, t_dig, t_ne, rep1']
  all_goals rfl
theorem c_auguryref4_Digits (dp : Nat) (n : Int) (hn : 0 ≤ n ∧ n < 6) (A : List Blk) (nb : Nat) (us : List Nat) : evOwnK false E (evC E fn (dp + 1)) 48 A nb (some ([vi n], us)) = some (.made (.d (vt (dig n.toNat))) []) :=
  Says.flat (raw_auguryref4_Digits S dp n hn) (np S 48 (by decide)) (rfl) A nb us
end
end Go.Aug.Mc


