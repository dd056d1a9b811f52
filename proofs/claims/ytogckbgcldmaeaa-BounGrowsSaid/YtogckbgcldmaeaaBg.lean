/- Programs of BounGrows: the closure. -/
import Derived.Test.YtogckbgcldmaeaaBn
namespace Go.Aug.Bn
open Go Go.Aug

variable {E : Env} {fn : FuncId → Option (Env → CallT → CallT)}

def halt : Ins := { kind := 10, op := 0, d := 0, a := ⟨false, 0⟩, b := ⟨false, 0⟩, name := ⟨#[]⟩, target := 0 }
def insA (i : Nat) : List AV := (rowC (List.replicate i halt)).map .d
theorem insA_succ (i : Nat) : insA (i + 1) = insA i ++ (Cl.cells halt).map .d := by
  unfold insA
  rw [List.replicate_succ']
  unfold rowC
  rw [List.flatMap_append, List.map_append]
  simp
theorem insA_len (i : Nat) : (insA i).length = i * 9 := by
  unfold insA
  rw [List.length_map, rowC_len, List.length_replicate]; rfl
theorem insA_refs (i : Nat) : (insA i).flatMap (refsOf 8) = [] := refs_map_d _
theorem insA_ren (i : Nat) (A : List Blk) (n0 : Nat) (ids : List Nat) : (insA i).map (ren A n0 ids 8) = insA i := ren_map_d _ _ _ _
theorem app_more (A : List Blk) (s bytes i len : Nat) (cs new : List AV) (v n : Nat) (hA : A[i]? = some (.cells cs v false)) (hs : 0 < s) (hn : n ≠ 0) (hl : cs.length = len * s) (h1 : (len + n) * bytes ≤ limA) (h2 : len + n ≤ limA) (h3 : new.all AV.one = true) :
    evApp A s bytes (.sref i v 0 len s none) new n = some (.turn i (.cells (cs ++ new) (v + 1) false) (.sref i (v + 1) 0 (len + n) s none)) := by
  rw [evApp_sref, if_neg hn, if_neg (by rw [h3]; simp; exact ⟨by omega, by omega⟩), hA]
  have : ¬ (len + n) * s ≤ len * s := by
    have := Nat.mul_lt_mul_of_pos_right (show len < len + n by omega) hs
    omega
  simp [hl, this]

theorem nc_sref (A : List Blk) (s i v o len sz : Nat) (k : Option Nat) : newCells A false s (.sref i v o len sz k) = (cellsAt A i v o).bind fun cs => if s = sz ∧ len * sz ≤ cs.length then some (cs.take (len * sz), len) else none := by
  show (match cellsAt A i v o with | some cs => if s = sz ∧ len * sz ≤ cs.length then some (cs.take (len * sz), len) else none | none => none) = _
  cases cellsAt A i v o <;> rfl
theorem rep1 {α : Type} (l : List α) : rep l 1 = l := by simp [rep]
theorem insA_one (i : Nat) : insA i ++ [.d (.v (.int .i64 10)), zi, zi, zb, zi, zb, zi, zt, zi] = insA (i + 1) := (insA_succ i).symm
theorem app_ins (i v : Nat) (hi : i < 2 ^ 30) (A : List Blk) (hA : A[2]? = some (.cells (insA i) v false)) : evApp A 9 80 (.sref 2 v 0 i 9 none) [.d (.v (.int .i64 10)), zi, zi, zb, zi, zb, zi, zt, zi] 1 = some (.turn 2 (.cells (insA (i + 1)) (v + 1) false) (.sref 2 (v + 1) 0 (i + 1) 9 none)) := by
  rw [app_more A 9 80 2 i (insA i) _ v 1 hA (by decide) (by decide) (insA_len i) (by simp only [limA]; omega) (by simp only [limA]; omega) rfl, insA_one]
abbrev box0 : List AV := [zi, zi, zi, zi, zi, zi, zi, zn, zn, zn]
abbrev box1 (w win : Int) (x : AV) : List AV := [.d (vi w), .d (vi win), .d (vi 1), zi, zi, zi, zi, zn, zn, x]
abbrev heap (w win : Int) (i : Nat) : List Blk := [.cells box0 0 false, .cells (box1 w win (.sref 2 0 0 i 9 none)) 0 false, .cells (insA i) 0 false]
theorem lt_of {A : List Blk} {i : Nat} {b : Blk} (h : A[i]? = some b) : ¬ A.length ≤ i := by
  intro hl
  rw [List.getElem?_eq_none hl] at h
  cases h
theorem heap_reach (w win : Int) (i v j : Nat) (A : List Blk) (hj : 2 ≤ j) (h0 : A[0]? = some (.cells box0 0 false)) (h1 : A[1]? = some (.cells (box1 w win (.sref j v 0 i 9 none)) 0 false)) (h2 : A[j]? = some (.cells (insA i) v false)) : reach A 0 100000 [0, 1] [] = [0, 1, j] := by
  have e0 : j ≠ 0 := by omega
  have e1 : j ≠ 1 := by omega
  have l0 := lt_of h0
  have l1 := lt_of h1
  have l2 := lt_of h2
  simp only [f_reach, f_cells, insA_refs, f_d, f_sref, f_reach0, h0, h1, h2, l0, l1, l2, e0, e1, Nat.not_lt_zero, List.mem_cons, List.not_mem_nil, or_false, false_or, if_false, List.flatMap_cons, List.flatMap_nil, List.append_nil, List.nil_append, List.cons_append, Nat.succ_ne_zero]
abbrev boxm (w win : Int) (q : Nat) (x : AV) : List AV := [.d (vi w), .d (vi win), .d (vi 1), zi, zi, zi, zi, .sref q 0 0 1 3 (some 1), zn, x]
abbrev memA (c : Int) : List AV := [.d (.v (.string ⟨#[109]⟩)), zb, .d (.v (.int .i64 c))]
abbrev heapm (w win c : Int) (i : Nat) : List Blk := [.cells box0 0 false, .cells (boxm w win 2 (.sref 3 0 0 i 9 none)) 0 false, .cells (memA c) 0 false, .cells (insA i) 0 false]
theorem heapm_reach (w win c : Int) (i v q j : Nat) (A : List Blk) (hq : 2 ≤ q) (hj : q < j) (h0 : A[0]? = some (.cells box0 0 false)) (h1 : A[1]? = some (.cells (boxm w win q (.sref j v 0 i 9 none)) 0 false)) (hm : A[q]? = some (.cells (memA c) 0 false)) (h2 : A[j]? = some (.cells (insA i) v false)) : reach A 0 100000 [0, 1] [] = [0, 1, q, j] := by
  have e0 : j ≠ 0 := by omega
  have e1 : j ≠ 1 := by omega
  have e2 : j ≠ q := by omega
  have q0 : q ≠ 0 := by omega
  have q1 : q ≠ 1 := by omega
  have l3 := lt_of hm
  have l0 := lt_of h0
  have l1 := lt_of h1
  have l2 := lt_of h2
  simp only [f_reach, f_cells, insA_refs, f_d, f_sref, f_reach0, h0, h1, h2, hm, l0, l1, l2, l3, e0, e1, e2, q0, q1, Nat.not_lt_zero, List.mem_cons, List.not_mem_nil, or_false, false_or, if_false, List.flatMap_cons, List.flatMap_nil, List.append_nil, List.nil_append, List.cons_append, Nat.succ_ne_zero]
theorem app_ins3 (i v : Nat) (hi : i < 2 ^ 30) (A : List Blk) (hA : A[3]? = some (.cells (insA i) v false)) : evApp A 9 80 (.sref 3 v 0 i 9 none) [.d (.v (.int .i64 10)), zi, zi, zb, zi, zb, zi, zt, zi] 1 = some (.turn 3 (.cells (insA (i + 1)) (v + 1) false) (.sref 3 (v + 1) 0 (i + 1) 9 none)) := by
  rw [app_more A 9 80 3 i (insA i) _ v 1 hA (by decide) (by decide) (insA_len i) (by simp only [limA]; omega) (by simp only [limA]; omega) rfl, insA_one]
theorem app_nil (A : List Blk) : evApp A 9 80 (.d (.lst [] 0 (some 0))) [.d (.v (.int .i64 10)), zi, zi, zb, zi, zb, zi, zt, zi] 1 = some (.fresh (insA 1) 1) := id rfl
theorem big_succ : (1000000000000000000000000000000 : Nat) = 999999999999999999999999999999 + 1 := rfl
theorem endN_gen (x : AV) (A : List Blk) : endN 0 (some (x, A)) = some (ren A 0 (reach A 0 100000 (refsOf 8 x) []) 8 x, renH A 0 (reach A 0 100000 (refsOf 8 x) [])) := by
  show some (ren A 0 (reach A 0 100000 (refsOf 8 x ++ []) []) 8 x, renH A 0 (reach A 0 100000 (refsOf 8 x ++ []) [])) = _
  rw [List.append_nil]
theorem reach23 (c : Int) (m : Nat) (A : List Blk) (h2 : A[2]? = some (.cells (memA c) 0 false)) (h3 : A[3]? = some (.cells (insA m) 0 false)) : reach A 0 100000 [2, 3] [] = [2, 3] := by
  have l2 := lt_of h2
  have l3 := lt_of h3
  simp only [f_reach, f_cells, insA_refs, f_d, f_sref, f_reach0, Nat.not_lt_zero, List.mem_cons, List.not_mem_nil, or_false, false_or, if_false, List.flatMap_cons, List.flatMap_nil, List.append_nil, List.nil_append, List.cons_append, Nat.succ_ne_zero, Nat.reduceEqDiff, h2, h3, l2, l3]
theorem reach2 (m : Nat) (A : List Blk) (h2 : A[2]? = some (.cells (insA m) 0 false)) : reach A 0 100000 [2] [] = [2] := by
  have l2 := lt_of h2
  simp only [f_reach, f_cells, insA_refs, f_d, f_sref, f_reach0, Nat.not_lt_zero, List.mem_cons, List.not_mem_nil, or_false, false_or, if_false, List.flatMap_cons, List.flatMap_nil, List.append_nil, List.nil_append, List.cons_append, Nat.succ_ne_zero, Nat.reduceEqDiff, h2, l2]
theorem mapD_d (A : List Blk) (n : Nat) : ∀ cs : List DV, mapD (deep A (n + 1)) (cs.map .d) = some (cs, [])
  | [] => rfl
  | x :: cs => by
    rw [List.map_cons, mapD_cons, mapD_d A n cs, deep_d]; rfl
theorem deep_sref (A : List Blk) (n i v len sz : Nat) (k : Option Nat) (cs : List DV) (ro : Bool) (hA : A[i]? = some (.cells (cs.map .d) v ro)) (hl : cs.length = len * sz) (h0 : len ≠ 0) : deep A (n + 2) (.sref i v 0 len sz k) = some (.lst cs len k, [i]) := by
  have hc : cellsAt A i v 0 = some (cs.map .d) := by simp [cellsAt, hA]
  have ht : (cs.map AV.d).take (len * sz) = cs.map .d := List.take_of_length_le (by simp [hl])
  unfold deep
  simp only [h0, if_false, hc, List.length_map, hl, Nat.le_refl, if_true]
  rw [← hl, List.take_of_length_le (by simp), mapD_d]
  rfl
section
variable (S : Sur E fn)
include S
theorem loop_mk0 (n : Nat) (w win : Int) (m : Nat) (hm : m < 2 ^ 20) (kr : K) (kx : Nat → K) : ∀ (fuel i v j : Nat) (d : AV) (T : List (Nat × AV)) (A : List Blk), i + 1 ≤ m → m - i < fuel → getS d T 3 = aint m → getS d T 8 = .ref 0 0 0 → getS d T 9 = .ref 1 0 0 → getS d T 10 = aint ((i + 1 : Nat) : Int) →
    2 ≤ j → A[0]? = some (.cells box0 0 false) → A[1]? = some (.cells (box1 w win (.sref j v 0 (i + 1) 9 none)) 0 false) → A[j]? = some (.cells (insA (i + 1)) v false) →
    loopK 12 B12_augurylaw24_BounGrows_1 { br := E.br, th := E.th, prim := E.prim, back := E.back, lives := E.lives, live := E.lives 14, nb0 := 0 } (evC E fn n) kx kr fuel (mk d 32 T) A =
      kx 0 (mk .bot 32 [(3, aint m), (8, .ref 0 0 0), (9, .ref 1 0 0), (10, aint m), (20, aint m), (21, aint m), (22, abool false)]) (heap w win m) := by
  intro fuel
  induction fuel with
  | zero => intro i v j d T A _ h; omega
  | succ fuel ih =>
    intro i v j d T A hi hf h3 h8 h9 h10 hj a0 a1 a2
    have hr := heap_reach w win (i + 1) v j A hj a0 a1 a2
    have e0 : 0 ≠ j := by omega
    have e1 : 1 ≠ j := by omega
    rw [e_loopS, nrm_gen E 14 12 [3, 8, 9, 10] (by rw [S.lives]; rfl) rfl _ _ _ _ _ (by decide)]
    generalize hK : loopK 12 B12_augurylaw24_BounGrows_1 _ _ kx kr fuel = KK
    rw [B12_augurylaw24_BounGrows_1]
    simp only [List.map_cons, List.map_nil, List.flatMap_cons, List.flatMap_nil, h3, h8, h9, h10, f_ref, f_d, List.cons_append, List.nil_append, hr]
    by_cases hlt : ((i + 1 : Nat) : Int) < m
    · simp only [go_sem, Nat.reduceLT, Nat.reduceEqDiff, Nat.reduceAdd, a0, a1, a2, e0, e1, insA_ren, hlt, decide_true, off S.toFns 14 1 rfl, Nat.reduceLeDiff, true_and, and_true, rep1, nc_sref, Nat.reduceMul, app_ins (i + 1) 0 (by omega)]
      have hw : IntKind.i64.wrap (((i + 1 : Nat) : Int) + 1) = ((i + 1 + 1 : Nat) : Int) := by
        rw [wrap_i64 (by omega) (by omega)]; omega
      rw [hw, ← hK]
      exact ih (i + 1) 1 2 _ _ _ (by omega) (by omega) rfl rfl rfl rfl (by omega) rfl rfl rfl
    · have : i + 1 = m := by omega
      subst this
      simp only [go_sem, Nat.reduceLT, Nat.reduceEqDiff, Nat.reduceAdd, a0, a1, a2, e0, e1, insA_ren, hlt, decide_false]
theorem loop_mk1 (n : Nat) (w win c : Int) (m : Nat) (hm : m < 2 ^ 20) (kr : K) (kx : Nat → K) : ∀ (fuel i v q j : Nat) (d : AV) (T : List (Nat × AV)) (A : List Blk), i + 1 ≤ m → m - i < fuel → getS d T 3 = aint m → getS d T 8 = .ref 0 0 0 → getS d T 9 = .ref 1 0 0 → getS d T 10 = aint ((i + 1 : Nat) : Int) →
    2 ≤ q → q < j → A[0]? = some (.cells box0 0 false) → A[1]? = some (.cells (boxm w win q (.sref j v 0 (i + 1) 9 none)) 0 false) → A[q]? = some (.cells (memA c) 0 false) → A[j]? = some (.cells (insA (i + 1)) v false) →
    loopK 12 B12_augurylaw24_BounGrows_1 { br := E.br, th := E.th, prim := E.prim, back := E.back, lives := E.lives, live := E.lives 14, nb0 := 0 } (evC E fn n) kx kr fuel (mk d 32 T) A =
      kx 0 (mk .bot 32 [(3, aint m), (8, .ref 0 0 0), (9, .ref 1 0 0), (10, aint m), (20, aint m), (21, aint m), (22, abool false)]) (heapm w win c m) := by
  intro fuel
  induction fuel with
  | zero => intro i v q j d T A _ h; omega
  | succ fuel ih =>
    intro i v q j d T A hi hf h3 h8 h9 h10 hq hj a0 a1 am a2
    have hr := heapm_reach w win c (i + 1) v q j A hq hj a0 a1 am a2
    have e0 : 0 ≠ j := by omega
    have e1 : 1 ≠ j := by omega
    have e2 : q ≠ j := by omega
    have q0 : 0 ≠ q := by omega
    have q1 : 1 ≠ q := by omega
    rw [e_loopS, nrm_gen E 14 12 [3, 8, 9, 10] (by rw [S.lives]; rfl) rfl _ _ _ _ _ (by decide)]
    generalize hK : loopK 12 B12_augurylaw24_BounGrows_1 _ _ kx kr fuel = KK
    rw [B12_augurylaw24_BounGrows_1]
    simp only [List.map_cons, List.map_nil, List.flatMap_cons, List.flatMap_nil, h3, h8, h9, h10, f_ref, f_d, List.cons_append, List.nil_append, hr]
    by_cases hlt : ((i + 1 : Nat) : Int) < m
    · simp only [go_sem, Nat.reduceLT, Nat.reduceEqDiff, Nat.reduceAdd, a0, a1, am, a2, e0, e1, e2, q0, q1, insA_ren, hlt, decide_true, off S.toFns 14 1 rfl, Nat.reduceLeDiff, true_and, and_true, rep1, nc_sref, Nat.reduceMul, app_ins3 (i + 1) 0 (by omega)]
      have hw : IntKind.i64.wrap (((i + 1 : Nat) : Int) + 1) = ((i + 1 + 1 : Nat) : Int) := by
        rw [wrap_i64 (by omega) (by omega)]; omega
      rw [hw, ← hK]
      exact ih (i + 1) 1 2 3 _ _ _ (by omega) (by omega) rfl rfl rfl rfl (by omega) (by omega) rfl rfl rfl rfl
    · have : i + 1 = m := by omega
      subst this
      simp only [go_sem, Nat.reduceLT, Nat.reduceEqDiff, Nat.reduceAdd, a0, a1, am, a2, e0, e1, e2, q0, q1, insA_ren, hlt, decide_false]

theorem first0 (n : Nat) (w win : Int) (m : Nat) (h0 : 0 < m) (hm : m < 2 ^ 20) (kr : K) (kx : Nat → K) (fuel : Nat) (hf : m < fuel) (d : AV) (T : List (Nat × AV)) (h3 : getS d T 3 = aint m) (h8 : getS d T 8 = .ref 0 0 0) (h9 : getS d T 9 = .ref 1 0 0) (h10 : getS d T 10 = aint 0) :
    loopK 12 B12_augurylaw24_BounGrows_1 { br := E.br, th := E.th, prim := E.prim, back := E.back, lives := E.lives, live := E.lives 14, nb0 := 0 } (evC E fn n) kx kr (fuel + 1) (mk d 32 T) [.cells box0 0 false, .cells (box1 w win zn) 0 false] =
      kx 0 (mk .bot 32 [(3, aint m), (8, .ref 0 0 0), (9, .ref 1 0 0), (10, aint m), (20, aint m), (21, aint m), (22, abool false)]) (heap w win m) := by
  have hr : reach [.cells box0 0 false, .cells (box1 w win zn) 0 false] 0 100000 [0, 1] [] = [0, 1] := by
    simp only [f_reach, f_cells, insA_refs, f_d, f_sref, f_reach0, Nat.not_lt_zero, List.mem_cons, List.not_mem_nil, or_false, false_or, if_false, List.flatMap_cons, List.flatMap_nil, List.append_nil, List.nil_append, List.cons_append, Nat.succ_ne_zero, List.length_cons, List.length_nil, Nat.reduceLeDiff, Nat.reduceAdd, List.getElem?_cons_zero, List.getElem?_cons_succ, Nat.reduceEqDiff, f_ref]
  have hlt : (0 : Int) < m := by omega
  rw [e_loopS, nrm_gen E 14 12 [3, 8, 9, 10] (by rw [S.lives]; rfl) rfl _ _ _ _ _ (by decide)]
  generalize hK : loopK 12 B12_augurylaw24_BounGrows_1 _ _ kx kr fuel = KK
  rw [B12_augurylaw24_BounGrows_1]
  simp only [List.map_cons, List.map_nil, List.flatMap_cons, List.flatMap_nil, h3, h8, h9, h10, f_ref, f_d, List.cons_append, List.nil_append, hr]
  simp only [go_sem, Nat.reduceLT, Nat.reduceEqDiff, Nat.reduceAdd, insA_ren, hlt, decide_true, off S.toFns 14 1 rfl, Nat.reduceLeDiff, true_and, and_true, rep1, nc_sref, Nat.reduceMul, app_nil]
  have hw : IntKind.i64.wrap ((0 : Int) + 1) = ((0 + 1 : Nat) : Int) := by
    rw [wrap_i64 (by omega) (by omega)]; omega
  rw [hw, ← hK]
  exact loop_mk0 S n w win m hm kr kx fuel 0 0 3 _ _ _ (by omega) (by omega) rfl rfl rfl rfl (by omega) rfl rfl rfl
theorem first1 (n : Nat) (w win c : Int) (m : Nat) (h0 : 0 < m) (hm : m < 2 ^ 20) (kr : K) (kx : Nat → K) (fuel : Nat) (hf : m < fuel) (d : AV) (T : List (Nat × AV)) (h3 : getS d T 3 = aint m) (h8 : getS d T 8 = .ref 0 0 0) (h9 : getS d T 9 = .ref 1 0 0) (h10 : getS d T 10 = aint 0) :
    loopK 12 B12_augurylaw24_BounGrows_1 { br := E.br, th := E.th, prim := E.prim, back := E.back, lives := E.lives, live := E.lives 14, nb0 := 0 } (evC E fn n) kx kr (fuel + 1) (mk d 32 T) [.cells box0 0 false, .cells (boxm w win 2 zn) 0 false, .cells (memA c) 0 false] =
      kx 0 (mk .bot 32 [(3, aint m), (8, .ref 0 0 0), (9, .ref 1 0 0), (10, aint m), (20, aint m), (21, aint m), (22, abool false)]) (heapm w win c m) := by
  have hr : reach [.cells box0 0 false, .cells (boxm w win 2 zn) 0 false, .cells (memA c) 0 false] 0 100000 [0, 1] [] = [0, 1, 2] := by
    simp only [f_reach, f_cells, insA_refs, f_d, f_sref, f_reach0, Nat.not_lt_zero, List.mem_cons, List.not_mem_nil, or_false, false_or, if_false, List.flatMap_cons, List.flatMap_nil, List.append_nil, List.nil_append, List.cons_append, Nat.succ_ne_zero, List.length_cons, List.length_nil, Nat.reduceLeDiff, Nat.reduceAdd, List.getElem?_cons_zero, List.getElem?_cons_succ, Nat.reduceEqDiff, f_ref]
  have hlt : (0 : Int) < m := by omega
  rw [e_loopS, nrm_gen E 14 12 [3, 8, 9, 10] (by rw [S.lives]; rfl) rfl _ _ _ _ _ (by decide)]
  generalize hK : loopK 12 B12_augurylaw24_BounGrows_1 _ _ kx kr fuel = KK
  rw [B12_augurylaw24_BounGrows_1]
  simp only [List.map_cons, List.map_nil, List.flatMap_cons, List.flatMap_nil, h3, h8, h9, h10, f_ref, f_d, List.cons_append, List.nil_append, hr]
  simp only [go_sem, Nat.reduceLT, Nat.reduceEqDiff, Nat.reduceAdd, insA_ren, hlt, decide_true, off S.toFns 14 1 rfl, Nat.reduceLeDiff, true_and, and_true, rep1, nc_sref, Nat.reduceMul, app_nil]
  have hw : IntKind.i64.wrap ((0 : Int) + 1) = ((0 + 1 : Nat) : Int) := by
    rw [wrap_i64 (by omega) (by omega)]; omega
  rw [hw, ← hK]
  exact loop_mk1 S n w win c m hm kr kx fuel 0 0 2 4 _ _ _ (by omega) (by omega) rfl rfl rfl rfl (by omega) (by omega) rfl rfl rfl rfl

def mkp (w win c : Int) (m : Nat) : Prog := { w := w, window := win, fuel := 1, regs := ⟨0, 0, 0, 0⟩, mems := if 0 < c then [⟨⟨#[109]⟩, false, c⟩] else [], labels := [], ins := List.replicate m halt }

theorem raw_mk (n : Nat) (w win c : Int) (m : Nat) (h0 : 0 < m) (hm : m < 2 ^ 20) : ∃ x Ac u D, evC E fn (n + 1) 14 [aint w, aint win, aint c, aint m] [] = some (x, Ac) ∧ deep Ac 8 x = some (D, u) ∧ fk 4 D = progD (mkp w win c m) := by
  rw [evC_succ, S.f_augurylaw24_BounGrows_1, apF_some, F_augurylaw24_BounGrows_1, mkF_run _ _ _ _ _ _ _ _ rfl]
  by_cases hc : 0 < c
  · simp only [go_sem, Nat.reduceLT, Nat.reduceEqDiff, Nat.reduceAdd, Nat.reduceLeDiff, and_true, rep1, gt_iff_lt, hc, decide_true, off S.toFns 14 9 rfl]
    rw [big_succ, first1 S n w win c m h0 hm _ _ _ (by omega) _ _ rfl rfl rfl rfl]
    simp only [go_sem, Nat.reduceLT, Nat.reduceEqDiff, Nat.reduceAdd, Nat.reduceLeDiff, and_true, true_and, endN_gen]
    rw [reach23 c m _ rfl rfl]
    simp only [go_sem, Nat.reduceLT, Nat.reduceEqDiff, Nat.reduceAdd, Nat.reduceLeDiff, and_true, true_and, insA_ren]
    refine ⟨_, _, [0, 1], .agg [vi w, vi win, vi 1, vi 0, vi 0, vi 0, vi 0, .lst [.v (.string ⟨#[109]⟩), vb false, vi c] 1 (some 1), .lst [] 0 (some 0), .lst (rowC (List.replicate m halt)) m none], rfl, ?_, ?_⟩
    · simp only [go_sem]
      rw [deep_sref _ _ 0 0 1 3 _ [.v (.string ⟨#[109]⟩), vb false, vi c] false rfl rfl (by decide), deep_sref _ _ 1 0 m 9 _ (rowC (List.replicate m halt)) false rfl (by rw [rowC_len, List.length_replicate]; rfl) (by omega)]
      rfl
    · simp only [mkp, hc, if_true, progD, progC, rowD, List.length_replicate]; rfl
  · simp only [go_sem, Nat.reduceLT, Nat.reduceEqDiff, Nat.reduceAdd, Nat.reduceLeDiff, and_true, rep1, gt_iff_lt, hc, decide_false, off S.toFns 14 9 rfl]
    rw [big_succ, first0 S n w win m h0 hm _ _ _ (by omega) _ _ rfl rfl rfl rfl]
    simp only [go_sem, Nat.reduceLT, Nat.reduceEqDiff, Nat.reduceAdd, Nat.reduceLeDiff, and_true, true_and, endN_gen]
    rw [reach2 m _ rfl]
    simp only [go_sem, Nat.reduceLT, Nat.reduceEqDiff, Nat.reduceAdd, Nat.reduceLeDiff, and_true, true_and, insA_ren]
    refine ⟨_, _, [0], .agg [vi w, vi win, vi 1, vi 0, vi 0, vi 0, vi 0, .lst [] 0 (some 0), .lst [] 0 (some 0), .lst (rowC (List.replicate m halt)) m none], rfl, ?_, ?_⟩
    · simp only [go_sem]
      rw [deep_sref _ _ 0 0 m 9 _ (rowC (List.replicate m halt)) false rfl (by rw [rowC_len, List.length_replicate]; rfl) (by omega)]
      rfl
    · simp only [mkp, hc, if_false, progD, progC, rowD, List.length_replicate]; rfl

theorem c_mk (n : Nat) (w win c m : Int) (h0 : 0 < m) (hm : m < 1048576) (A : List Blk) (nb : Nat) : evOwnK E (evC E fn (n + 1)) 14 A nb (some ([vi w, vi win, vi c, vi m], [])) = some (.made (.d (progD (mkp w win c m.toNat))) []) := by
  obtain ⟨m, rfl⟩ := Int.eq_ofNat_of_zero_le (show 0 ≤ m by omega)
  obtain ⟨x, Ac, u, D, hr, hd, hf⟩ := raw_mk S n w win c m (by omega) (by omega)
  have hp : E.prim 14 = none := by rw [S.pr]; rfl
  simp only [evOwnK, evRaw, hp, List.map_cons, List.map_nil]
  rw [hr]
  simp only [evAnswer, S.th, memN_nil, cond_false, hd, Int.toNat_natCast, ← hf]
  rfl

theorem c_Confs (n : Nat) (p : Prog) (hm : p.mems.length < 2 ^ 40) (hn : p.ins.length < 2 ^ 40) (hwin : p.window < 2 ^ 62) (A : List Blk) (nb : Nat) (us : List Nat) : evOwnK E (evC E fn (n + 4)) 15 A nb (some ([progD p], us)) = some (.made (u64 (confs p)) []) :=
  call0 S (g := 15) (ds := [progD p]) (by decide) (raw_Confs S n p hm hn hwin) rfl rfl A nb us

theorem c_awake (n : Nat) (A : List Blk) (nb : Nat) : evOwnK E (evC E fn n) 16 A nb (some ([], [])) = some (.made (abool true) []) := by
  have hp : E.prim 16 = some (fun ds => match ds with | [] => some (.d (.v (.bool true)), []) | _ => none) := by rw [S.pr]; rfl
  simp only [evOwnK, evRaw, hp]
  simp only [evAnswer, S.th, memN_nil, cond_false]
  rfl
end
end Go.Aug.Bn
