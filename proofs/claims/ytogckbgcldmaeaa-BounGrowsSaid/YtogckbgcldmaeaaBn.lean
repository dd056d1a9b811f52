/- How many machines there may be: what the functions compute. -/
import Derived.Test.YtogckbgcldmaeaaBnP
import Derived.Test.YtogckbgcldmaeaaEvTy
namespace Go.Aug.Bn
open Go Go.Aug

variable {E : Env} {fn : FuncId → Option (Env → CallT → CallT)}

theorem off (H : Fns E fn) (f key : Nat) (h : tbl f key = none) : E.lives f key = none := by rw [H.lives]; exact h

/-- What is held of the run's surroundings. -/
structure Sur (E : Env) (fn : FuncId → Option (Env → CallT → CallT)) : Prop extends Fns E fn where
  br : E.br = []
  th : E.th = []
  pr : E.prim = fun f => if f = 16 then some (fun ds => match ds with | [] => some (.d (.v (.bool true)), []) | _ => none) else none

section
variable (S : Sur E fn)
include S

theorem nbr (g : Nat) : memN g E.br = false := by rw [S.br]; rfl
theorem call0 {g : FuncId} {n : Nat} {ds : List DV} {r r' : DV} (hg : g ≠ 16) (hc : evC E fn n g (ds.map .d) [] = some (.d r, [])) (hr : fk 4 r = r') (hf : r.flat 8 = true) (A : List Blk) (nb : Nat) (used : List Nat) :
    evOwnK E (evC E fn n) g A nb (some (ds, used)) = some (.made (.d r') []) :=
  own_flat (by rw [S.pr]; simp [hg]) (by rw [S.th]; rfl) hc hr hf A nb used

theorem raw_Ok (n : Nat) (w : Int) : evC E fn (n + 1) 96 [aint w] [] = some (abool (decide (1 ≤ w) && decide (w ≤ 16)), []) := by
  rw [evC_succ, S.f_word_Ok, apF_some, F_word_Ok, mkF_run _ _ _ _ _ _ _ _ rfl]
  by_cases h : 1 ≤ w <;> simp only [go_sem, Nat.reduceLT, Nat.reduceEqDiff, ge_iff_le, h, decide_true, decide_false, Bool.true_and, Bool.false_and]
theorem c_Ok (n : Nat) (w : Int) (A : List Blk) (nb : Nat) (us : List Nat) : evOwnK E (evC E fn (n + 1)) 96 A nb (some ([vi w], us)) = some (.made (abool (decide (1 ≤ w) && decide (w ≤ 16))) []) :=
  call0 S (g := 96) (ds := [vi w]) (by decide) (raw_Ok S n w) rfl rfl A nb us

end

def Size (w : Int) : Nat := if 1 ≤ w ∧ w ≤ 16 then 2 ^ w.toNat else 0
theorem Size_le (w : Int) : Size w ≤ 65536 := by
  unfold Size
  split
  · have : w.toNat ≤ 16 := by omega
    exact Nat.pow_le_pow_right (n := 2) (by omega) this
  · omega

section
variable (S : Sur E fn)
include S

theorem raw_Size (n : Nat) (w : Int) : evC E fn (n + 2) 42 [aint w] [] = some (aint (Size w), []) := by
  rw [evC_succ, S.f_word_Size, apF_some, F_word_Size, mkF_run _ _ _ _ _ _ _ _ rfl]
  by_cases h : (decide (1 ≤ w) && decide (w ≤ 16)) = true
  · have h1 : 1 ≤ w ∧ w ≤ 16 := by simpa using h
    have h0 : 0 ≤ w := by omega
    simp only [go_sem, Nat.reduceLT, Nat.reduceEqDiff, Nat.reduceAdd, nbr S, c_Ok S, h, off S.toFns 42 7 rfl, b_shl _ _ _ _ h0]
    have e : IntKind.i64.wrap (1 * 2 ^ min w.toNat 64) = Size w := by
      unfold Size
      rw [if_pos h1]
      obtain ⟨k, rfl⟩ := Int.eq_ofNat_of_zero_le h0
      have hk : k ≤ 16 := by omega
      have : (2 : Nat) ^ k ≤ 2 ^ 16 := Nat.pow_le_pow_right (by omega) hk
      simp only [Int.toNat_natCast, Nat.min_eq_left (show k ≤ 64 by omega), Int.one_mul]
      have e2 : (2 : Int) ^ k = ((2 ^ k : Nat) : Int) := by simp
      rw [e2]
      generalize 2 ^ k = q at this
      exact wrap_i64 (by omega) (by omega)
    rw [e]
  · have h1 : ¬ (1 ≤ w ∧ w ≤ 16) := by simpa using h
    simp only [go_sem, Nat.reduceLT, Nat.reduceEqDiff, Nat.reduceAdd, nbr S, c_Ok S, h, Size, if_neg h1]
    rfl
theorem c_Size (n : Nat) (w : Int) (A : List Blk) (nb : Nat) (us : List Nat) : evOwnK E (evC E fn (n + 2)) 42 A nb (some ([vi w], us)) = some (.made (aint (Size w)) []) :=
  call0 S (g := 42) (ds := [vi w]) (by decide) (raw_Size S n w) rfl rfl A nb us
end

def far : Nat := 4611686018427387904
def times (a b : Nat) : Nat := if 0 < a ∧ far / a < b then far else a * b
abbrev u64 (n : Nat) : AV := .d (.v (.int .u64 n))
theorem times_le (a b : Nat) (h : b ≤ far) : times a b ≤ far := by
  unfold times
  split
  · exact Nat.le_refl _
  · rename_i hn
    rcases Nat.eq_zero_or_pos a with h0 | h0
    · subst h0; simp
    · have h1 : b ≤ far / a := by
        rcases Nat.lt_or_ge (far / a) b with h' | h'
        · exact absurd ⟨h0, h'⟩ hn
        · exact h'
      exact Nat.le_trans (Nat.mul_le_mul_left a h1) (Nat.mul_div_le far a)

section
variable (S : Sur E fn)
include S
theorem raw_times (n : Nat) (a b : Nat) : evC E fn (n + 1) 43 [u64 a, u64 b] [] = some (u64 (times a b), []) := by
  rw [evC_succ, S.f_boun_times, apF_some, F_boun_times, mkF_run _ _ _ _ _ _ _ _ rfl]
  by_cases h : (a : Int) > 0
  · have h0 : (a : Int) ≠ 0 := by omega
    have hq : IntKind.u64.wrap (Int.tdiv 4611686018427387904 a) = ((far / a : Nat) : Int) := by
      have e : Int.tdiv 4611686018427387904 (a : Int) = ((far / a : Nat) : Int) := by
        rw [Int.natCast_ediv]; exact Int.tdiv_eq_ediv_of_nonneg (by omega)
      rw [e]
      have h1 : far / a ≤ far := Nat.div_le_self _ _
      have h2 : far = 4611686018427387904 := rfl
      generalize far / a = q at h1
      exact wrap_u64 (by omega) (by omega)
    have hc : decide ((b : Int) > ((far / a : Nat) : Int)) = decide (far / a < b) := by
      simp only [gt_iff_lt, Int.ofNat_lt]
    simp only [go_sem, Nat.reduceLT, Nat.reduceEqDiff, Nat.reduceAdd, h, decide_true, b_quo _ _ _ h0, hq, hc, off S.toFns 43 7 rfl]
    by_cases hb : far / a < b
    · simp only [hb, decide_true, cond_true, times]
      rw [if_pos ⟨by omega, trivial⟩]; rfl
    · simp only [hb, decide_false, cond_false, times]
      rw [if_neg (by simp)]
      have hle : a * b ≤ far := by
        have h1 : b ≤ far / a := by omega
        have := Nat.mul_le_mul_left a h1
        exact Nat.le_trans this (Nat.mul_div_le far a)
      have hf : far = 4611686018427387904 := rfl
      rw [← Int.natCast_mul]
      generalize a * b = q at hle
      rw [wrap_u64 (by omega) (by omega)]
  · have h0 : a = 0 := by omega
    subst h0
    simp only [go_sem, Nat.reduceLT, Nat.reduceEqDiff, Nat.reduceAdd, h, off S.toFns 43 7 rfl, decide_false]
    simp [times, IntKind.wrap, IntKind.bits, IntKind.signed]
theorem c_times0 (n : Nat) (a b : Nat) (A : List Blk) (nb : Nat) (us : List Nat) : evOwnK E (evC E fn (n + 1)) 43 A nb (some ([.v (.int .u64 a), .v (.int .u64 b)], us)) = some (.made (u64 (times a b)) []) :=
  call0 S (g := 43) (ds := [.v (.int .u64 a), .v (.int .u64 b)]) (by decide) (raw_times S n a b) rfl rfl A nb us
theorem c_times (n : Nat) (a b : Int) (ha : 0 ≤ a) (hb : 0 ≤ b) (A : List Blk) (nb : Nat) (us : List Nat) : evOwnK E (evC E fn (n + 1)) 43 A nb (some ([.v (.int .u64 a), .v (.int .u64 b)], us)) = some (.made (u64 (times a.toNat b.toNat)) []) := by
  obtain ⟨a, rfl⟩ := Int.eq_ofNat_of_zero_le ha
  obtain ⟨b, rfl⟩ := Int.eq_ofNat_of_zero_le hb
  exact c_times0 S n a b A nb us
end

def powI (a : Nat) : Nat → Nat → Nat
  | out, 0 => out
  | out, n + 1 => powI a (times out a) n
def power (a n : Nat) : Nat := powI a 1 n

section
variable (S : Sur E fn)
include S
theorem loop_power (n : Nat) (a m : Nat) (hm : m < 2 ^ 63) (kr : K) (kx : Nat → K) : ∀ (fuel i out : Nat) (d : AV) (T : List (Nat × AV)), i ≤ m → m - i < fuel → getS d T 0 = u64 a → getS d T 5 = u64 out → getS d T 6 = aint m → getS d T 7 = aint i →
    loopK 8 B8_boun_power { br := E.br, th := E.th, prim := E.prim, back := E.back, lives := E.lives, live := E.lives 44, nb0 := 0 } (evC E fn (n + 1)) kx kr fuel (mk d 14 T) [] =
      kx 0 (mk .bot 14 [(0, u64 a), (5, u64 (powI a out (m - i))), (6, aint m), (7, aint m), (8, abool false)]) [] := by
  intro fuel
  induction fuel with
  | zero => intro i out d T _ h; omega
  | succ fuel ih =>
    intro i out d T hi hf h0 h5 h6 h7
    rw [e_loopS, nrm_nil E 44 8 [0, 5, 6, 7] (by rw [S.lives]; rfl) rfl]
    generalize hK : loopK 8 B8_boun_power _ _ kx kr fuel = KK
    rw [B8_boun_power]
    by_cases hlt : (i : Int) < m
    · simp only [List.map_cons, List.map_nil, h0, h5, h6, h7, go_sem, Nat.reduceLT, Nat.reduceEqDiff, Nat.reduceAdd, hlt, decide_true, nbr S, c_times0 S, off S.toFns 44 1 rfl, off S.toFns 44 11 rfl]
      have hw : IntKind.i64.wrap ((i : Int) + 1) = ((i + 1 : Nat) : Int) := by
        rw [wrap_i64 (by omega) (by omega)]; omega
      rw [hw, ← hK, ih (i + 1) (times out a) _ _ (by omega) (by omega) rfl rfl rfl rfl]
      have : m - i = (m - (i + 1)) + 1 := by omega
      rw [this]; rfl
    · have : i = m := by omega
      subst this
      simp only [List.map_cons, List.map_nil, h0, h5, h6, h7, go_sem, Nat.reduceLT, Nat.reduceEqDiff, Nat.reduceAdd, hlt, decide_false, Nat.sub_self, powI]

theorem raw_power (n : Nat) (a m : Nat) (hm : m < 2 ^ 63) : evC E fn (n + 2) 44 [u64 a, aint m] [] = some (u64 (power a m), []) := by
  rw [evC_succ, S.f_boun_power, apF_some, F_boun_power, mkF_run _ _ _ _ _ _ _ _ rfl]
  simp only [go_sem, Nat.reduceLT, Nat.reduceEqDiff, Nat.reduceAdd]
  rw [loop_power S n a m hm _ _ _ 0 1 _ _ (by omega) (by omega) rfl rfl rfl rfl]
  simp only [go_sem, Nat.reduceAdd, Nat.sub_zero]
  rfl
theorem c_power0 (n : Nat) (a m : Nat) (hm : m < 2 ^ 63) (A : List Blk) (nb : Nat) (us : List Nat) : evOwnK E (evC E fn (n + 2)) 44 A nb (some ([.v (.int .u64 a), vi m], us)) = some (.made (u64 (power a m)) []) :=
  call0 S (g := 44) (ds := [.v (.int .u64 a), vi m]) (by decide) (raw_power S n a m hm) rfl rfl A nb us
theorem c_power (n : Nat) (a m : Int) (ha : 0 ≤ a) (h0 : 0 ≤ m) (hm : m < 9223372036854775808) (A : List Blk) (nb : Nat) (us : List Nat) : evOwnK E (evC E fn (n + 2)) 44 A nb (some ([.v (.int .u64 a), vi m], us)) = some (.made (u64 (power a.toNat m.toNat)) []) := by
  obtain ⟨a, rfl⟩ := Int.eq_ofNat_of_zero_le ha
  obtain ⟨m, rfl⟩ := Int.eq_ofNat_of_zero_le h0
  exact c_power0 S n a m (by omega) A nb us
end

def cellsI (l : List MemT) : Int := (l.map fun m => min (max m.n 0) 16).sum
theorem cellsI_le : ∀ l : List MemT, 0 ≤ cellsI l ∧ cellsI l ≤ 16 * l.length
  | [] => by simp [cellsI]
  | m :: l => by
    have := cellsI_le l
    simp only [cellsI, List.map_cons, List.sum_cons, List.length_cons] at this ⊢
    omega
theorem cellsI_take (l : List MemT) (i : Nat) (h : i < l.length) : cellsI (l.take (i + 1)) = cellsI (l.take i) + min (max l[i].n 0) 16 := by
  have e : l.take (i + 1) = l.take i ++ [l[i]] := by rw [List.take_add_one, List.getElem?_eq_getElem h]; rfl
  unfold cellsI
  rw [e, List.map_append, List.sum_append]
  congr 1
  simp

section
variable (S : Sur E fn)
include S
theorem loop_Cells (n : Nat) (l : List MemT) (hm : l.length < 2 ^ 40) (kr : K) (kx : Nat → K) : ∀ (fuel i : Nat) (d : AV) (T : List (Nat × AV)) (A : List Blk), i ≤ l.length → l.length - i < fuel → getS d T 3 = aint (cellsI (l.take i)) → getS d T 7 = .d (rowD l) → getS d T 8 = aint l.length → getS d T 9 = aint i →
    loopK 8 B8_arch_Cells { br := E.br, th := E.th, prim := E.prim, back := E.back, lives := E.lives, live := E.lives 45, nb0 := 0 } (evC E fn n) kx kr fuel (mk d 21 T) A =
      kx 0 (mk .bot 21 [(3, aint (cellsI l)), (7, .d (rowD l)), (8, aint l.length), (9, aint l.length), (10, abool false)]) [] := by
  intro fuel
  induction fuel with
  | zero => intro i d T A _ h; omega
  | succ fuel ih =>
    intro i d T A hi hf h3 h7 h8 h9
    rw [e_loopS, nrm_d E 45 8 [3, 7, 8, 9] (by rw [S.lives]; rfl) rfl _ _ _ _ _ (by decide) [.v (.int .i64 (cellsI (l.take i))), rowD l, .v (.int .i64 l.length), .v (.int .i64 i)] (by simp only [List.map_cons, List.map_nil, h3, h7, h8, h9])]
    generalize hK : loopK 8 B8_arch_Cells _ _ kx kr fuel = KK
    rw [B8_arch_Cells]
    by_cases hlt : (i : Int) < l.length
    · have hi' : i < l.length := by omega
      have hx := ix_row hi' (s := 3) rfl none .i64
      simp only [List.map_cons, List.map_nil, List.zip_cons_cons, List.zip_nil_left, go_sem, Nat.reduceLT, Nat.reduceEqDiff, Nat.reduceAdd, hlt, decide_true, rowD, hx, cl_mem, List.cons_append, List.nil_append, off S.toFns 45 1 rfl, Nat.reduceLeDiff, Nat.zero_add]
      have hb := cellsI_le (l.take (i + 1))
      have hbl : (l.take (i + 1)).length ≤ l.length := by simp; omega
      have hw : IntKind.i64.wrap ((i : Int) + 1) = ((i + 1 : Nat) : Int) := by
        rw [wrap_i64 (by omega) (by omega)]; omega
      have hw2 : IntKind.i64.wrap (cellsI (l.take i) + min (max l[i].n 0) 16) = cellsI (l.take (i + 1)) := by
        rw [← cellsI_take l i hi']
        exact wrap_i64 (by omega) (by omega)
      rw [hw, hw2, ← hK, ih (i + 1) _ _ _ (by omega) (by omega) rfl rfl rfl rfl]
      rfl
    · have : i = l.length := by omega
      subst this
      simp only [List.map_cons, List.map_nil, List.zip_cons_cons, List.zip_nil_left, go_sem, Nat.reduceLT, Nat.reduceEqDiff, Nat.reduceAdd, hlt, decide_false, List.take_length]

theorem raw_Cells (n : Nat) (p : Prog) (hm : p.mems.length < 2 ^ 40) : evC E fn (n + 1) 45 [.d (progD p)] [] = some (aint (cellsI p.mems), []) := by
  rw [evC_succ, S.f_arch_Cells, apF_some, F_arch_Cells, mkF_run _ _ _ _ _ _ _ _ rfl]
  simp only [go_sem, Nat.reduceLT, Nat.reduceEqDiff, Nat.reduceAdd, progD, progC, rowD]
  rw [show DV.lst (rowC p.mems) p.mems.length none = rowD p.mems from rfl, loop_Cells S n p.mems hm _ _ _ 0 _ _ _ (by omega) (by omega) rfl rfl rfl rfl]
  simp only [go_sem, Nat.reduceLT, Nat.reduceEqDiff, Nat.reduceAdd]
theorem c_Cells (n : Nat) (p : Prog) (hm : p.mems.length < 2 ^ 40) (A : List Blk) (nb : Nat) (us : List Nat) : evOwnK E (evC E fn (n + 1)) 45 A nb (some ([progD p], us)) = some (.made (aint (cellsI p.mems)) []) :=
  call0 S (g := 45) (ds := [progD p]) (by decide) (raw_Cells S n p hm) rfl rfl A nb us

/-- How many machines there may be. -/
def confs (p : Prog) : Nat :=
  let s := Size p.w
  let k := p.ins.length + 2
  let win := (max p.window 0).toNat
  let ways := times (times 8 (power s 2)) (times (win + 1) (power k 2))
  let out := times (power s (4 + (cellsI p.mems).toNat)) (times (power k 7) 45)
  times out (power (min ways (far - 1) + 1) (min win 64))

theorem raw_Confs (n : Nat) (p : Prog) (hm : p.mems.length < 2 ^ 40) (hn : p.ins.length < 2 ^ 40) (hwin : p.window < 2 ^ 62) : evC E fn (n + 4) 15 [.d (progD p)] [] = some (u64 (confs p), []) := by
  have hs := Size_le p.w
  have e1 : IntKind.u64.wrap ((Size p.w : Nat) : Int) = ((Size p.w : Nat) : Int) := wrap_u64 (by omega) (by omega)
  have e2 : IntKind.u64.wrap (IntKind.u64.wrap (p.ins.length : Int) + 2) = ((p.ins.length + 2 : Nat) : Int) := by
    rw [wrap_u64 (n := (p.ins.length : Int)) (by omega) (by omega), wrap_u64 (by omega) (by omega)]; omega
  have e3 : IntKind.u64.wrap (IntKind.u64.wrap (max p.window 0) + 1) = (((max p.window 0).toNat + 1 : Nat) : Int) := by
    rw [wrap_u64 (n := max p.window 0) (by omega) (by omega), wrap_u64 (by omega) (by omega)]; omega
  have hc := cellsI_le p.mems
  have e4 : IntKind.i64.wrap (4 + cellsI p.mems) = 4 + cellsI p.mems := wrap_i64 (by omega) (by omega)
  have h4 : 0 ≤ 4 + cellsI p.mems := by omega
  have h5 : 4 + cellsI p.mems < 9223372036854775808 := by omega
  have e5 : ∀ q : Nat, IntKind.u64.wrap (min (q : Int) 4611686018427387903 + 1) = ((min q (far - 1) + 1 : Nat) : Int) := by
    intro q
    have hf : far = 4611686018427387904 := rfl
    rw [wrap_u64 (by omega) (by omega)]; omega
  have h6 : 0 ≤ min (max p.window 0) 64 := by omega
  have h7 : min (max p.window 0) 64 < 9223372036854775808 := by omega
  have t1 : (4 + cellsI p.mems).toNat = 4 + (cellsI p.mems).toNat := by omega
  have t2 : (min (max p.window 0) 64).toNat = min (max p.window 0).toNat 64 := by omega
  have hC := fun A nb us => c_Cells S (n + 2) p hm A nb us
  simp only [progD, progC, rowD] at hC
  rw [evC_succ, S.f_boun_Confs, apF_some, F_boun_Confs, mkF_run _ _ _ _ _ _ _ _ rfl]
  simp only [go_sem, Nat.reduceLT, Nat.reduceEqDiff, Nat.reduceAdd, progD, progC, rowD, nbr S, hC, c_Size S, e1, e2, e3, e4, c_power S, c_times S, Int.natCast_nonneg, Int.reduceLE, Int.reduceLT, Int.toNat_natCast, Int.reduceToNat, h4, h5, e5, h6, h7, t1, t2]
  rfl
end
end Go.Aug.Bn
