import Derived.Test.YtogckbgcldmaeaaMc9
import Derived.Test.YtogckbgcldmaeaaMd2
import Derived.Test.YtogckbgcldmaeaaMc3
namespace Go.Aug.Mc
open Go Go.Aug
set_option linter.unusedSimpArgs false
set_option linter.unusedVariables false
set_option maxHeartbeats 40000000
variable {E : Env} {fn : FuncId -> Option (Env -> CallT -> CallT)}
section
variable (S : Sur E fn)
include S
theorem o109_24 : E.lives 109 7 = none := off S 109 7 (by decide) rfl
theorem raw_r9_CanRetire (dp : Nat) (p : Prog) (c : Conf) : Says E fn (dp + 2) 109 [progD p, confD c] (vb (Md.canRetire p c)) := by
 unfold Says
 show ansOf (evC E fn (dp + 1 + 1) 109 [.d (progD p), .d (confD c)] []) = _
 rw [evC_succ, S.f_r9_CanRetire, apF_some, F_r9_CanRetire, mkF_run _ _ _ _ _ _ _ _ rfl]
 by_cases h1 : c.end_ = 0
 ·by_cases h2 : c.buf.length = 0
  ·simp only [eG, go_sem, thq S, nbr S, Nat.reduceLT, Nat.reduceEqDiff, Nat.reduceAdd, Nat.reduceMul, Nat.reduceLeDiff, Int.reduceEq, Int.reduceLT, Int.reduceLE, Int.reduceNeg, reduceCtorEq, o109_24 S, h1, h2, Md.canRetire]
   simp
  ·obtain ⟨e, he⟩ := get_of (show 0 < c.buf.length by omega)
   have e0 : Md.entAt c.buf 0 = e := by show (c.buf[0]?).getD _ = _; rw [he]; rfl
   have hz : (c.buf.length : Int) ≠ 0 := by omega
   have w0 := w_ixI (l := c.buf) (i := 0) (by decide) he .i64 8 rfl
   cases hd : e.done <;> cases hk : e.known <;> by_cases k10 : (Md.at_ p e.pc).kind = 10 <;> by_cases k3 : (Md.at_ p e.pc).kind = 3
   all_goals first | omega | simp only [eG, go_sem, thq S, nbr S, Nat.reduceLT, Nat.reduceEqDiff, Nat.reduceAdd, Nat.reduceMul, Nat.reduceLeDiff, Int.reduceEq, Int.reduceLT, Int.reduceLE, Int.reduceNeg, reduceCtorEq, o109_24 S, h1, h2, hz, w0, Md.canRetire, e0, cA7 S, hd, hk, k10, k3, ne_eq, not_false_eq_true, not_true_eq_false, Bool.not_true, Bool.not_false]
 ·simp only [eG, go_sem, thq S, nbr S, Nat.reduceLT, Nat.reduceEqDiff, Nat.reduceAdd, Nat.reduceMul, Nat.reduceLeDiff, Int.reduceEq, Int.reduceLT, Int.reduceLE, Int.reduceNeg, reduceCtorEq, o109_24 S, h1, Md.canRetire]
theorem c_r9_CanRetire (dp : Nat) (p_w p_wn p_fu p_r0 p_r1 p_r2 p_r3 : Int) (p_ms : List MemT) (p_ls : List Label) (p_is : List Ins) (c_r0 c_r1 c_r2 c_r3 : Int) (c_mm c_st : List Int) (c_pc : Int) (c_bf : List Ent) (c_rb : List Int) (c_en : Int) (A : List Blk) (nb : Nat) (us : List Nat) : evOwnK false E (evC E fn (dp + 2)) 109 A nb (some ([.agg [vi p_w, vi p_wn, vi p_fu, vi p_r0, vi p_r1, vi p_r2, vi p_r3, rowD p_ms, rowD p_ls, rowD p_is], .agg [vi c_r0, vi c_r1, vi c_r2, vi c_r3, rowD c_mm, rowD c_st, vi c_pc, rowD c_bf, rowD c_rb, vi c_en]], us)) = some (.made (.d (vb (Md.canRetire (⟨p_w, p_wn, p_fu, ⟨p_r0, p_r1, p_r2, p_r3⟩, p_ms, p_ls, p_is⟩ : Prog) (⟨⟨⟨c_r0, c_r1, c_r2, c_r3⟩, c_mm, c_st, c_pc⟩, c_bf, c_rb, c_en⟩ : Conf)))) []) :=
 Says.flat (raw_r9_CanRetire S dp (⟨p_w, p_wn, p_fu, ⟨p_r0, p_r1, p_r2, p_r3⟩, p_ms, p_ls, p_is⟩ : Prog) (⟨⟨⟨c_r0, c_r1, c_r2, c_r3⟩, c_mm, c_st, c_pc⟩, c_bf, c_rb, c_en⟩ : Conf) ) (np S 109 (by decide)) (rfl) A nb us
theorem raw_r7_Jump (dp : Nat) (p : Prog) (a : Int) : Says E fn (dp + 1) 85 [progD p, vi a] (vi (min a p.ins.length)) := by
 unfold Says
 show ansOf (evC E fn (dp + 1) 85 [.d (progD p), .d (vi a)] []) = _
 rw [evC_succ, S.f_r7_Jump, apF_some, F_r7_Jump, mkF_run _ _ _ _ _ _ _ _ rfl]
 simp only [eG, go_sem, thq S, nbr S, Nat.reduceLT, Nat.reduceEqDiff, Nat.reduceAdd, Nat.reduceMul, Nat.reduceLeDiff, Int.reduceEq, Int.reduceLT, Int.reduceLE, Int.reduceNeg, reduceCtorEq]
theorem c_r7_Jump (dp : Nat) (p_w p_wn p_fu p_r0 p_r1 p_r2 p_r3 : Int) (p_ms : List MemT) (p_ls : List Label) (p_is : List Ins) (a : Int) (A : List Blk) (nb : Nat) (us : List Nat) : evOwnK false E (evC E fn (dp + 1)) 85 A nb (some ([.agg [vi p_w, vi p_wn, vi p_fu, vi p_r0, vi p_r1, vi p_r2, vi p_r3, rowD p_ms, rowD p_ls, rowD p_is], vi a], us)) = some (.made (.d (vi (min a (⟨p_w, p_wn, p_fu, ⟨p_r0, p_r1, p_r2, p_r3⟩, p_ms, p_ls, p_is⟩ : Prog).ins.length))) []) :=
 Says.flat (raw_r7_Jump S dp (⟨p_w, p_wn, p_fu, ⟨p_r0, p_r1, p_r2, p_r3⟩, p_ms, p_ls, p_is⟩ : Prog) a ) (np S 85 (by decide)) (rfl) A nb us
end
open Nat renaming reduceLT -> zN0, reduceEqDiff -> zN1, reduceAdd -> zN2, reduceMul -> zN3, reduceLeDiff -> zN4
open Int renaming reduceEq -> zI0, reduceLT -> zI1, reduceLE -> zI2, reduceNeg -> zI3
theorem l48 : 48 <= limA := by unfold limA; decide
theorem l1a : 1 <= limA := by unfold limA; decide
variable {E : Env} {fn : FuncId -> Option (Env -> CallT -> CallT)}
section
variable (S : Sur E fn)
include S
theorem o130_25 : E.lives 130 1 = none /\ E.lives 130 17 = none := ⟨off S 130 1 (by decide) rfl, off S 130 17 (by decide) rfl⟩
theorem nxt_Pop (dp : Nat) (l : List Ent) (hl : l.length < 1073741824) (kx : Nat -> K) (kr : K) (k f : Nat) (out : List Ent) (e : Ent) (he : l[k]? = some e) (ho : out.length < 1073741824) :
  B8_r9_Pop (inn E 130) (evC E fn dp) (loopK 8 B8_r9_Pop (inn E 130) (evC E fn dp) kx kr (f + 1)) kx kr (mk .bot 28 [(0, .d (rowD l)), (3, .sref 0 0 0 out.length 8 none), (4, aint k)]) [.cells ((rowC out).map .d) 0 false] =
  B8_r9_Pop (inn E 130) (evC E fn dp) (loopK 8 B8_r9_Pop (inn E 130) (evC E fn dp) kx kr f) kx kr (mk .bot 28 [(0, .d (rowD l)), (3, .sref 0 0 0 (out.length + 1) 8 none), (4, aint ((k + 1 : Nat) : Int))]) [.cells ((rowC (out ++ [Md.popE e])).map .d) 0 false] := by
 have hk : k < l.length := (List.getElem?_eq_some_iff.1 he).1
 have k1 : (out.length + 1) * 48 <= limA := by unfold limA; omega
 have k2 : out.length + 1 <= limA := by unfold limA; omega
 generalize hK : loopK 8 B8_r9_Pop _ _ kx kr (f + 1) = KK
 first | (conv => lhs; rw [B8_r9_Pop]) | rw [B8_r9_Pop]
 by_cases h : 0 <= e.frm
 ·simp only [eG, go_sem, thq S, nbr S, zN0, zN1, zN2, zN3, zN4, zI0, zI1, zI2, zI3, reduceCtorEq, o130_25 S, show (k : Int) < l.length by omega, w_ix he, wi k (by omega), ge_iff_le, h, rep1', app_endE, k1, k2, Md.popE]
  rw [<- hK, loop_in (on S _ _ [0, 3, 4] (by decide) rfl) rfl _ _ _ _ _ _ _ _ _ rfl]
  simp only [eG, go_sem, thq S, nbr S, zN0, zN1, zN2, zN3, zN4, zI0, zI1, zI2, zI3, reduceCtorEq, o130_25 S]
  rfl
 ·simp only [eG, go_sem, thq S, nbr S, zN0, zN1, zN2, zN3, zN4, zI0, zI1, zI2, zI3, reduceCtorEq, o130_25 S, show (k : Int) < l.length by omega, w_ix he, wi k (by omega), ge_iff_le, h, rep1', app_endE, k1, k2, Md.popE]
  rw [<- hK, loop_in (on S _ _ [0, 3, 4] (by decide) rfl) rfl _ _ _ _ _ _ _ _ _ rfl]
  simp only [eG, go_sem, thq S, nbr S, zN0, zN1, zN2, zN3, zN4, zI0, zI1, zI2, zI3, reduceCtorEq, o130_25 S]
theorem fst_Pop (dp : Nat) (l : List Ent) (hl : l.length < 1073741824) (kx : Nat -> K) (kr : K) (k f : Nat) (e : Ent) (he : l[k]? = some e) :
  B8_r9_Pop (inn E 130) (evC E fn dp) (loopK 8 B8_r9_Pop (inn E 130) (evC E fn dp) kx kr (f + 1)) kx kr (mk .bot 28 [(0, .d (rowD l)), (3, zn), (4, aint k)]) [] =
  B8_r9_Pop (inn E 130) (evC E fn dp) (loopK 8 B8_r9_Pop (inn E 130) (evC E fn dp) kx kr f) kx kr (mk .bot 28 [(0, .d (rowD l)), (3, .sref 0 0 0 1 8 none), (4, aint ((k + 1 : Nat) : Int))]) [.cells ((rowC [Md.popE e]).map .d) 0 false] := by
 have hk : k < l.length := (List.getElem?_eq_some_iff.1 he).1
 generalize hK : loopK 8 B8_r9_Pop _ _ kx kr (f + 1) = KK
 first | (conv => lhs; rw [B8_r9_Pop]) | rw [B8_r9_Pop]
 by_cases h : 0 <= e.frm
 ·simp only [eG, go_sem, thq S, nbr S, zN0, zN1, zN2, zN3, zN4, zI0, zI1, zI2, zI3, reduceCtorEq, o130_25 S, show (k : Int) < l.length by omega, w_ix he, wi k (by omega), ge_iff_le, h, rep1', l48, l1a, Nat.zero_add, Nat.one_mul, Nat.zero_mul, and_self, true_and, Md.popE]
  rw [<- hK, loop_in (on S _ _ [0, 3, 4] (by decide) rfl) rfl _ _ _ _ _ _ _ _ _ rfl]
  simp only [eG, go_sem, thq S, nbr S, zN0, zN1, zN2, zN3, zN4, zI0, zI1, zI2, zI3, reduceCtorEq, o130_25 S]
  rfl
 ·simp only [eG, go_sem, thq S, nbr S, zN0, zN1, zN2, zN3, zN4, zI0, zI1, zI2, zI3, reduceCtorEq, o130_25 S, show (k : Int) < l.length by omega, w_ix he, wi k (by omega), ge_iff_le, h, rep1', l48, l1a, Nat.zero_add, Nat.one_mul, Nat.zero_mul, and_self, true_and, Md.popE]
  rw [<- hK, loop_in (on S _ _ [0, 3, 4] (by decide) rfl) rfl _ _ _ _ _ _ _ _ _ rfl]
  simp only [eG, go_sem, thq S, nbr S, zN0, zN1, zN2, zN3, zN4, zI0, zI1, zI2, zI3, reduceCtorEq, o130_25 S]
  try rfl
theorem go_Pop (dp : Nat) (l : List Ent) (hl : l.length < 1073741824) (kx : Nat -> K) (kr : K) : ∀ m k f out, k + m = l.length -> m <= f -> out.length <= k ->
  B8_r9_Pop (inn E 130) (evC E fn dp) (loopK 8 B8_r9_Pop (inn E 130) (evC E fn dp) kx kr f) kx kr (mk .bot 28 [(0, .d (rowD l)), (3, .sref 0 0 0 out.length 8 none), (4, aint k)]) [.cells ((rowC out).map .d) 0 false] =
  kx 0 (mk .bot 28 [(9, abool false), (8, aint l.length), (7, .d (rowD l)), (6, aint l.length), (0, .d (rowD l)), (3, .sref 0 0 0 (out ++ (l.drop k).map Md.popE).length 8 none), (4, aint l.length)]) [.cells ((rowC (out ++ (l.drop k).map Md.popE)).map .d) 0 false] := by
 intro m
 induction m with
 | zero =>
  intro k f out hk _ _
  obtain rfl : k = l.length := by omega
  rw [List.drop_length, List.map_nil, List.append_nil]
  generalize loopK 8 B8_r9_Pop _ _ kx kr f = KK
  first | (conv => lhs; rw [B8_r9_Pop]) | rw [B8_r9_Pop]
  simp only [eG, go_sem, thq S, nbr S, zN0, zN1, zN2, zN3, zN4, zI0, zI1, zI2, zI3, reduceCtorEq, o130_25 S, Int.lt_irrefl]
 | succ m ih =>
  intro k f out hk hf ho
  obtain ⟨e, he⟩ := get_of (show k < l.length by omega)
  obtain ⟨f, rfl⟩ : ∃ g, f = g + 1 := ⟨f - 1, by omega⟩
  rw [nxt_Pop S dp l hl kx kr k f out e he (by omega), drop_get he, List.map_cons]
  have := ih (k + 1) f (out ++ [Md.popE e]) (by omega) (by omega) (by simp; omega)
  simp only [List.append_assoc, List.singleton_append, List.cons_append, List.nil_append] at this
  rw [show (out ++ [Md.popE e]).length = out.length + 1 by simp] at this
  exact this
theorem raw_r9_Pop (dp : Nat) (l : List Ent) (hl : l.length < 1073741824) : Says E fn (dp + 1) 130 [rowD l] (rowD (Md.popL l)) := by
 unfold Says
 show ansOf (evC E fn (dp + 1) 130 [.d (rowD l)] []) = _
 rw [evC_succ, S.f_r9_Pop, apF_some, F_r9_Pop, mkF_run _ _ _ _ _ _ _ _ rfl]
 simp only [eG, go_sem, thq S, nbr S, zN0, zN1, zN2, zN3, zN4, zI0, zI1, zI2, zI3, reduceCtorEq, o130_25 S]
 rw [big_eq, loop_in (on S _ _ [0, 3, 4] (by decide) rfl) rfl _ _ _ _ _ _ _ _ _ rfl]
 simp only [eG, go_sem, thq S, nbr S, zN0, zN1, zN2, zN3, zN4, zI0, zI1, zI2, zI3, reduceCtorEq, o130_25 S]
 by_cases h : l.length <= 1
 ·generalize loopK 8 B8_r9_Pop _ _ _ _ _ = KK
  first | (conv => lhs; rw [B8_r9_Pop]) | rw [B8_r9_Pop]
  have hd : Md.popL l = [] := by unfold Md.popL; rw [List.drop_of_length_le h]; rfl
  rw [hd]
  simp only [eG, go_sem, thq S, nbr S, zN0, zN1, zN2, zN3, zN4, zI0, zI1, zI2, zI3, reduceCtorEq, o130_25 S, show ¬ (1 : Int) < l.length by omega]
 ·obtain ⟨e, he⟩ := get_of (show 1 < l.length by omega)
  have e1 := fun kx kr => fst_Pop S dp l hl kx kr 1 999999999999999999999999999998 e he
  simp only [Int.cast_ofNat_Int] at e1
  rw [show (999999999999999999999999999999 : Nat) = 999999999999999999999999999998 + 1 from rfl, e1]
  have e2 := fun kx kr => go_Pop S dp l hl kx kr (l.length - 2) 2 999999999999999999999999999998 [Md.popE e] (by omega) (by omega) (by simp)
  have e3 : [Md.popE e] ++ (l.drop 2).map Md.popE = Md.popL l := by unfold Md.popL; rw [drop_get he]; rfl
  simp only [e3, List.length_cons, List.length_nil, Nat.zero_add, Int.cast_ofNat_Int] at e2
  rw [show (((1 + 1 : Nat)) : Int) = 2 from rfl, e2]
  have hne : Md.popL l ≠ [] := by rw [<- e3]; simp
  simp only [eG, go_sem, thq S, nbr S, zN0, zN1, zN2, zN3, zN4, zI0, zI1, zI2, zI3, reduceCtorEq, o130_25 S]
  rw [deep_alone (Md.popL l) hne _ rfl 6 8 none rfl]
  simp only [eG, go_sem, thq S, nbr S, zN0, zN1, zN2, zN3, zN4, zI0, zI1, zI2, zI3, reduceCtorEq, o130_25 S]
  rfl
theorem c_r9_Pop (dp : Nat) (l : List Ent) (hl : l.length < 1073741824) (A : List Blk) (nb : Nat) : evOwnK false E (evC E fn (dp + 1)) 130 A nb (some ([rowD l], [])) = some (.made (.d (rowD (Md.popL l))) []) :=
 Says.deep (raw_r9_Pop S dp l hl) (np S 130 (by decide)) A nb
end
theorem d_endD0 (k : K) (tm : List AV) (A : List Blk) : endD [] k tm A = k tm A := id rfl
theorem same_Obs (a b : Obs) : (decide (a.kind = b.kind) && decide (a.at_ = b.at_)) = decide (a = b) := by
 cases a; cases b
 rw [Bool.eq_iff_iff]
 simp only [Bool.and_eq_true, decide_eq_true_eq, Obs.mk.injEq]
variable {E : Env} {fn : FuncId -> Option (Env -> CallT -> CallT)}
section
variable (S : Sur E fn)
include S
theorem o76_26 : E.lives 76 1 = none /\ E.lives 76 7 = none /\ E.lives 76 17 = none := ⟨off S 76 1 (by decide) rfl, off S 76 7 (by decide) rfl, off S 76 17 (by decide) rfl⟩
theorem o33_26 : E.lives 33 1 = none /\ E.lives 33 7 = none /\ E.lives 33 17 = none := ⟨off S 33 1 (by decide) rfl, off S 33 7 (by decide) rfl, off S 33 17 (by decide) rfl⟩
theorem loop_r1_SameInts (dp : Nat) (a b : List Int) (hl : a.length < 1073741824) (hab : a.length = b.length) (kx : Nat -> K) (hx : ∀ T, ansOf (kx 0 (mk .bot 26 T) []) = some (vb true)) : ∀ m k f, k + m = a.length -> m <= f ->
  ansOf (B10_r1_SameInts (inn E 76) (evC E fn dp) (loopK 10 B10_r1_SameInts (inn E 76) (evC E fn dp) kx (kEnd 0 [.tmp 4]) f) kx (kEnd 0 [.tmp 4]) (mk .bot 26 [(0, .d (rowD a)), (1, .d (rowD b)), (5, aint k)]) []) =
  some (vb (decide (a.drop k = b.drop k))) := by
 intro m
 induction m with
 | zero =>
  intro k f hk _
  obtain rfl : k = a.length := by omega
  generalize loopK 10 B10_r1_SameInts _ _ kx _ f = KK
  rw [B10_r1_SameInts, show a.drop a.length = [] from List.drop_length, show b.drop a.length = [] by rw [hab]; exact List.drop_length]
  simp only [eG, go_sem, thq S, nbr S, zN0, zN1, zN2, zN3, zN4, zI0, zI1, zI2, zI3, reduceCtorEq, o76_26 S, Int.lt_irrefl]
  exact hx _
 | succ m ih =>
  intro k f hk hf
  obtain ⟨e, he⟩ := get_of (show k < a.length by omega)
  obtain ⟨e', he'⟩ := get_of (show k < b.length by omega)
  obtain ⟨f, rfl⟩ : ∃ g, f = g + 1 := ⟨f - 1, by omega⟩
  generalize hK : loopK 10 B10_r1_SameInts _ _ kx _ (f + 1) = KK
  rw [B10_r1_SameInts, drop_get he, drop_get he']
  by_cases h : e = e'
  ·subst h
   simp only [eG, go_sem, thq S, nbr S, zN0, zN1, zN2, zN3, zN4, zI0, zI1, zI2, zI3, reduceCtorEq, o76_26 S, show (k : Int) < a.length by omega, w_ix he, w_ix he', wi k (by omega), d_endD0]
   rw [<- hK, loop_in (on S _ _ [0, 1, 5] (by decide) rfl) rfl _ _ _ _ _ _ _ _ _ rfl]
   simp only [eG, go_sem, thq S, nbr S, zN0, zN1, zN2, zN3, zN4, zI0, zI1, zI2, zI3, reduceCtorEq, o76_26 S]
   have := ih (k + 1) f (by omega) (by omega)
   simp only [List.cons.injEq, true_and]
   exact this
  ·simp only [eG, go_sem, thq S, nbr S, zN0, zN1, zN2, zN3, zN4, zI0, zI1, zI2, zI3, reduceCtorEq, o76_26 S, show (k : Int) < a.length by omega, w_ix he, w_ix he', wi k (by omega), d_endD0, eq_false h]
   simp [h]
theorem raw_r1_SameInts (dp : Nat) (a b : List Int) (hl : a.length < 1073741824) : Says E fn (dp + 1) 76 [rowD a, rowD b] (vb (decide (a = b))) := by
 unfold Says
 show ansOf (evC E fn (dp + 1) 76 [.d (rowD a), .d (rowD b)] []) = _
 rw [evC_succ, S.f_r1_SameInts, apF_some, F_r1_SameInts, mkF_run _ _ _ _ _ _ _ _ rfl]
 by_cases hab : a.length = b.length
 ·simp only [eG, go_sem, thq S, nbr S, zN0, zN1, zN2, zN3, zN4, zI0, zI1, zI2, zI3, reduceCtorEq, o76_26 S, hab, not_true_eq_false]
  rw [big_eq, loop_in (on S _ _ [0, 1, 5] (by decide) rfl) rfl _ _ _ _ _ _ _ _ _ rfl]
  simp only [eG, go_sem, thq S, nbr S, zN0, zN1, zN2, zN3, zN4, zI0, zI1, zI2, zI3, reduceCtorEq, o76_26 S]
  refine loop_r1_SameInts S dp a b hl hab _ ?_ a.length 0 _ (by omega) (by omega)
  intro T
  simp only [eG, go_sem, thq S, nbr S, zN0, zN1, zN2, zN3, zN4, zI0, zI1, zI2, zI3, reduceCtorEq, o76_26 S]
 ·have hne : ¬ a = b := fun e => hab (by rw [e])
  simp only [eG, go_sem, thq S, nbr S, zN0, zN1, zN2, zN3, zN4, zI0, zI1, zI2, zI3, reduceCtorEq, o76_26 S, show ¬ ((a.length : Int) = b.length) by omega, not_false_eq_true, eq_false hne]
theorem c_r1_SameInts (dp : Nat) (a b : List Int) (hl : a.length < 1073741824) (A : List Blk) (nb : Nat) (us : List Nat) : evOwnK false E (evC E fn (dp + 1)) 76 A nb (some ([rowD a, rowD b], us)) = some (.made (.d (vb (decide (a = b)))) []) :=
 Says.flat (raw_r1_SameInts S dp a b hl) (np S 76 (by decide)) (rfl) A nb us
theorem loop_r7_SameObs (dp : Nat) (a b : List Obs) (hl : a.length < 1073741824) (hab : a.length = b.length) (kx : Nat -> K) (hx : ∀ T, ansOf (kx 0 (mk .bot 26 T) []) = some (vb true)) : ∀ m k f, k + m = a.length -> m <= f ->
  ansOf (B10_r7_SameObs (inn E 33) (evC E fn dp) (loopK 10 B10_r7_SameObs (inn E 33) (evC E fn dp) kx (kEnd 0 [.tmp 4]) f) kx (kEnd 0 [.tmp 4]) (mk .bot 26 [(0, .d (rowD a)), (1, .d (rowD b)), (5, aint k)]) []) =
  some (vb (decide (a.drop k = b.drop k))) := by
 intro m
 induction m with
 | zero =>
  intro k f hk _
  obtain rfl : k = a.length := by omega
  generalize loopK 10 B10_r7_SameObs _ _ kx _ f = KK
  rw [B10_r7_SameObs, show a.drop a.length = [] from List.drop_length, show b.drop a.length = [] by rw [hab]; exact List.drop_length]
  simp only [eG, go_sem, thq S, nbr S, zN0, zN1, zN2, zN3, zN4, zI0, zI1, zI2, zI3, reduceCtorEq, o33_26 S, Int.lt_irrefl]
  exact hx _
 | succ m ih =>
  intro k f hk hf
  obtain ⟨e, he⟩ := get_of (show k < a.length by omega)
  obtain ⟨e', he'⟩ := get_of (show k < b.length by omega)
  obtain ⟨f, rfl⟩ : ∃ g, f = g + 1 := ⟨f - 1, by omega⟩
  generalize hK : loopK 10 B10_r7_SameObs _ _ kx _ (f + 1) = KK
  rw [B10_r7_SameObs, drop_get he, drop_get he']
  by_cases h : e = e'
  ·subst h
   simp only [eG, go_sem, thq S, nbr S, zN0, zN1, zN2, zN3, zN4, zI0, zI1, zI2, zI3, reduceCtorEq, o33_26 S, show (k : Int) < a.length by omega, w_ix he, w_ix he', wi k (by omega), d_endD0, same_Obs]
   rw [<- hK, loop_in (on S _ _ [0, 1, 5] (by decide) rfl) rfl _ _ _ _ _ _ _ _ _ rfl]
   simp only [eG, go_sem, thq S, nbr S, zN0, zN1, zN2, zN3, zN4, zI0, zI1, zI2, zI3, reduceCtorEq, o33_26 S]
   have := ih (k + 1) f (by omega) (by omega)
   simp only [List.cons.injEq, true_and]
   exact this
  ·simp only [eG, go_sem, thq S, nbr S, zN0, zN1, zN2, zN3, zN4, zI0, zI1, zI2, zI3, reduceCtorEq, o33_26 S, show (k : Int) < a.length by omega, w_ix he, w_ix he', wi k (by omega), d_endD0, same_Obs, eq_false h]
   simp [h]
theorem raw_r7_SameObs (dp : Nat) (a b : List Obs) (hl : a.length < 1073741824) : Says E fn (dp + 1) 33 [rowD a, rowD b] (vb (decide (a = b))) := by
 unfold Says
 show ansOf (evC E fn (dp + 1) 33 [.d (rowD a), .d (rowD b)] []) = _
 rw [evC_succ, S.f_r7_SameObs, apF_some, F_r7_SameObs, mkF_run _ _ _ _ _ _ _ _ rfl]
 by_cases hab : a.length = b.length
 ·simp only [eG, go_sem, thq S, nbr S, zN0, zN1, zN2, zN3, zN4, zI0, zI1, zI2, zI3, reduceCtorEq, o33_26 S, hab, not_true_eq_false]
  rw [big_eq, loop_in (on S _ _ [0, 1, 5] (by decide) rfl) rfl _ _ _ _ _ _ _ _ _ rfl]
  simp only [eG, go_sem, thq S, nbr S, zN0, zN1, zN2, zN3, zN4, zI0, zI1, zI2, zI3, reduceCtorEq, o33_26 S]
  refine loop_r7_SameObs S dp a b hl hab _ ?_ a.length 0 _ (by omega) (by omega)
  intro T
  simp only [eG, go_sem, thq S, nbr S, zN0, zN1, zN2, zN3, zN4, zI0, zI1, zI2, zI3, reduceCtorEq, o33_26 S]
 ·have hne : ¬ a = b := fun e => hab (by rw [e])
  simp only [eG, go_sem, thq S, nbr S, zN0, zN1, zN2, zN3, zN4, zI0, zI1, zI2, zI3, reduceCtorEq, o33_26 S, show ¬ ((a.length : Int) = b.length) by omega, not_false_eq_true, eq_false hne]
theorem c_r7_SameObs (dp : Nat) (a b : List Obs) (hl : a.length < 1073741824) (A : List Blk) (nb : Nat) (us : List Nat) : evOwnK false E (evC E fn (dp + 1)) 33 A nb (some ([rowD a, rowD b], us)) = some (.made (.d (vb (decide (a = b)))) []) :=
 Says.flat (raw_r7_SameObs S dp a b hl) (np S 33 (by decide)) (rfl) A nb us
end
end Go.Aug.Mc
