import Derived.Test.YtogckbgcldmaeaaMc30
namespace Go.Aug.Mc
open Go Go.Aug
set_option linter.unusedSimpArgs false
set_option linter.unusedVariables false
set_option maxHeartbeats 40000000
set_option maxRecDepth 200000
theorem ldG {L : List Ent} {k : Nat} {e : Ent} (he : L[k]? = some e) : takeVar false 1 (((rowC L).map AV.d).drop (k * 8)) = some (.d (vi e.pc)) := by
 have hk : k < L.length := (List.getElem?_eq_some_iff.1 he).1
 have : L.set k e = L := by
  obtain ⟨_, rfl⟩ := List.getElem?_eq_some_iff.1 he
  exact List.set_getElem_self hk
 have h := ld0 (e := e) hk
 rw [this] at h; exact h
theorem wr2' {l : List Ent} {k : Nat} {e : Ent} (he : l[k]? = some e) (i v : Nat) (A : List Blk) (n : Int) : storeAt A i v (k * 8 + 2) [.d (vi n)] 1 (some (.cells ((rowC l).map .d) v false)) = some (A.set i (.cells ((rowC (l.set k { e with addr := n })).map .d) v false)) :=
 st_row (o := 2) (e' := { e with addr := n }) [vi n] he rfl rfl rfl rfl (by show 2 + 1 <= 8; decide) 8 rfl _ rfl
theorem haz_gt {p : Prog} {l : List Ent} {i addr : Int} (h : (Md.hazard p l i addr).2 = true) : (Md.hazAt l i : Int) <= (Md.hazard p l i addr).1 := (hazGo_lt p i addr _ _ h).1
variable {E : Env} {fn : FuncId -> Option (Env -> CallT -> CallT)}
section
variable (S : Sur E fn)
include S
theorem o32_32 : E.lives 32 7 = none /\ E.lives 32 21 = none /\ E.lives 32 29 = none := ⟨off S 32 7 (by decide) rfl, off S 32 21 (by decide) rfl, off S 32 29 (by decide) rfl⟩
theorem raw_r9_Addr (dp : Nat) (p : Prog) (c : Conf) (i : Int) (hl : c.buf.length < 1073741824) (hz : Md.canAddr p c i = true -> (Md.entAt c.buf i).fault = false) : Says E fn (dp + 6) 32 [progD p, confD c, vi i] (.tup [confD (addrC (c.state.mem.length : Int) p c i).1, rowD (addrC (c.state.mem.length : Int) p c i).2, vb (Md.canAddr p c i)]) := by
 unfold Says
 show ansOf (evC E fn (dp + 5 + 1) 32 [.d (progD p), .d (confD c), .d (vi i)] []) = _
 rw [evC_succ, S.f_r9_Addr, apF_some, F_r9_Addr, mkF_run _ _ _ _ _ _ _ _ rfl]
 cases hcan : Md.canAddr p c i with
 | false => simp only [eG, go_sem, thq S, nbr S, Nat.reduceLT, Nat.reduceEqDiff, Nat.reduceAdd, Nat.reduceMul, Nat.reduceLeDiff, Int.reduceEq, Int.reduceLT, Int.reduceLE, Int.reduceNeg, reduceCtorEq, o32_32 S, c_r9_CanAddr S, hl, hcan, Bool.not_false, addrC, Md.conf0]
 | true =>
  have ho := canAddr_open hcan
  obtain ⟨h0, he, h1⟩ := open_get ho
  have hf := hz hcan
  have hn : c.buf.length ≠ 0 := by omega
  have hk : i.toNat < c.buf.length := by omega
  have b1 : c.buf.length * 48 <= limA := by unfold limA; omega
  have b2 : c.buf.length <= limA := by unfold limA; omega
  have hx : Md.at_ p (Md.entAt c.buf i).pc = Md.insM p c i := rfl
  have had : Md.mask p.w ((Md.valM p c i (Md.insM p c i).a).1 + (Md.valM p c i (Md.insM p c i).b).1) = Md.addrOf p c i := rfl
  generalize hxx : Md.insM p c i = x at *
  generalize hee : Md.entAt c.buf i = e at *
  have hset : c.buf.set i.toNat e = c.buf := by
   obtain ⟨hq, hw⟩ := List.getElem?_eq_some_iff.1 he
   rw [<- hw]; exact List.set_getElem_self hq
  have hL0 : ∀ n b, c.buf.set i.toNat { e with addr := n, known := b } = c.buf.set i.toNat ⟨e.pc, e.val, n, e.frm, e.next, e.done, b, false⟩ := fun n b => by rw [<- hf]
  by_cases hin : (c.state.mem.length : Int) <= Md.addrOf p c i
  ·simp only [eG, go_sem, thq S, nbr S, Nat.reduceLT, Nat.reduceEqDiff, Nat.reduceAdd, Nat.reduceMul, Nat.reduceLeDiff, Int.reduceEq, Int.reduceLT, Int.reduceLE, Int.reduceNeg, reduceCtorEq, o32_32 S, Nat.add_zero, c_r9_CanAddr S, hl, hcan, Bool.not_true, h0, h1, hn, app_fresh0, b1, b2, ne_eq, not_false_eq_true, sw_t, sw_s, dl_nil, dl_cons, rep0', rep1', Nat.zero_add, Nat.zero_mul, wr2' he, wr6 hk, wr7 hk, ldG he, ld2 hk, cA7 S, hx, hk, d_endD', d_neC, d_ne0, d_neR, deep_sr, dp_len, dp_take, take_all, w_foldS, foldTE, List.take_length, w_fold, List.length_set, Nat.le_refl, Option.bind_some, Option.map_some, c_r9_told S, c_r1_Mask S, Md.mask_wrap, had, addrC, Md.addrM, Md.addrK, Md.put, hee, ge_iff_le, hin]
  ·generalize hL : c.buf.set i.toNat ⟨e.pc, e.val, Md.addrOf p c i, e.frm, e.next, e.done, true, false⟩ = L
   have hLl : L.length = c.buf.length := by rw [<- hL]; exact List.length_set
   have hLl2 : L.length < 1073741824 := by omega
   have hld : takeVar false 1 (((rowC L).map AV.d).drop (i.toNat * 8 + 2)) = some (.d (vi (Md.addrOf p c i))) := by rw [<- hL]; exact ld2 hk
   have hfold : DV.lst (rowC L) c.buf.length none = rowD L := by unfold rowD; rw [hLl]
   have hdl : c.buf.length * 8 <= ((rowC L).map AV.d).length := dp_len _ (by omega)
   have htk : L.take c.buf.length = L := List.take_of_length_le (by omega)
   cases hz2 : (Md.hazard p L i (Md.addrOf p c i)).2 with
   | false => simp only [eG, go_sem, thq S, nbr S, Nat.reduceLT, Nat.reduceEqDiff, Nat.reduceAdd, Nat.reduceMul, Nat.reduceLeDiff, Int.reduceEq, Int.reduceLT, Int.reduceLE, Int.reduceNeg, reduceCtorEq, o32_32 S, Nat.add_zero, c_r9_CanAddr S, hl, hcan, Bool.not_true, h0, h1, hn, app_fresh0, b1, b2, ne_eq, not_false_eq_true, sw_t, sw_s, dl_nil, dl_cons, rep0', rep1', Nat.zero_add, Nat.zero_mul, wr2' he, wr6 hk, wr7 hk, ldG he, ld2 hk, cA7 S, hx, hk, d_endD', d_neC, d_ne0, d_neR, deep_sr, dp_len, dp_take, take_all, w_foldS, foldTE, List.take_length, w_fold, List.length_set, Nat.le_refl, Option.bind_some, Option.map_some, c_r9_told S, c_r1_Mask S, Md.mask_wrap, had, addrC, Md.addrM, Md.addrK, Md.put, hee, ge_iff_le, hin, hf, hL, hld, hfold, hdl, htk, c_r9_Hazard S, hLl2, hz2, Md.drop1, show i < 4611686018427387904 by omega, show -4611686018427387904 < i by omega]; rfl
   | true =>
    obtain ⟨z0, z1⟩ := haz_lt hz2
    have z2 := haz_gt hz2
    have z3 : 1 <= Md.hazAt L i := by unfold Md.hazAt; omega
    generalize hkk : (Md.hazard p L i (Md.addrOf p c i)).1 = kk at *
    obtain ⟨e2, he2⟩ := get_of (show kk.toNat < L.length by omega)
    have he3 : Md.entAt L kk = e2 := by unfold Md.entAt; rw [he2]; rfl
    have hk0 : kk.toNat ≠ 0 := by omega
    have hk1 : kk < c.buf.length := by omega
    have hk2 : kk.toNat <= L.length := by omega
    have bd := bndsV_hi c.buf.length .i64 kk z0 (by omega)
    simp only [eG, go_sem, thq S, nbr S, Nat.reduceLT, Nat.reduceEqDiff, Nat.reduceAdd, Nat.reduceMul, Nat.reduceLeDiff, Int.reduceEq, Int.reduceLT, Int.reduceLE, Int.reduceNeg, reduceCtorEq, o32_32 S, Nat.add_zero, c_r9_CanAddr S, hl, hcan, Bool.not_true, h0, h1, hn, app_fresh0, b1, b2, ne_eq, not_false_eq_true, sw_t, sw_s, dl_nil, dl_cons, rep0', rep1', Nat.zero_add, Nat.zero_mul, wr2' he, wr6 hk, wr7 hk, ldG he, ld2 hk, cA7 S, hx, hk, d_endD', d_neC, d_ne0, d_neR, deep_sr, dp_len, dp_take, take_all, w_foldS, foldTE, List.take_length, w_fold, List.length_set, Nat.le_refl, Option.bind_some, Option.map_some, c_r9_told S, c_r1_Mask S, Md.mask_wrap, had, addrC, Md.addrM, Md.addrK, Md.put, hee, ge_iff_le, hin, hf, hL, hld, hfold, hdl, htk, c_r9_Hazard S, hLl2, hz2, hkk, Md.drop1, he3, ldG he2, z0, hk0, hk1, hk2, bd, Nat.sub_zero, not_true_eq_false, and_false, Option.map_none, show i < 4611686018427387904 by omega, show -4611686018427387904 < i by omega]; rfl
end
end Go.Aug.Mc
