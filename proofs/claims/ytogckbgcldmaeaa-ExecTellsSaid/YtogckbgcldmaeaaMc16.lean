import Derived.Test.YtogckbgcldmaeaaMc3
import Derived.Test.YtogckbgcldmaeaaMd2
import Derived.Test.YtogckbgcldmaeaaMc9
namespace Go.Aug.Mc
open Go Go.Aug
open Nat renaming reduceLT -> zN0, reduceEqDiff -> zN1, reduceAdd -> zN2, reduceMul -> zN3, reduceLeDiff -> zN4
open Int renaming reduceEq -> zI0, reduceLT -> zI1, reduceLE -> zI2, reduceNeg -> zI3
set_option linter.unusedSimpArgs false
set_option linter.unusedVariables false
set_option maxHeartbeats 40000000
def cellsI (l : List MemT) : Int := (l.map fun m => min (max m.n 0) 16).sum
theorem cellsI_le : ∀ l : List MemT, 0 <= cellsI l /\ cellsI l <= 16 * l.length
 | [] => by simp [cellsI]
 | m :: l => by
  have := cellsI_le l
  simp only [cellsI, List.map_cons, List.sum_cons, List.length_cons] at this ⊢
  omega
theorem cellsI_take {l : List MemT} {i : Nat} {m : MemT} (h : l[i]? = some m) : cellsI (l.take (i + 1)) = cellsI (l.take i) + min (max m.n 0) 16 := by
 unfold cellsI
 rw [take_get h, List.map_append, List.sum_append]
 simp
def valueM (p : Prog) (x : Ins) (a b d : Int) : Int := if x.kind = 4 then (if a = 0 then d else b) else Md.wdo p.w x.op a b
def wayM (p : Prog) (x : Ins) (pc a b : Int) : Int := if x.kind = 7 then min a p.ins.length else if Md.wdo p.w x.op a b = 0 then Md.w64 (pc + 1) else x.target
variable {E : Env} {fn : FuncId -> Option (Env -> CallT -> CallT)}
section
variable (S : Sur E fn)
include S
theorem o45_10 : E.lives 45 1 = none := off S 45 1 (by decide) rfl
theorem o61_10 : E.lives 61 7 = none /\ E.lives 61 9 = none := ⟨off S 61 7 (by decide) rfl, off S 61 9 (by decide) rfl⟩
theorem o63_10 : E.lives 63 7 = none /\ E.lives 63 13 = none := ⟨off S 63 7 (by decide) rfl, off S 63 13 (by decide) rfl⟩
theorem o104_10 : E.lives 104 9 = none := off S 104 9 (by decide) rfl
theorem loop_Cells (dp : Nat) (l : List MemT) (hl : l.length < 1073741824) (kx : Nat -> K) (D : Int)
  (hx : ∀ T, getS .bot T 3 = aint (cellsI l) -> ansOf (kx 0 (mk .bot 21 T) []) = some (vi D)) :
  ∀ (m k fuel : Nat), k + m = l.length -> m <= fuel -> ansOf (B8_arch_Cells (inn E 45) (evC E fn dp) (loopK 8 B8_arch_Cells (inn E 45) (evC E fn dp) kx (kEnd 0 [.tmp 2]) fuel) kx (kEnd 0 [.tmp 2])
   (mk .bot 21 [(3, aint (cellsI (l.take k))), (7, .d (rowD l)), (8, aint l.length), (9, aint k)]) []) = some (vi D) := by
 intro m
 induction m with
 | zero =>
  intro k fuel hk _
  generalize loopK 8 B8_arch_Cells _ _ kx _ fuel = KK
  rw [B8_arch_Cells, List.take_of_length_le (by omega)]
  simp only [eG, go_sem, thq S, nbr S, zN0, zN1, zN2, zN3, zN4, zI0, zI1, zI2, zI3, reduceCtorEq, o45_10 S, show ¬ (k : Int) < l.length by omega]
  exact hx _ rfl
 | succ m ih =>
  intro k fuel hk hf
  obtain ⟨e, he⟩ := get_of (show k < l.length by omega)
  obtain ⟨fuel, rfl⟩ : ∃ m, fuel = m + 1 := ⟨fuel - 1, by omega⟩
  generalize hK : loopK 8 B8_arch_Cells _ _ kx _ (fuel + 1) = KK
  rw [B8_arch_Cells]
  have hb := cellsI_le (l.take k)
  have hbl : (l.take k).length <= l.length := by simp; omega
  have hw : IntKind.i64.wrap (cellsI (l.take k) + min (max e.n 0) 16) = cellsI (l.take (k + 1)) := by
   rw [cellsI_take he]
   exact wrap_i64 (by omega) (by omega)
  simp only [eG, go_sem, thq S, nbr S, zN0, zN1, zN2, zN3, zN4, zI0, zI1, zI2, zI3, reduceCtorEq, o45_10 S, show (k : Int) < l.length by omega, w_ix he, wi k (by omega), hw]
  rw [<- hK, loop_in (on S _ _ [3, 7, 8, 9] (by decide) rfl) rfl _ _ _ _ _ _ _ _ _ rfl]
  simp only [eG, go_sem, thq S, nbr S, zN0, zN1, zN2, zN3, zN4, zI0, zI1, zI2, zI3, reduceCtorEq, o45_10 S]
  exact ih (k + 1) fuel (by omega) (by omega)
theorem raw_arch_Cells (dp : Nat) (p : Prog) (hm : p.mems.length < 1073741824) : Says E fn (dp + 1) 45 [progD p] (vi (cellsI p.mems)) := by
 unfold Says
 show ansOf (evC E fn (dp + 1) 45 [.d (progD p)] []) = _
 rw [evC_succ, S.f_arch_Cells, apF_some, F_arch_Cells, mkF_run _ _ _ _ _ _ _ _ rfl]
 simp only [eG, go_sem, thq S, nbr S, zN0, zN1, zN2, zN3, zN4, zI0, zI1, zI2, zI3, reduceCtorEq, o45_10 S]
 rw [big_eq, loop_in (on S _ _ [3, 7, 8, 9] (by decide) rfl) rfl _ _ _ _ _ _ _ _ _ rfl]
 simp only [eG, go_sem, thq S, nbr S, zN0, zN1, zN2, zN3, zN4, zI0, zI1, zI2, zI3, reduceCtorEq, o45_10 S]
 refine loop_Cells S dp p.mems hm _ (cellsI p.mems) ?_ p.mems.length 0 _ (by omega) (by omega)
 intro T h3
 simp only [eG, go_sem, thq S, nbr S, zN0, zN1, zN2, zN3, zN4, zI0, zI1, zI2, zI3, reduceCtorEq, o45_10 S, h3]
theorem c_arch_Cells (dp : Nat) (p_w p_wn p_fu p_r0 p_r1 p_r2 p_r3 : Int) (p_ms : List MemT) (p_ls : List Label) (p_is : List Ins) (hm : (⟨p_w, p_wn, p_fu, ⟨p_r0, p_r1, p_r2, p_r3⟩, p_ms, p_ls, p_is⟩ : Prog).mems.length < 1073741824) (A : List Blk) (nb : Nat) (us : List Nat) : evOwnK false E (evC E fn (dp + 1)) 45 A nb (some ([.agg [vi p_w, vi p_wn, vi p_fu, vi p_r0, vi p_r1, vi p_r2, vi p_r3, rowD p_ms, rowD p_ls, rowD p_is]], us)) = some (.made (.d (vi (cellsI (⟨p_w, p_wn, p_fu, ⟨p_r0, p_r1, p_r2, p_r3⟩, p_ms, p_ls, p_is⟩ : Prog).mems))) []) :=
 Says.flat (raw_arch_Cells S dp (⟨p_w, p_wn, p_fu, ⟨p_r0, p_r1, p_r2, p_r3⟩, p_ms, p_ls, p_is⟩ : Prog) hm) (np S 45 (by decide)) (rfl) A nb us
theorem raw_seqm_Value (dp : Nat) (p : Prog) (x : Ins) (a b d : Int) : Says E fn (dp + 5) 61 [progD p, .agg (Cl.cells x), vi a, vi b, vi d] (vi (valueM p x a b d)) := by
 unfold Says
 show ansOf (evC E fn (dp + 4 + 1) 61 [.d (progD p), .d (.agg (Cl.cells x)), .d (vi a), .d (vi b), .d (vi d)] []) = _
 rw [evC_succ, S.f_seqm_Value, apF_some, F_seqm_Value, mkF_run _ _ _ _ _ _ _ _ rfl]
 by_cases h : x.kind = 4
 ·by_cases h2 : a = 0
  ·simp only [eG, go_sem, thq S, nbr S, zN0, zN1, zN2, zN3, zN4, zI0, zI1, zI2, zI3, reduceCtorEq, o61_10 S, h, eq_true h2, valueM, Bool.not_true, Bool.not_false]
  ·simp only [eG, go_sem, thq S, nbr S, zN0, zN1, zN2, zN3, zN4, zI0, zI1, zI2, zI3, reduceCtorEq, o61_10 S, h, eq_false h2, valueM, Bool.not_true, Bool.not_false]
 ·simp only [eG, go_sem, thq S, nbr S, zN0, zN1, zN2, zN3, zN4, zI0, zI1, zI2, zI3, reduceCtorEq, o61_10 S, h, valueM, c_word_Do S]
theorem c_seqm_Value (dp : Nat) (p_w p_wn p_fu p_r0 p_r1 p_r2 p_r3 : Int) (p_ms : List MemT) (p_ls : List Label) (p_is : List Ins) (x_k x_o x_d : Int) (x_ag : Bool) (x_an : Int) (x_bg : Bool) (x_bn : Int) (x_nm : ByteArray) (x_tg a b d : Int) (A : List Blk) (nb : Nat) (us : List Nat) : evOwnK false E (evC E fn (dp + 5)) 61 A nb (some ([.agg [vi p_w, vi p_wn, vi p_fu, vi p_r0, vi p_r1, vi p_r2, vi p_r3, rowD p_ms, rowD p_ls, rowD p_is], .agg [vi x_k, vi x_o, vi x_d, vb x_ag, vi x_an, vb x_bg, vi x_bn, vt x_nm, vi x_tg], vi a, vi b, vi d], us)) = some (.made (.d (vi (valueM (⟨p_w, p_wn, p_fu, ⟨p_r0, p_r1, p_r2, p_r3⟩, p_ms, p_ls, p_is⟩ : Prog) (⟨x_k, x_o, x_d, ⟨x_ag, x_an⟩, ⟨x_bg, x_bn⟩, x_nm, x_tg⟩ : Ins) a b d))) []) :=
 Says.flat (raw_seqm_Value S dp (⟨p_w, p_wn, p_fu, ⟨p_r0, p_r1, p_r2, p_r3⟩, p_ms, p_ls, p_is⟩ : Prog) (⟨x_k, x_o, x_d, ⟨x_ag, x_an⟩, ⟨x_bg, x_bn⟩, x_nm, x_tg⟩ : Ins) a b d ) (np S 61 (by decide)) (rfl) A nb us
theorem raw_seqm_Way (dp : Nat) (p : Prog) (x : Ins) (pc a b : Int) : Says E fn (dp + 5) 63 [progD p, .agg (Cl.cells x), vi pc, vi a, vi b] (vi (wayM p x pc a b)) := by
 unfold Says
 show ansOf (evC E fn (dp + 4 + 1) 63 [.d (progD p), .d (.agg (Cl.cells x)), .d (vi pc), .d (vi a), .d (vi b)] []) = _
 rw [evC_succ, S.f_seqm_Way, apF_some, F_seqm_Way, mkF_run _ _ _ _ _ _ _ _ rfl]
 by_cases h : x.kind = 7
 ·simp only [eG, go_sem, thq S, nbr S, zN0, zN1, zN2, zN3, zN4, zI0, zI1, zI2, zI3, reduceCtorEq, o63_10 S, h, wayM]
 ·by_cases h2 : Md.wdo p.w x.op a b = 0
  ·simp only [eG, go_sem, thq S, nbr S, zN0, zN1, zN2, zN3, zN4, zI0, zI1, zI2, zI3, reduceCtorEq, o63_10 S, h, wayM, c_word_Do S, h2, Bool.not_true, Bool.not_false, Md.w64]
  ·simp only [eG, go_sem, thq S, nbr S, zN0, zN1, zN2, zN3, zN4, zI0, zI1, zI2, zI3, reduceCtorEq, o63_10 S, h, wayM, c_word_Do S, h2, Bool.not_true, Bool.not_false, Md.w64]
theorem c_seqm_Way (dp : Nat) (p_w p_wn p_fu p_r0 p_r1 p_r2 p_r3 : Int) (p_ms : List MemT) (p_ls : List Label) (p_is : List Ins) (x_k x_o x_d : Int) (x_ag : Bool) (x_an : Int) (x_bg : Bool) (x_bn : Int) (x_nm : ByteArray) (x_tg pc a b : Int) (A : List Blk) (nb : Nat) (us : List Nat) : evOwnK false E (evC E fn (dp + 5)) 63 A nb (some ([.agg [vi p_w, vi p_wn, vi p_fu, vi p_r0, vi p_r1, vi p_r2, vi p_r3, rowD p_ms, rowD p_ls, rowD p_is], .agg [vi x_k, vi x_o, vi x_d, vb x_ag, vi x_an, vb x_bg, vi x_bn, vt x_nm, vi x_tg], vi pc, vi a, vi b], us)) = some (.made (.d (vi (wayM (⟨p_w, p_wn, p_fu, ⟨p_r0, p_r1, p_r2, p_r3⟩, p_ms, p_ls, p_is⟩ : Prog) (⟨x_k, x_o, x_d, ⟨x_ag, x_an⟩, ⟨x_bg, x_bn⟩, x_nm, x_tg⟩ : Ins) pc a b))) []) :=
 Says.flat (raw_seqm_Way S dp (⟨p_w, p_wn, p_fu, ⟨p_r0, p_r1, p_r2, p_r3⟩, p_ms, p_ls, p_is⟩ : Prog) (⟨x_k, x_o, x_d, ⟨x_ag, x_an⟩, ⟨x_bg, x_bn⟩, x_nm, x_tg⟩ : Ins) pc a b ) (np S 63 (by decide)) (rfl) A nb us
theorem raw_seqm_Address (dp : Nat) (p : Prog) (a b : Int) (hm : p.mems.length < 1073741824) : Says E fn (dp + 4) 68 [progD p, vi a, vi b] (.tup [vi (Md.mask p.w (a + b)), vb (decide (Md.mask p.w (a + b) < cellsI p.mems))]) := by
 unfold Says
 show ansOf (evC E fn (dp + 3 + 1) 68 [.d (progD p), .d (vi a), .d (vi b)] []) = _
 rw [evC_succ, S.f_seqm_Address, apF_some, F_seqm_Address, mkF_run _ _ _ _ _ _ _ _ rfl]
 simp only [eG, go_sem, thq S, nbr S, zN0, zN1, zN2, zN3, zN4, zI0, zI1, zI2, zI3, reduceCtorEq, c_word_Mask S, Md.mask_wrap, c_arch_Cells S, hm]
theorem c_seqm_Address (dp : Nat) (p_w p_wn p_fu p_r0 p_r1 p_r2 p_r3 : Int) (p_ms : List MemT) (p_ls : List Label) (p_is : List Ins) (a b : Int) (hm : (⟨p_w, p_wn, p_fu, ⟨p_r0, p_r1, p_r2, p_r3⟩, p_ms, p_ls, p_is⟩ : Prog).mems.length < 1073741824) (A : List Blk) (nb : Nat) (us : List Nat) : evOwnK false E (evC E fn (dp + 4)) 68 A nb (some ([.agg [vi p_w, vi p_wn, vi p_fu, vi p_r0, vi p_r1, vi p_r2, vi p_r3, rowD p_ms, rowD p_ls, rowD p_is], vi a, vi b], us)) = some (.made (.d (.tup [vi (Md.mask (⟨p_w, p_wn, p_fu, ⟨p_r0, p_r1, p_r2, p_r3⟩, p_ms, p_ls, p_is⟩ : Prog).w (a + b)), vb (decide (Md.mask (⟨p_w, p_wn, p_fu, ⟨p_r0, p_r1, p_r2, p_r3⟩, p_ms, p_ls, p_is⟩ : Prog).w (a + b) < cellsI (⟨p_w, p_wn, p_fu, ⟨p_r0, p_r1, p_r2, p_r3⟩, p_ms, p_ls, p_is⟩ : Prog).mems))])) []) :=
 Says.flat (raw_seqm_Address S dp (⟨p_w, p_wn, p_fu, ⟨p_r0, p_r1, p_r2, p_r3⟩, p_ms, p_ls, p_is⟩ : Prog) a b hm) (np S 68 (by decide)) (rfl) A nb us
theorem raw_retb_Pop (dp : Nat) (l : List Int) (hl : l.length < 1073741824) : Says E fn (dp + 1) 104 [rowD l] (.tup [vi (Md.lastI l), rowD l.dropLast, vb (decide (l.length ≠ 0))]) := by
 unfold Says
 show ansOf (evC E fn (dp + 1) 104 [.d (rowD l)] []) = _
 rw [evC_succ, S.f_retb_Pop, apF_some, F_retb_Pop, mkF_run _ _ _ _ _ _ _ _ rfl]
 by_cases h : l.length = 0
 ·have : l = [] := List.length_eq_zero_iff.1 h
  subst this
  simp only [eG, go_sem, thq S, nbr S, zN0, zN1, zN2, zN3, zN4, zI0, zI1, zI2, zI3, reduceCtorEq, o104_10 S, List.length_nil, Int.natCast_eq_zero, Md.lastI]
  rfl
 ·have hlast : l[l.length - 1]? = some (Md.lastI l) := by
   unfold Md.lastI
   rw [List.getLast?_eq_getElem?]
   obtain ⟨e, he⟩ := get_of (show l.length - 1 < l.length by omega)
   rw [he]; rfl
  have w2 : IntKind.i64.wrap ((l.length : Int) - 1) = ((l.length - 1 : Nat) : Int) := by rw [wrap_i64 (by omega) (by omega)]; omega
  have bd := bndsV_hi l.length .i64 ((l.length - 1 : Nat) : Int) (by omega) (by omega)
  have hdl : l.take (l.length - 1) = l.dropLast := List.dropLast_eq_take.symm
  have hdn : l.dropLast.length < 1073741824 := by simp; omega
  simp only [eG, go_sem, thq S, nbr S, zN0, zN1, zN2, zN3, zN4, zI0, zI1, zI2, zI3, reduceCtorEq, o104_10 S, eq_false h, Int.natCast_eq_zero, w2, bd, w_ix hlast, Int.toNat_natCast, List.drop_zero, Nat.sub_zero, hdl, c_cloneI S hdn, ne_eq, not_false_eq_true]
theorem c_retb_Pop (dp : Nat) (l : List Int) (hl : l.length < 1073741824) (A : List Blk) (nb : Nat) : evOwnK false E (evC E fn (dp + 1)) 104 A nb (some ([rowD l], [])) = some (.made (.d (.tup [vi (Md.lastI l), rowD l.dropLast, vb (decide (l.length ≠ 0))])) []) :=
 Says.deep (raw_retb_Pop S dp l hl) (np S 104 (by decide)) A nb
end
variable {E : Env} {fn : FuncId -> Option (Env -> CallT -> CallT)}
section
variable (S : Sur E fn)
include S
theorem o105_11 : E.lives 105 1 = none /\ E.lives 105 19 = none /\ E.lives 105 25 = none := ⟨off S 105 1 (by decide) rfl, off S 105 19 (by decide) rfl, off S 105 25 (by decide) rfl⟩
theorem o69_11 : E.lives 69 1 = none /\ E.lives 69 15 = none := ⟨off S 69 1 (by decide) rfl, off S 69 15 (by decide) rfl⟩
theorem loop_pLoad (dp : Nat) (p : Prog) (mem : List Int) (l : List Ent) (addr : Int) (hl : l.length < 1073741824) (kx : Nat -> K)
  (hx : ∀ T, getS .bot T 1 = .d (rowD mem) -> getS .bot T 4 = aint addr -> ∀ A, ansOf (kx 0 (mk .bot 65 T) (.cells ((progC p).map .d) 0 false :: A)) = some (.tup [vi (Md.loadGo p mem addr []).1, vi (Md.loadGo p mem addr []).2.1, vb (Md.loadGo p mem addr []).2.2])) :
  ∀ (k fuel : Nat), k <= l.length -> k < fuel -> ansOf (B8_memo_Load (inn E 105) (evC E fn (dp + 1)) (loopK 8 B8_memo_Load (inn E 105) (evC E fn (dp + 1)) kx (kEnd 0 [.tmp 10, .tmp 11, .tmp 12]) fuel) kx (kEnd 0 [.tmp 10, .tmp 11, .tmp 12])
   (mk .bot 65 [(1, .d (rowD mem)), (4, aint addr), (5, .ref 0 0 0), (13, .d (rowD l)), (14, aint ((k : Int) - 1))]) [.cells ((progC p).map .d) 0 false]) =
   some (.tup [vi (Md.loadGo p mem addr (l.take k).reverse).1, vi (Md.loadGo p mem addr (l.take k).reverse).2.1, vb (Md.loadGo p mem addr (l.take k).reverse).2.2]) := by
 intro k
 induction k with
 | zero =>
  intro fuel _ hf
  generalize loopK 8 B8_memo_Load _ _ kx _ fuel = KK
  rw [B8_memo_Load]
  simp only [eG, go_sem, thq S, nbr S, zN0, zN1, zN2, zN3, zN4, zI0, zI1, zI2, zI3, reduceCtorEq, o105_11 S, show ¬ (((0 : Nat) : Int) - 1 >= 0) by omega, List.take_zero, List.reverse_nil]
  exact hx _ rfl rfl []
 | succ k ih =>
  intro fuel hk hf
  obtain ⟨e, he⟩ := get_of (show k < l.length by omega)
  obtain ⟨fuel, rfl⟩ : ∃ m, fuel = m + 1 := ⟨fuel - 1, by omega⟩
  rw [show (((k + 1 : Nat) : Int) - 1) = (k : Int) by omega, take_rev he]
  generalize hK : loopK 8 B8_memo_Load _ _ kx _ (fuel + 1) = KK
  rw [B8_memo_Load]
  have hlen : (l.take k).reverse.length = k := by simp; omega
  by_cases h1 : (Md.at_ p e.pc).kind = 3
  ·cases h2 : e.known with
   | true =>
    by_cases h3 : e.addr = addr
    ·cases h4 : e.done <;> simp only [eG, go_sem, thq S, nbr S, zN0, zN1, zN2, zN3, zN4, zI0, zI1, zI2, zI3, reduceCtorEq, o105_11 S, w_ix he, c_seqm_At S, Int.natCast_nonneg, ge_iff_le, wd k (by omega), Bool.not_true, Bool.not_false, h1, h2, eq_true h3, h4, Md.loadGo, Md.hitS, hlen]
    ·simp only [eG, go_sem, thq S, nbr S, zN0, zN1, zN2, zN3, zN4, zI0, zI1, zI2, zI3, reduceCtorEq, o105_11 S, w_ix he, c_seqm_At S, Int.natCast_nonneg, ge_iff_le, wd k (by omega), Bool.not_true, Bool.not_false, h1, h2, eq_false h3, Md.loadGo, Md.hitS]
     rw [<- hK, loop_in (on S _ _ [1, 4, 5, 13, 14] (by decide) rfl) rfl _ _ _ _ _ _ _ _ _ rfl]
     simp only [eG, go_sem, thq S, nbr S, zN0, zN1, zN2, zN3, zN4, zI0, zI1, zI2, zI3, reduceCtorEq, o105_11 S, w_ix he, c_seqm_At S, Int.natCast_nonneg, ge_iff_le, wd k (by omega), Bool.not_true, Bool.not_false]
     exact ih fuel (by omega) (by omega)
   | false =>
    simp only [eG, go_sem, thq S, nbr S, zN0, zN1, zN2, zN3, zN4, zI0, zI1, zI2, zI3, reduceCtorEq, o105_11 S, w_ix he, c_seqm_At S, Int.natCast_nonneg, ge_iff_le, wd k (by omega), Bool.not_true, Bool.not_false, h1, h2, Md.loadGo, Md.hitS]
    rw [<- hK, loop_in (on S _ _ [1, 4, 5, 13, 14] (by decide) rfl) rfl _ _ _ _ _ _ _ _ _ rfl]
    simp only [eG, go_sem, thq S, nbr S, zN0, zN1, zN2, zN3, zN4, zI0, zI1, zI2, zI3, reduceCtorEq, o105_11 S, w_ix he, c_seqm_At S, Int.natCast_nonneg, ge_iff_le, wd k (by omega), Bool.not_true, Bool.not_false]
    exact ih fuel (by omega) (by omega)
  ·simp only [eG, go_sem, thq S, nbr S, zN0, zN1, zN2, zN3, zN4, zI0, zI1, zI2, zI3, reduceCtorEq, o105_11 S, w_ix he, c_seqm_At S, Int.natCast_nonneg, ge_iff_le, wd k (by omega), Bool.not_true, Bool.not_false, eq_false h1, Md.loadGo, Md.hitS]
   rw [<- hK, loop_in (on S _ _ [1, 4, 5, 13, 14] (by decide) rfl) rfl _ _ _ _ _ _ _ _ _ rfl]
   simp only [eG, go_sem, thq S, nbr S, zN0, zN1, zN2, zN3, zN4, zI0, zI1, zI2, zI3, reduceCtorEq, o105_11 S, w_ix he, c_seqm_At S, Int.natCast_nonneg, ge_iff_le, wd k (by omega), Bool.not_true, Bool.not_false]
   exact ih fuel (by omega) (by omega)
theorem raw_memo_Load (dp : Nat) (p : Prog) (mem : List Int) (l : List Ent) (i addr : Int) (hl : l.length < 1073741824) : Says E fn (dp + 3) 105 [progD p, rowD mem, rowD l, vi i, vi addr] (.tup [vi (Md.load p mem l i addr).1, vi (Md.load p mem l i addr).2.1, vb (Md.load p mem l i addr).2.2]) := by
 unfold Says
 show ansOf (evC E fn (dp + 2 + 1) 105 [.d (progD p), .d (rowD mem), .d (rowD l), .d (vi i), .d (vi addr)] []) = _
 rw [evC_succ, S.f_memo_Load, apF_some, F_memo_Load, mkF_run _ _ _ _ _ _ _ _ rfl]
 have hcl := cut_len l i
 have e : (Md.cut l i).take (Md.cut l i).length = Md.cut l i := List.take_of_length_le (by omega)
 have e2 : Md.load p mem l i addr = Md.loadGo p mem addr ((Md.cut l i).take (Md.cut l i).length).reverse := by rw [e]; rfl
 rw [e2]
 simp only [eG, go_sem, thq S, nbr S, zN0, zN1, zN2, zN3, zN4, zI0, zI1, zI2, zI3, reduceCtorEq, o105_11 S, c_robq_Cut S, hl, wd _ (show (Md.cut l i).length < 4611686018427387904 by omega)]
 rw [big_eq, loop_in (on S _ _ [1, 4, 5, 13, 14] (by decide) rfl) rfl _ _ _ _ _ _ _ _ _ rfl]
 simp only [eG, go_sem, thq S, nbr S, zN0, zN1, zN2, zN3, zN4, zI0, zI1, zI2, zI3, reduceCtorEq, o105_11 S]
 refine loop_pLoad S (dp + 1) p mem (Md.cut l i) addr (by omega) _ ?_ _ _ (Nat.le_refl _) (by omega)
 intro T h1 h4 A
 by_cases h : addr < 0
 ·simp only [eG, go_sem, thq S, nbr S, zN0, zN1, zN2, zN3, zN4, zI0, zI1, zI2, zI3, reduceCtorEq, o105_11 S, h1, h4, h, Md.loadGo]
 ·by_cases h2 : (mem.length : Int) <= addr
  ·simp only [eG, go_sem, thq S, nbr S, zN0, zN1, zN2, zN3, zN4, zI0, zI1, zI2, zI3, reduceCtorEq, o105_11 S, h1, h4, h, ge_iff_le, h2, Md.loadGo]
  ·obtain ⟨e, he⟩ := get_of (show addr.toNat < mem.length by omega)
   simp only [eG, go_sem, thq S, nbr S, zN0, zN1, zN2, zN3, zN4, zI0, zI1, zI2, zI3, reduceCtorEq, o105_11 S, h1, h4, h, ge_iff_le, h2, Md.loadGo, w_ixI (show 0 <= addr by omega) he, he, Option.getD_some]
theorem c_memo_Load (dp : Nat) (p_w p_wn p_fu p_r0 p_r1 p_r2 p_r3 : Int) (p_ms : List MemT) (p_ls : List Label) (p_is : List Ins) (mem : List Int) (l : List Ent) (i addr : Int) (hl : l.length < 1073741824) (A : List Blk) (nb : Nat) (us : List Nat) : evOwnK false E (evC E fn (dp + 3)) 105 A nb (some ([.agg [vi p_w, vi p_wn, vi p_fu, vi p_r0, vi p_r1, vi p_r2, vi p_r3, rowD p_ms, rowD p_ls, rowD p_is], rowD mem, rowD l, vi i, vi addr], us)) = some (.made (.d (.tup [vi (Md.load (⟨p_w, p_wn, p_fu, ⟨p_r0, p_r1, p_r2, p_r3⟩, p_ms, p_ls, p_is⟩ : Prog) mem l i addr).1, vi (Md.load (⟨p_w, p_wn, p_fu, ⟨p_r0, p_r1, p_r2, p_r3⟩, p_ms, p_ls, p_is⟩ : Prog) mem l i addr).2.1, vb (Md.load (⟨p_w, p_wn, p_fu, ⟨p_r0, p_r1, p_r2, p_r3⟩, p_ms, p_ls, p_is⟩ : Prog) mem l i addr).2.2])) []) :=
 Says.flat (raw_memo_Load S dp (⟨p_w, p_wn, p_fu, ⟨p_r0, p_r1, p_r2, p_r3⟩, p_ms, p_ls, p_is⟩ : Prog) mem l i addr hl) (np S 105 (by decide)) (rfl) A nb us
theorem loop_pHaz (dp : Nat) (p : Prog) (l : List Ent) (i addr : Int) (hl : l.length < 1073741824) (kx : Nat -> K)
  (hx : ∀ T A, ansOf (kx 0 (mk .bot 51 T) A) = some (.tup [vi 0, vb false])) :
  ∀ (m k fuel : Nat), (k + m = l.length ∨ (m = 0 /\ l.length <= k)) -> k <= l.length + 1 -> m <= fuel -> ansOf (B6_memo_Hazard (inn E 69) (evC E fn (dp + 1)) (loopK 6 B6_memo_Hazard (inn E 69) (evC E fn (dp + 1)) kx (kEnd 0 [.tmp 8, .tmp 9]) fuel) kx (kEnd 0 [.tmp 8, .tmp 9])
   (mk .bot 51 [(1, .d (rowD l)), (2, aint i), (3, aint addr), (4, .ref 0 0 0), (10, aint k)]) [.cells ((progC p).map .d) 0 false]) =
   some (.tup [vi (Md.hazGo p i addr k (l.drop k)).1, vb (Md.hazGo p i addr k (l.drop k)).2]) := by
 intro m
 induction m with
 | zero =>
  intro k fuel hk hk2 _
  generalize loopK 6 B6_memo_Hazard _ _ kx _ fuel = KK
  rw [B6_memo_Hazard, List.drop_of_length_le (by omega)]
  simp only [eG, go_sem, thq S, nbr S, zN0, zN1, zN2, zN3, zN4, zI0, zI1, zI2, zI3, reduceCtorEq, o69_11 S, show ¬ (k : Int) < l.length by omega, Md.hazGo]
  exact hx _ _
 | succ m ih =>
  intro k fuel hk hk2 hf
  obtain ⟨e, he⟩ := get_of (show k < l.length by omega)
  obtain ⟨fuel, rfl⟩ : ∃ m, fuel = m + 1 := ⟨fuel - 1, by omega⟩
  generalize hK : loopK 6 B6_memo_Hazard _ _ kx _ (fuel + 1) = KK
  rw [B6_memo_Hazard, drop_get he]
  have h2 : (k : Int) < l.length := by omega
  by_cases k2 : (Md.at_ p e.pc).kind = 2
  ·cases hk : e.known with
   | true =>
    by_cases ha : e.addr = addr
    ·by_cases hfr : e.frm < i
     ·simp only [eG, go_sem, thq S, nbr S, zN0, zN1, zN2, zN3, zN4, zI0, zI1, zI2, zI3, reduceCtorEq, o69_11 S, w_ix he, c_seqm_At S, wi k (by omega), h2, k2, hk, eq_true ha, hfr, Md.hazGo, Md.hitL]
     ·simp only [eG, go_sem, thq S, nbr S, zN0, zN1, zN2, zN3, zN4, zI0, zI1, zI2, zI3, reduceCtorEq, o69_11 S, w_ix he, c_seqm_At S, wi k (by omega), h2, k2, hk, eq_true ha, hfr, Md.hazGo, Md.hitL]
      rw [<- hK, loop_in (on S _ _ [1, 2, 3, 4, 10] (by decide) rfl) rfl _ _ _ _ _ _ _ _ _ rfl]
      simp only [eG, go_sem, thq S, nbr S, zN0, zN1, zN2, zN3, zN4, zI0, zI1, zI2, zI3, reduceCtorEq, o69_11 S, w_ix he, c_seqm_At S, wi k (by omega), h2]
      exact ih (k + 1) fuel (by omega) (by omega) (by omega)
    ·simp only [eG, go_sem, thq S, nbr S, zN0, zN1, zN2, zN3, zN4, zI0, zI1, zI2, zI3, reduceCtorEq, o69_11 S, w_ix he, c_seqm_At S, wi k (by omega), h2, k2, hk, eq_false ha, Md.hazGo, Md.hitL]
     rw [<- hK, loop_in (on S _ _ [1, 2, 3, 4, 10] (by decide) rfl) rfl _ _ _ _ _ _ _ _ _ rfl]
     simp only [eG, go_sem, thq S, nbr S, zN0, zN1, zN2, zN3, zN4, zI0, zI1, zI2, zI3, reduceCtorEq, o69_11 S, w_ix he, c_seqm_At S, wi k (by omega), h2]
     exact ih (k + 1) fuel (by omega) (by omega) (by omega)
   | false =>
    simp only [eG, go_sem, thq S, nbr S, zN0, zN1, zN2, zN3, zN4, zI0, zI1, zI2, zI3, reduceCtorEq, o69_11 S, w_ix he, c_seqm_At S, wi k (by omega), h2, k2, hk, Md.hazGo, Md.hitL]
    rw [<- hK, loop_in (on S _ _ [1, 2, 3, 4, 10] (by decide) rfl) rfl _ _ _ _ _ _ _ _ _ rfl]
    simp only [eG, go_sem, thq S, nbr S, zN0, zN1, zN2, zN3, zN4, zI0, zI1, zI2, zI3, reduceCtorEq, o69_11 S, w_ix he, c_seqm_At S, wi k (by omega), h2]
    exact ih (k + 1) fuel (by omega) (by omega) (by omega)
  ·simp only [eG, go_sem, thq S, nbr S, zN0, zN1, zN2, zN3, zN4, zI0, zI1, zI2, zI3, reduceCtorEq, o69_11 S, w_ix he, c_seqm_At S, wi k (by omega), h2, eq_false k2, Md.hazGo, Md.hitL]
   rw [<- hK, loop_in (on S _ _ [1, 2, 3, 4, 10] (by decide) rfl) rfl _ _ _ _ _ _ _ _ _ rfl]
   simp only [eG, go_sem, thq S, nbr S, zN0, zN1, zN2, zN3, zN4, zI0, zI1, zI2, zI3, reduceCtorEq, o69_11 S, w_ix he, c_seqm_At S, wi k (by omega), h2]
   exact ih (k + 1) fuel (by omega) (by omega) (by omega)
theorem raw_memo_Hazard (dp : Nat) (p : Prog) (l : List Ent) (i addr : Int) (hl : l.length < 1073741824) (hi0 : i < 4611686018427387904) (hi1 : -4611686018427387904 < i) : Says E fn (dp + 2) 69 [progD p, rowD l, vi i, vi addr] (.tup [vi (Md.hazard p l i addr).1, vb (Md.hazard p l i addr).2]) := by
 unfold Says
 show ansOf (evC E fn (dp + 1 + 1) 69 [.d (progD p), .d (rowD l), .d (vi i), .d (vi addr)] []) = _
 rw [evC_succ, S.f_memo_Hazard, apF_some, F_memo_Hazard, mkF_run _ _ _ _ _ _ _ _ rfl]
 have hh : Md.hazAt l i <= l.length + 1 := by unfold Md.hazAt; omega
 have hr : max (IntKind.i64.wrap (min i (l.length : Int) + 1)) 0 = (Md.hazAt l i : Int) := by rw [wrap_i64 (by omega) (by omega)]; unfold Md.hazAt; omega
 simp only [eG, go_sem, thq S, nbr S, zN0, zN1, zN2, zN3, zN4, zI0, zI1, zI2, zI3, reduceCtorEq, o69_11 S, hr]
 rw [big_eq, loop_in (on S _ _ [1, 2, 3, 4, 10] (by decide) rfl) rfl _ _ _ _ _ _ _ _ _ rfl]
 simp only [eG, go_sem, thq S, nbr S, zN0, zN1, zN2, zN3, zN4, zI0, zI1, zI2, zI3, reduceCtorEq, o69_11 S]
 refine loop_pHaz S dp p l i addr hl _ ?_ (l.length - Md.hazAt l i) (Md.hazAt l i) _ (by omega) hh (by omega)
 intro T A
 simp only [eG, go_sem, thq S, nbr S, zN0, zN1, zN2, zN3, zN4, zI0, zI1, zI2, zI3, reduceCtorEq, o69_11 S]
theorem c_memo_Hazard (dp : Nat) (p_w p_wn p_fu p_r0 p_r1 p_r2 p_r3 : Int) (p_ms : List MemT) (p_ls : List Label) (p_is : List Ins) (l : List Ent) (i addr : Int) (hl : l.length < 1073741824) (hi0 : i < 4611686018427387904) (hi1 : -4611686018427387904 < i) (A : List Blk) (nb : Nat) (us : List Nat) : evOwnK false E (evC E fn (dp + 2)) 69 A nb (some ([.agg [vi p_w, vi p_wn, vi p_fu, vi p_r0, vi p_r1, vi p_r2, vi p_r3, rowD p_ms, rowD p_ls, rowD p_is], rowD l, vi i, vi addr], us)) = some (.made (.d (.tup [vi (Md.hazard (⟨p_w, p_wn, p_fu, ⟨p_r0, p_r1, p_r2, p_r3⟩, p_ms, p_ls, p_is⟩ : Prog) l i addr).1, vb (Md.hazard (⟨p_w, p_wn, p_fu, ⟨p_r0, p_r1, p_r2, p_r3⟩, p_ms, p_ls, p_is⟩ : Prog) l i addr).2])) []) :=
 Says.flat (raw_memo_Hazard S dp (⟨p_w, p_wn, p_fu, ⟨p_r0, p_r1, p_r2, p_r3⟩, p_ms, p_ls, p_is⟩ : Prog) l i addr hl hi0 hi1) (np S 69 (by decide)) (rfl) A nb us
end
theorem own0A {α : Type} [Cl α] {l : List α} (h : l.length = 0) (i : Nat) : ownA i l = .d (.lst [] 0 (some 0)) := by rw [List.length_eq_zero_iff.1 h]; rfl
theorem own0B {α : Type} [Cl α] {l : List α} (h : l.length = 0) : ownB l = [] := by rw [List.length_eq_zero_iff.1 h]; rfl
variable {E : Env} {fn : FuncId -> Option (Env -> CallT -> CallT)}
section
variable (S : Sur E fn)
include S
theorem o127_12 : E.lives 127 7 = none /\ E.lives 127 17 = none /\ E.lives 127 19 = none := ⟨off S 127 7 (by decide) rfl, off S 127 17 (by decide) rfl, off S 127 19 (by decide) rfl⟩
theorem own_arch (dp : Nat) (r0 r1 r2 r3 : Int) (mm sk : List Int) (pc : Int) (hm : mm.length < 1073741824) (hs : sk.length < 1073741824) :
  evC E fn (dp + 1) 123 [.d (.agg [vi r0, vi r1, vi r2, vi r3, rowD mm, rowD sk, vi pc])] [] = some (.agg [aint r0, aint r1, aint r2, aint r3, ownA 0 mm, ownA (ownB mm).length sk, aint pc], ownB mm ++ ownB sk) := by
 rw [evC_succ, S.f_arch_Still, apF_some, F_arch_Still, mkF_run _ _ _ _ _ _ _ _ rfl]
 by_cases h1 : mm.length = 0 <;> by_cases h2 : sk.length = 0
 ·simp only [eG, go_sem, thq S, nbr S, zN0, zN1, zN2, zN3, zN4, zI0, zI1, zI2, zI3, reduceCtorEq, o_cloneI S hm, o_cloneI S hs, own0A h1, own0B h1, own0A h2, own0B h2]
 ·simp only [eG, go_sem, thq S, nbr S, zN0, zN1, zN2, zN3, zN4, zI0, zI1, zI2, zI3, reduceCtorEq, o_cloneI S hm, o_cloneI S hs, own0A h1, own0B h1, ownA_ne h2, ownB_ne h2]
 ·simp only [eG, go_sem, thq S, nbr S, zN0, zN1, zN2, zN3, zN4, zI0, zI1, zI2, zI3, reduceCtorEq, o_cloneI S hm, o_cloneI S hs, ownA_ne h1, ownB_ne h1, own0A h2, own0B h2]
 ·simp only [eG, go_sem, thq S, nbr S, zN0, zN1, zN2, zN3, zN4, zI0, zI1, zI2, zI3, reduceCtorEq, o_cloneI S hm, o_cloneI S hs, ownA_ne h1, ownB_ne h1, ownA_ne h2, ownB_ne h2]
theorem o_arch_Still (dp : Nat) (r0 r1 r2 r3 : Int) (mm sk : List Int) (pc : Int) (hm : mm.length < 1073741824) (hs : sk.length < 1073741824) (A : List Blk) (nb : Nat) :
  evOwnK true E (evC E fn (dp + 1)) 123 A nb (some ([.agg [vi r0, vi r1, vi r2, vi r3, rowD mm, rowD sk, vi pc]], [])) = some (.made (.agg [aint r0, aint r1, aint r2, aint r3, ownA nb mm, ownA (nb + (ownB mm).length) sk, aint pc]) (ownB mm ++ ownB sk)) := by
 have h := own_arch S dp r0 r1 r2 r3 mm sk pc hm hs
 have hr : evRaw E (evC E fn (dp + 1)) 123 [.agg [vi r0, vi r1, vi r2, vi r3, rowD mm, rowD sk, vi pc]] = some (.agg [aint r0, aint r1, aint r2, aint r3, ownA 0 mm, ownA (ownB mm).length sk, aint pc], ownB mm ++ ownB sk) := by
  unfold evRaw
  rw [np S 123 (by decide)]
  exact h
 simp only [evOwnK, hr, evAnsB, cond_true]
 by_cases h1 : mm.length = 0 <;> by_cases h2 : sk.length = 0
 ·have e1 : mm = [] := List.length_eq_zero_iff.1 h1
  have e2 : sk = [] := List.length_eq_zero_iff.1 h2
  subst e1 e2
  rfl
 ·have e1 : mm = [] := List.length_eq_zero_iff.1 h1
  subst e1
  simp [ownA_nil, ownB_nil, ownA_ne h2, ownB_ne h2, thaw, mapT, thawed, isEmptyL, memN, Cl.n]
 ·have e2 : sk = [] := List.length_eq_zero_iff.1 h2
  subst e2
  simp [ownA_nil, ownB_nil, ownA_ne h1, ownB_ne h1, thaw, mapT, thawed, isEmptyL, memN, Cl.n]
 ·simp [ownA_ne h1, ownB_ne h1, ownA_ne h2, ownB_ne h2, thaw, mapT, thawed, isEmptyL, memN, Cl.n]
theorem own_conf (dp : Nat) (r0 r1 r2 r3 : Int) (mm sk : List Int) (pc : Int) (bf : List Ent) (rb : List Int) (en : Int) (hm : mm.length < 1073741824) (hs : sk.length < 1073741824) (hb : bf.length < 1073741824) (hr : rb.length < 1073741824) :
  evC E fn (dp + 2) 95 [.d (.agg [vi r0, vi r1, vi r2, vi r3, rowD mm, rowD sk, vi pc, rowD bf, rowD rb, vi en])] [] = some (.agg [aint r0, aint r1, aint r2, aint r3, ownA 0 mm, ownA (ownB mm).length sk, aint pc, .d (rowD bf), .d (rowD rb), aint en], ownB mm ++ ownB sk) := by
 rw [evC_succ, S.f_conf_Still, apF_some, F_conf_Still, mkF_run _ _ _ _ _ _ _ _ rfl]
 by_cases h1 : mm.length = 0 <;> by_cases h2 : sk.length = 0
 ·simp only [eG, go_sem, thq S, nbr S, zN0, zN1, zN2, zN3, zN4, zI0, zI1, zI2, zI3, reduceCtorEq, o_arch_Still S, hm, hs, c_cloneE S hb, c_cloneI S hr, own0A h1, own0B h1, own0A h2, own0B h2]
 ·simp only [eG, go_sem, thq S, nbr S, zN0, zN1, zN2, zN3, zN4, zI0, zI1, zI2, zI3, reduceCtorEq, o_arch_Still S, hm, hs, c_cloneE S hb, c_cloneI S hr, own0A h1, own0B h1, ownA_ne h2, ownB_ne h2]
 ·simp only [eG, go_sem, thq S, nbr S, zN0, zN1, zN2, zN3, zN4, zI0, zI1, zI2, zI3, reduceCtorEq, o_arch_Still S, hm, hs, c_cloneE S hb, c_cloneI S hr, ownA_ne h1, ownB_ne h1, own0A h2, own0B h2]
 ·simp only [eG, go_sem, thq S, nbr S, zN0, zN1, zN2, zN3, zN4, zI0, zI1, zI2, zI3, reduceCtorEq, o_arch_Still S, hm, hs, c_cloneE S hb, c_cloneI S hr, ownA_ne h1, ownB_ne h1, ownA_ne h2, ownB_ne h2]
theorem raw_conf_Still (dp : Nat) (c : Conf) (hm : c.state.mem.length < 1073741824) (hs : c.state.stack.length < 1073741824) (hb : c.buf.length < 1073741824) (hr : c.rsb.length < 1073741824) : Says E fn (dp + 2) 95 [confD c] (confD c) := by
 unfold Says
 show ansOf (evC E fn (dp + 1 + 1) 95 [.d (confD c)] []) = _
 have h := own_conf S dp c.state.regs.r0 c.state.regs.r1 c.state.regs.r2 c.state.regs.r3 c.state.mem c.state.stack c.state.pc c.buf c.rsb c.end_ hm hs hb hr
 show ansOf (evC E fn (dp + 2) 95 [.d (.agg [vi c.state.regs.r0, vi c.state.regs.r1, vi c.state.regs.r2, vi c.state.regs.r3, rowD c.state.mem, rowD c.state.stack, vi c.state.pc, rowD c.buf, rowD c.rsb, vi c.end_])] []) = _
 rw [h]
 by_cases h1 : c.state.mem.length = 0 <;> by_cases h2 : c.state.stack.length = 0
 ·have e1 : c.state.mem = [] := List.length_eq_zero_iff.1 h1
  have e2 : c.state.stack = [] := List.length_eq_zero_iff.1 h2
  simp only [eG, go_sem, thq S, nbr S, zN0, zN1, zN2, zN3, zN4, zI0, zI1, zI2, zI3, reduceCtorEq, e1, e2, ownA_nil, ownB_nil]
 ·have e1 : c.state.mem = [] := List.length_eq_zero_iff.1 h1
  have n2 : c.state.stack ≠ [] := fun e => h2 (by rw [e]; rfl)
  have d2 : deep [.cells ((rowC c.state.stack).map .d) 0 false] 7 (.sref 0 0 0 c.state.stack.length 1 none) = some (.lst (rowC c.state.stack) c.state.stack.length none, [0]) := deep_all rfl n2 5 _ 1 none rfl rfl
  simp only [eG, go_sem, thq S, nbr S, zN0, zN1, zN2, zN3, zN4, zI0, zI1, zI2, zI3, reduceCtorEq, e1, ownA_nil, ownB_nil, ownA_ne h2, ownB_ne h2, d2]; rfl
 ·have e2 : c.state.stack = [] := List.length_eq_zero_iff.1 h2
  have n1 : c.state.mem ≠ [] := fun e => h1 (by rw [e]; rfl)
  have d1 : deep [.cells ((rowC c.state.mem).map .d) 0 false] 7 (.sref 0 0 0 c.state.mem.length 1 none) = some (.lst (rowC c.state.mem) c.state.mem.length none, [0]) := deep_all rfl n1 5 _ 1 none rfl rfl
  simp only [eG, go_sem, thq S, nbr S, zN0, zN1, zN2, zN3, zN4, zI0, zI1, zI2, zI3, reduceCtorEq, e2, ownA_nil, ownB_nil, ownA_ne h1, ownB_ne h1, d1]; rfl
 ·have n2 : c.state.stack ≠ [] := fun e => h2 (by rw [e]; rfl)
  have n1 : c.state.mem ≠ [] := fun e => h1 (by rw [e]; rfl)
  have d1 : deep [.cells ((rowC c.state.mem).map .d) 0 false, .cells ((rowC c.state.stack).map .d) 0 false] 7 (.sref 0 0 0 c.state.mem.length 1 none) = some (.lst (rowC c.state.mem) c.state.mem.length none, [0]) := deep_all rfl n1 5 _ 1 none rfl rfl
  have d2 : deep [.cells ((rowC c.state.mem).map .d) 0 false, .cells ((rowC c.state.stack).map .d) 0 false] 7 (.sref 1 0 0 c.state.stack.length 1 none) = some (.lst (rowC c.state.stack) c.state.stack.length none, [1]) := deep_all rfl n2 5 _ 1 none rfl rfl
  simp only [eG, go_sem, thq S, nbr S, zN0, zN1, zN2, zN3, zN4, zI0, zI1, zI2, zI3, reduceCtorEq, ownA_ne h1, ownB_ne h1, ownA_ne h2, ownB_ne h2, d1, d2]; rfl
theorem c_conf_Still (dp : Nat) (c_r0 c_r1 c_r2 c_r3 : Int) (c_mm c_st : List Int) (c_pc : Int) (c_bf : List Ent) (c_rb : List Int) (c_en : Int) (hm : (⟨⟨⟨c_r0, c_r1, c_r2, c_r3⟩, c_mm, c_st, c_pc⟩, c_bf, c_rb, c_en⟩ : Conf).state.mem.length < 1073741824) (hs : (⟨⟨⟨c_r0, c_r1, c_r2, c_r3⟩, c_mm, c_st, c_pc⟩, c_bf, c_rb, c_en⟩ : Conf).state.stack.length < 1073741824) (hb : (⟨⟨⟨c_r0, c_r1, c_r2, c_r3⟩, c_mm, c_st, c_pc⟩, c_bf, c_rb, c_en⟩ : Conf).buf.length < 1073741824) (hr : (⟨⟨⟨c_r0, c_r1, c_r2, c_r3⟩, c_mm, c_st, c_pc⟩, c_bf, c_rb, c_en⟩ : Conf).rsb.length < 1073741824) (A : List Blk) (nb : Nat) : evOwnK false E (evC E fn (dp + 2)) 95 A nb (some ([.agg [vi c_r0, vi c_r1, vi c_r2, vi c_r3, rowD c_mm, rowD c_st, vi c_pc, rowD c_bf, rowD c_rb, vi c_en]], [])) = some (.made (.d (confD (⟨⟨⟨c_r0, c_r1, c_r2, c_r3⟩, c_mm, c_st, c_pc⟩, c_bf, c_rb, c_en⟩ : Conf))) []) :=
 Says.deep (raw_conf_Still S dp (⟨⟨⟨c_r0, c_r1, c_r2, c_r3⟩, c_mm, c_st, c_pc⟩, c_bf, c_rb, c_en⟩ : Conf) hm hs hb hr) (np S 95 (by decide)) A nb
theorem c_Backward (dp : Nat) (l : List Ent) (A : List Blk) (nb : Nat) : evOwnK false E (evC E fn (dp + 1)) 137 A nb (some ([rowD l], [])) = some (.made (.d (.fn (.func 140) [.vptr [rowD l]])) []) := by
 have h : Says E fn (dp + 1) 137 [rowD l] (.fn (.func 140) [.vptr [rowD l]]) := by
  unfold Says
  show ansOf (evC E fn (dp + 1) 137 [.d (rowD l)] []) = _
  rw [evC_succ, S.f_slices_Backward_api_Ent_api_Ent, apF_some, F_slices_Backward_api_Ent_api_Ent, mkF_run _ _ _ _ _ _ _ _ rfl]
  simp only [eG, go_sem, thq S, nbr S, zN0, zN1, zN2, zN3, zN4, zI0, zI1, zI2, zI3, reduceCtorEq, deep_ref]
 exact h.deep (np S 137 (by decide)) A nb
theorem rounds_pReg (dp : Nat) (p : Prog) (of : Regs) (l : List Ent) (r : Int) (hl : l.length < 1073741824) (kn : K) (kx : Nat -> K) (D : Int) (d : AV) (T : List (Nat × AV))
  (h5 : getS d T 5 = .ref 0 0 0) (h9 : getS d T 9 = .ref 2 0 0) (h10 : getS d T 10 = .ref 3 0 0) (h11 : getS d T 11 = .ref 4 0 0)
  (hx : ∀ A, ansOf (kn (mk d 50 T) (.cells ((progC p).map .d) 0 false :: .cells ((regsC of).map .d) 0 false :: .cells [aint r] 0 false :: .cells [zi] 0 false :: .cells [zb] 0 false :: A)) = some (.tup [vi D, vb true])) :
  ∀ (k : Nat), k <= l.length -> ∀ es, backElems (rowC l) 8 true k = some es -> ∀ A, ansOf (roundsK RA_reso_Reg RB_reso_Reg [26, 27] (inn E 127) (evC E fn (dp + 1)) kn kx (kEnd 0 [.cell 10 false 1, .cell 11 false 1]) (mk d 50 T) es (.cells ((progC p).map .d) 0 false :: .cells ((regsC of).map .d) 0 false :: .cells [aint r] 0 false :: .cells [zi] 0 false :: .cells [zb] 0 false :: A)) =
   some (.tup [vi (Md.regGo p r D (l.take k).reverse).1, vb (Md.regGo p r D (l.take k).reverse).2]) := by
 intro k
 induction k with
 | zero =>
  intro _ es hes A
  have : es = [] := by simpa [backElems] using hes.symm
  subst this
  exact hx A
 | succ k ih =>
  intro hk es hes A
  obtain ⟨e, he⟩ := get_of (show k < l.length by omega)
  obtain ⟨es0, h0⟩ := back_some (s := 8) rfl l k (by omega)
  have := back_succ (s := 8) rfl he h0 hes
  subst this
  rw [take_rev he]
  have ih' := fun A' => ih (by omega) es0 h0 A'
  rw [roundsK]
  generalize hK : (fun (x : List AV) (A2 : List Blk) => roundsK RA_reso_Reg RB_reso_Reg [26, 27] (inn E 127) (evC E fn (dp + 1)) kn kx (kEnd 0 [.cell 10 false 1, .cell 11 false 1]) (mk d 50 T) es0 A2) = KK
  rw [RA_reso_Reg, RB_reso_Reg]
  by_cases h1 : Md.destK (Md.at_ p e.pc) = true
  ·by_cases h2 : (Md.at_ p e.pc).d = r
   ·cases h3 : e.done <;> simp only [eG, go_sem, thq S, nbr S, zN0, zN1, zN2, zN3, zN4, zI0, zI1, zI2, zI3, reduceCtorEq, o127_12 S, h5, h9, h10, h11, c_seqm_At S, c_reso_Dest S, Md.regGo, Md.dest, h1, eq_true h2, h3]
   ·simp only [eG, go_sem, thq S, nbr S, zN0, zN1, zN2, zN3, zN4, zI0, zI1, zI2, zI3, reduceCtorEq, o127_12 S, h5, h9, h10, h11, c_seqm_At S, c_reso_Dest S, Md.regGo, Md.dest, h1, eq_false h2]
    rw [<- hK]
    exact ih' _
  ·have h1' : Md.destK (Md.at_ p e.pc) = false := by simpa using h1
   simp only [eG, go_sem, thq S, nbr S, zN0, zN1, zN2, zN3, zN4, zI0, zI1, zI2, zI3, reduceCtorEq, o127_12 S, h5, h9, h10, h11, c_seqm_At S, c_reso_Dest S, Md.regGo, Md.dest, h1']
   rw [<- hK]
   exact ih' _
end
def idxGo (p : Prog) : Nat -> List Ent -> Int
 | _, [] => -1
 | k, e :: l => bif Md.isFence p e then (k : Int) else idxGo p (k + 1) l
theorem idxGo_any (p : Prog) : ∀ (l : List Ent) (k : Nat), decide (idxGo p k l >= 0) = l.any (Md.isFence p)
 | [], _ => rfl
 | e :: l, k => by
  rw [idxGo, List.any_cons]
  cases h : Md.isFence p e with
  | true => simp
  | false =>
   rw [cond_false, Bool.false_or]
   exact idxGo_any p l (k + 1)
variable {E : Env} {fn : FuncId -> Option (Env -> CallT -> CallT)}
section
variable (S : Sur E fn)
include S
theorem o127_13 : E.lives 127 7 = none /\ E.lives 127 17 = none /\ E.lives 127 19 = none := ⟨off S 127 7 (by decide) rfl, off S 127 17 (by decide) rfl, off S 127 19 (by decide) rfl⟩
theorem o101_13 : E.lives 101 7 = none := off S 101 7 (by decide) rfl
theorem o136_13 : E.lives 136 1 = none /\ E.lives 136 13 = none := ⟨off S 136 1 (by decide) rfl, off S 136 13 (by decide) rfl⟩
theorem raw_reso_Reg (dp : Nat) (p : Prog) (of : Regs) (l : List Ent) (i r : Int) (hl : l.length < 1073741824) : Says E fn (dp + 3) 127 [progD p, .agg (regsC of), rowD l, vi i, vi r] (.tup [vi (Md.reg p of l i r).1, vb (Md.reg p of l i r).2]) := by
 unfold Says
 show ansOf (evC E fn (dp + 2 + 1) 127 [.d (progD p), .d (.agg (regsC of)), .d (rowD l), .d (vi i), .d (vi r)] []) = _
 rw [evC_succ, S.f_reso_Reg, apF_some, F_reso_Reg, mkF_run _ _ _ _ _ _ _ _ rfl]
 have hcl := cut_len l i
 by_cases h : r < 0
 ·simp only [eG, go_sem, thq S, nbr S, zN0, zN1, zN2, zN3, zN4, zI0, zI1, zI2, zI3, reduceCtorEq, o127_13 S, h, Md.reg]
 by_cases h2 : r >= 4
 ·simp only [eG, go_sem, thq S, nbr S, zN0, zN1, zN2, zN3, zN4, zI0, zI1, zI2, zI3, reduceCtorEq, o127_13 S, h, h2, Md.reg, show 4 <= r by omega]
 ·have e1 : (Md.cut l i).take (Md.cut l i).length = Md.cut l i := List.take_of_length_le (by omega)
  have e : Md.reg p of l i r = Md.regGo p r (Md.getR of r) ((Md.cut l i).take (Md.cut l i).length).reverse := by
   unfold Md.reg; rw [if_neg (by omega), e1]
  rw [e]
  obtain ⟨es, hes⟩ := back_some (s := 8) rfl (Md.cut l i) (Md.cut l i).length (Nat.le_refl _)
  have hr := elems_row (E := inn E 127) (ag := true) S.bk rfl (Md.cut l i) (by unfold limA; omega) (by decide) (by simp) []
  rw [hes] at hr
  simp only [eG, go_sem, thq S, nbr S, zN0, zN1, zN2, zN3, zN4, zI0, zI1, zI2, zI3, reduceCtorEq, o127_13 S, h, h2, c_robq_Cut S, hl, c_Backward S, hr]
  refine rounds_pReg S (dp + 1) p of (Md.cut l i) r (by omega) _ _ (Md.getR of r) aundef _ rfl rfl rfl rfl ?_ _ (Nat.le_refl _) es hes []
  intro A
  obtain rfl | rfl | rfl | rfl : r = 0 ∨ r = 1 ∨ r = 2 ∨ r = 3 := by omega
  ·simp only [eG, go_sem, thq S, nbr S, zN0, zN1, zN2, zN3, zN4, zI0, zI1, zI2, zI3, reduceCtorEq, o127_13 S, Int.toNat_zero, Int.reduceToNat, Nat.zero_mul, Md.getR]; rfl
  ·simp only [eG, go_sem, thq S, nbr S, zN0, zN1, zN2, zN3, zN4, zI0, zI1, zI2, zI3, reduceCtorEq, o127_13 S, Int.reduceToNat, Nat.one_mul, Md.getR]; rfl
  ·simp only [eG, go_sem, thq S, nbr S, zN0, zN1, zN2, zN3, zN4, zI0, zI1, zI2, zI3, reduceCtorEq, o127_13 S, Int.reduceToNat, Md.getR]; rfl
  ·simp only [eG, go_sem, thq S, nbr S, zN0, zN1, zN2, zN3, zN4, zI0, zI1, zI2, zI3, reduceCtorEq, o127_13 S, Int.reduceToNat, Md.getR]; rfl
theorem c_reso_Reg (dp : Nat) (p_w p_wn p_fu p_r0 p_r1 p_r2 p_r3 : Int) (p_ms : List MemT) (p_ls : List Label) (p_is : List Ins) (of_r0 of_r1 of_r2 of_r3 : Int) (l : List Ent) (i r : Int) (hl : l.length < 1073741824) (A : List Blk) (nb : Nat) (us : List Nat) : evOwnK false E (evC E fn (dp + 3)) 127 A nb (some ([.agg [vi p_w, vi p_wn, vi p_fu, vi p_r0, vi p_r1, vi p_r2, vi p_r3, rowD p_ms, rowD p_ls, rowD p_is], .agg [vi of_r0, vi of_r1, vi of_r2, vi of_r3], rowD l, vi i, vi r], us)) = some (.made (.d (.tup [vi (Md.reg (⟨p_w, p_wn, p_fu, ⟨p_r0, p_r1, p_r2, p_r3⟩, p_ms, p_ls, p_is⟩ : Prog) (⟨of_r0, of_r1, of_r2, of_r3⟩ : Regs) l i r).1, vb (Md.reg (⟨p_w, p_wn, p_fu, ⟨p_r0, p_r1, p_r2, p_r3⟩, p_ms, p_ls, p_is⟩ : Prog) (⟨of_r0, of_r1, of_r2, of_r3⟩ : Regs) l i r).2])) []) :=
 Says.flat (raw_reso_Reg S dp (⟨p_w, p_wn, p_fu, ⟨p_r0, p_r1, p_r2, p_r3⟩, p_ms, p_ls, p_is⟩ : Prog) (⟨of_r0, of_r1, of_r2, of_r3⟩ : Regs) l i r hl) (np S 127 (by decide)) (rfl) A nb us
theorem raw_reso_Val (dp : Nat) (p : Prog) (of : Regs) (l : List Ent) (i : Int) (v : Val) (hl : l.length < 1073741824) : Says E fn (dp + 4) 101 [progD p, .agg (regsC of), rowD l, vi i, .agg (Cl.cells v)] (.tup [vi (Md.val p of l i v).1, vb (Md.val p of l i v).2]) := by
 unfold Says
 show ansOf (evC E fn (dp + 3 + 1) 101 [.d (progD p), .d (.agg (regsC of)), .d (rowD l), .d (vi i), .d (.agg (Cl.cells v))] []) = _
 rw [evC_succ, S.f_reso_Val, apF_some, F_reso_Val, mkF_run _ _ _ _ _ _ _ _ rfl]
 cases h : v.reg <;> simp only [eG, go_sem, thq S, nbr S, zN0, zN1, zN2, zN3, zN4, zI0, zI1, zI2, zI3, reduceCtorEq, o101_13 S, h, Md.val, c_reso_Reg S, hl, c_word_Mask S]
theorem c_reso_Val (dp : Nat) (p_w p_wn p_fu p_r0 p_r1 p_r2 p_r3 : Int) (p_ms : List MemT) (p_ls : List Label) (p_is : List Ins) (of_r0 of_r1 of_r2 of_r3 : Int) (l : List Ent) (i : Int) (v_g : Bool) (v_n : Int) (hl : l.length < 1073741824) (A : List Blk) (nb : Nat) (us : List Nat) : evOwnK false E (evC E fn (dp + 4)) 101 A nb (some ([.agg [vi p_w, vi p_wn, vi p_fu, vi p_r0, vi p_r1, vi p_r2, vi p_r3, rowD p_ms, rowD p_ls, rowD p_is], .agg [vi of_r0, vi of_r1, vi of_r2, vi of_r3], rowD l, vi i, .agg [vb v_g, vi v_n]], us)) = some (.made (.d (.tup [vi (Md.val (⟨p_w, p_wn, p_fu, ⟨p_r0, p_r1, p_r2, p_r3⟩, p_ms, p_ls, p_is⟩ : Prog) (⟨of_r0, of_r1, of_r2, of_r3⟩ : Regs) l i (⟨v_g, v_n⟩ : Val)).1, vb (Md.val (⟨p_w, p_wn, p_fu, ⟨p_r0, p_r1, p_r2, p_r3⟩, p_ms, p_ls, p_is⟩ : Prog) (⟨of_r0, of_r1, of_r2, of_r3⟩ : Regs) l i (⟨v_g, v_n⟩ : Val)).2])) []) :=
 Says.flat (raw_reso_Val S dp (⟨p_w, p_wn, p_fu, ⟨p_r0, p_r1, p_r2, p_r3⟩, p_ms, p_ls, p_is⟩ : Prog) (⟨of_r0, of_r1, of_r2, of_r3⟩ : Regs) l i (⟨v_g, v_n⟩ : Val) hl) (np S 101 (by decide)) (rfl) A nb us
theorem raw_reso_Blocked_1 (dp : Nat) (e : Ent) (p : Prog) : Says E fn (dp + 2) 126 [.agg (Cl.cells e), .vptr (progC p)] (vb (Md.isFence p e)) := by
 unfold Says
 show ansOf (evC E fn (dp + 1 + 1) 126 [.d (.agg (Cl.cells e)), .d (.vptr (progC p))] []) = _
 rw [evC_succ, S.f_reso_Blocked_1, apF_some, F_reso_Blocked_1, mkF_run _ _ _ _ _ _ _ _ rfl]
 simp only [eG, go_sem, thq S, nbr S, zN0, zN1, zN2, zN3, zN4, zI0, zI1, zI2, zI3, reduceCtorEq, c_seqm_At S, Md.isFence]
theorem c_reso_Blocked_1 (dp : Nat) (e_pc e_vl e_ad e_fr e_nx : Int) (e_dn e_kn e_ft : Bool) (p_w p_wn p_fu p_r0 p_r1 p_r2 p_r3 : Int) (p_ms : List MemT) (p_ls : List Label) (p_is : List Ins) (A : List Blk) (nb : Nat) (us : List Nat) : evOwnK false E (evC E fn (dp + 2)) 126 A nb (some ([.agg [vi e_pc, vi e_vl, vi e_ad, vi e_fr, vi e_nx, vb e_dn, vb e_kn, vb e_ft], .vptr [vi p_w, vi p_wn, vi p_fu, vi p_r0, vi p_r1, vi p_r2, vi p_r3, rowD p_ms, rowD p_ls, rowD p_is]], us)) = some (.made (.d (vb (Md.isFence (⟨p_w, p_wn, p_fu, ⟨p_r0, p_r1, p_r2, p_r3⟩, p_ms, p_ls, p_is⟩ : Prog) (⟨e_pc, e_vl, e_ad, e_fr, e_nx, e_dn, e_kn, e_ft⟩ : Ent)))) []) :=
 Says.flat (raw_reso_Blocked_1 S dp (⟨e_pc, e_vl, e_ad, e_fr, e_nx, e_dn, e_kn, e_ft⟩ : Ent) (⟨p_w, p_wn, p_fu, ⟨p_r0, p_r1, p_r2, p_r3⟩, p_ms, p_ls, p_is⟩ : Prog) ) (np S 126 (by decide)) (rfl) A nb us
theorem loop_idx (dp : Nat) (p : Prog) (l : List Ent) (hl : l.length < 1073741824) (kx : Nat -> K)
  (hx : ∀ T, ansOf (kx 0 (mk .bot 19 T) []) = some (vi (-1))) :
  ∀ (m k fuel : Nat), k + m = l.length -> m <= fuel -> ansOf (B6_slices_IndexFunc_api_Ent_api_Ent (inn E 136) (evC E fn (dp + 2)) (loopK 6 B6_slices_IndexFunc_api_Ent_api_Ent (inn E 136) (evC E fn (dp + 2)) kx (kEnd 0 [.tmp 4]) fuel) kx (kEnd 0 [.tmp 4])
   (mk .bot 19 [(0, .d (rowD l)), (1, .d (.fn (.func 126) [.vptr (progC p)])), (7, aint l.length), (8, aint k)]) []) = some (vi (idxGo p k (l.drop k))) := by
 intro m
 induction m with
 | zero =>
  intro k fuel hk _
  generalize loopK 6 B6_slices_IndexFunc_api_Ent_api_Ent _ _ kx _ fuel = KK
  rw [B6_slices_IndexFunc_api_Ent_api_Ent, List.drop_of_length_le (by omega)]
  simp only [eG, go_sem, thq S, nbr S, zN0, zN1, zN2, zN3, zN4, zI0, zI1, zI2, zI3, reduceCtorEq, o136_13 S, show ¬ (k : Int) < l.length by omega, idxGo]
  exact hx _
 | succ m ih =>
  intro k fuel hk hf
  obtain ⟨e, he⟩ := get_of (show k < l.length by omega)
  obtain ⟨fuel, rfl⟩ : ∃ m, fuel = m + 1 := ⟨fuel - 1, by omega⟩
  generalize hK : loopK 6 B6_slices_IndexFunc_api_Ent_api_Ent _ _ kx _ (fuel + 1) = KK
  rw [B6_slices_IndexFunc_api_Ent_api_Ent, drop_get he]
  cases h0 : Md.isFence p e with
  | false =>
   simp only [eG, go_sem, thq S, nbr S, zN0, zN1, zN2, zN3, zN4, zI0, zI1, zI2, zI3, reduceCtorEq, o136_13 S, show (k : Int) < l.length by omega, w_ix he, c_reso_Blocked_1 S, h0, idxGo, wi k (by omega)]
   rw [<- hK, loop_in (on S _ _ [0, 1, 7, 8] (by decide) rfl) rfl _ _ _ _ _ _ _ _ _ rfl]
   simp only [eG, go_sem, thq S, nbr S, zN0, zN1, zN2, zN3, zN4, zI0, zI1, zI2, zI3, reduceCtorEq, o136_13 S]
   exact ih (k + 1) fuel (by omega) (by omega)
  | true => simp only [eG, go_sem, thq S, nbr S, zN0, zN1, zN2, zN3, zN4, zI0, zI1, zI2, zI3, reduceCtorEq, o136_13 S, show (k : Int) < l.length by omega, w_ix he, c_reso_Blocked_1 S, h0, idxGo, wi k (by omega)]
theorem raw_slices_IndexFunc_api_Ent_api_Ent (dp : Nat) (l : List Ent) (p : Prog) (hl : l.length < 1073741824) : Says E fn (dp + 3) 136 [rowD l, .fn (.func 126) [.vptr (progC p)]] (vi (idxGo p 0 l)) := by
 unfold Says
 show ansOf (evC E fn (dp + 2 + 1) 136 [.d (rowD l), .d (.fn (.func 126) [.vptr (progC p)])] []) = _
 rw [evC_succ, S.f_slices_IndexFunc_api_Ent_api_Ent, apF_some, F_slices_IndexFunc_api_Ent_api_Ent, mkF_run _ _ _ _ _ _ _ _ rfl]
 simp only [eG, go_sem, thq S, nbr S, zN0, zN1, zN2, zN3, zN4, zI0, zI1, zI2, zI3, reduceCtorEq, o136_13 S]
 rw [big_eq, loop_in (on S _ _ [0, 1, 7, 8] (by decide) rfl) rfl _ _ _ _ _ _ _ _ _ rfl]
 simp only [eG, go_sem, thq S, nbr S, zN0, zN1, zN2, zN3, zN4, zI0, zI1, zI2, zI3, reduceCtorEq, o136_13 S]
 have := loop_idx S dp p l hl (blockK 0 (cQ (cOz [st 4 (oV (ci (-1)))]) cRet (inn E 136) (evC E fn (dp + 2)) (kEnd 0 [.tmp 4]) (fun _ _ _ => none) (kEnd 0 [.tmp 4])) (fun _ _ _ => none)) ?_ l.length 0 999999999999999999999999999999 (by omega) (by omega)
 ·rw [List.drop_zero] at this
  exact this
 intro T
 simp only [eG, go_sem, thq S, nbr S, zN0, zN1, zN2, zN3, zN4, zI0, zI1, zI2, zI3, reduceCtorEq, o136_13 S]
theorem c_slices_IndexFunc_api_Ent_api_Ent (dp : Nat) (l : List Ent) (p_w p_wn p_fu p_r0 p_r1 p_r2 p_r3 : Int) (p_ms : List MemT) (p_ls : List Label) (p_is : List Ins) (hl : l.length < 1073741824) (A : List Blk) (nb : Nat) (us : List Nat) : evOwnK false E (evC E fn (dp + 3)) 136 A nb (some ([rowD l, .fn (.func 126) [.vptr [vi p_w, vi p_wn, vi p_fu, vi p_r0, vi p_r1, vi p_r2, vi p_r3, rowD p_ms, rowD p_ls, rowD p_is]]], us)) = some (.made (.d (vi (idxGo (⟨p_w, p_wn, p_fu, ⟨p_r0, p_r1, p_r2, p_r3⟩, p_ms, p_ls, p_is⟩ : Prog) 0 l))) []) :=
 Says.flat (raw_slices_IndexFunc_api_Ent_api_Ent S dp l (⟨p_w, p_wn, p_fu, ⟨p_r0, p_r1, p_r2, p_r3⟩, p_ms, p_ls, p_is⟩ : Prog) hl) (np S 136 (by decide)) (rfl) A nb us
theorem raw_slices_ContainsFunc_api_Ent_api_Ent (dp : Nat) (l : List Ent) (p : Prog) (hl : l.length < 1073741824) : Says E fn (dp + 4) 125 [rowD l, .fn (.func 126) [.vptr (progC p)]] (vb (l.any (Md.isFence p))) := by
 unfold Says
 show ansOf (evC E fn (dp + 3 + 1) 125 [.d (rowD l), .d (.fn (.func 126) [.vptr (progC p)])] []) = _
 rw [evC_succ, S.f_slices_ContainsFunc_api_Ent_api_Ent, apF_some, F_slices_ContainsFunc_api_Ent_api_Ent, mkF_run _ _ _ _ _ _ _ _ rfl]
 rw [<- idxGo_any p l 0]
 simp only [eG, go_sem, thq S, nbr S, zN0, zN1, zN2, zN3, zN4, zI0, zI1, zI2, zI3, reduceCtorEq, c_slices_IndexFunc_api_Ent_api_Ent S, hl]
theorem c_slices_ContainsFunc_api_Ent_api_Ent (dp : Nat) (l : List Ent) (p_w p_wn p_fu p_r0 p_r1 p_r2 p_r3 : Int) (p_ms : List MemT) (p_ls : List Label) (p_is : List Ins) (hl : l.length < 1073741824) (A : List Blk) (nb : Nat) (us : List Nat) : evOwnK false E (evC E fn (dp + 4)) 125 A nb (some ([rowD l, .fn (.func 126) [.vptr [vi p_w, vi p_wn, vi p_fu, vi p_r0, vi p_r1, vi p_r2, vi p_r3, rowD p_ms, rowD p_ls, rowD p_is]]], us)) = some (.made (.d (vb (l.any (Md.isFence (⟨p_w, p_wn, p_fu, ⟨p_r0, p_r1, p_r2, p_r3⟩, p_ms, p_ls, p_is⟩ : Prog))))) []) :=
 Says.flat (raw_slices_ContainsFunc_api_Ent_api_Ent S dp l (⟨p_w, p_wn, p_fu, ⟨p_r0, p_r1, p_r2, p_r3⟩, p_ms, p_ls, p_is⟩ : Prog) hl) (np S 125 (by decide)) (rfl) A nb us
theorem raw_reso_Blocked (dp : Nat) (p : Prog) (l : List Ent) (i : Int) (hl : l.length < 1073741824) : Says E fn (dp + 5) 99 [progD p, rowD l, vi i] (vb (Md.blocked p l i)) := by
 unfold Says
 show ansOf (evC E fn (dp + 4 + 1) 99 [.d (progD p), .d (rowD l), .d (vi i)] []) = _
 rw [evC_succ, S.f_reso_Blocked, apF_some, F_reso_Blocked, mkF_run _ _ _ _ _ _ _ _ rfl]
 have hcl := cut_len l i
 simp only [eG, go_sem, thq S, nbr S, zN0, zN1, zN2, zN3, zN4, zI0, zI1, zI2, zI3, reduceCtorEq, c_robq_Cut S, hl, deep_ref, c_slices_ContainsFunc_api_Ent_api_Ent S, show (Md.cut l i).length < 1073741824 by omega, Md.blocked]
theorem c_reso_Blocked (dp : Nat) (p_w p_wn p_fu p_r0 p_r1 p_r2 p_r3 : Int) (p_ms : List MemT) (p_ls : List Label) (p_is : List Ins) (l : List Ent) (i : Int) (hl : l.length < 1073741824) (A : List Blk) (nb : Nat) (us : List Nat) : evOwnK false E (evC E fn (dp + 5)) 99 A nb (some ([.agg [vi p_w, vi p_wn, vi p_fu, vi p_r0, vi p_r1, vi p_r2, vi p_r3, rowD p_ms, rowD p_ls, rowD p_is], rowD l, vi i], us)) = some (.made (.d (vb (Md.blocked (⟨p_w, p_wn, p_fu, ⟨p_r0, p_r1, p_r2, p_r3⟩, p_ms, p_ls, p_is⟩ : Prog) l i))) []) :=
 Says.flat (raw_reso_Blocked S dp (⟨p_w, p_wn, p_fu, ⟨p_r0, p_r1, p_r2, p_r3⟩, p_ms, p_ls, p_is⟩ : Prog) l i hl) (np S 99 (by decide)) (rfl) A nb us
end
section
variable (S : Sur E fn)
include S
theorem o106_14 : E.lives 106 7 = none := off S 106 7 (by decide) rfl
theorem raw_robq_Put (dp : Nat) (l : List Ent) (i : Int) (e : Ent) (hl : l.length < 1073741824) (h0 : 0 <= i) (h1 : i < l.length) : Says E fn (dp + 1) 106 [rowD l, vi i, .agg (Cl.cells e)] (.tup [rowD (l.set i.toNat e), vb true]) := by
 unfold Says
 show ansOf (evC E fn (dp + 1) 106 [.d (rowD l), .d (vi i), .d (.agg (Cl.cells e))] []) = _
 rw [evC_succ, S.f_robq_Put, apF_some, F_robq_Put, mkF_run _ _ _ _ _ _ _ _ rfl]
 obtain ⟨e0, he⟩ := get_of (show i.toNat < l.length by omega)
 have hne : l.length ≠ 0 := by omega
 have hst : ∀ A : List Blk, storeAt A 1 0 (0 + i.toNat * 8) [.d (vi e.pc), .d (vi e.val), .d (vi e.addr), .d (vi e.frm), .d (vi e.next), .d (vb e.done), .d (vb e.known), .d (vb e.fault)] 8 (some (.cells ((rowC l).map .d) 0 false)) = some (A.set 1 (.cells ((rowC (l.set i.toNat e)).map .d) 0 false)) := fun A =>
  st_row (o := 0) (e' := e) (Cl.cells e) he rfl rfl rfl rfl (by show 0 + 8 <= 8; decide) 8 rfl _ (by omega)
 have hd : deep [.cells ((rowC (l.set i.toNat e)).map .d) 0 false] 7 (.sref 0 0 0 l.length 8 none) = some (.lst (rowC (l.set i.toNat e)) (l.set i.toNat e).length none, [0]) := deep_alone _ (fun h => by have := congrArg List.length h; rw [List.length_set] at this; exact hne this) _ (by simp) 5 8 none rfl
 simp only [eG, go_sem, thq S, nbr S, Nat.reduceLT, Nat.reduceEqDiff, Nat.reduceAdd, Nat.reduceMul, Nat.reduceLeDiff, Int.reduceEq, Int.reduceLT, Int.reduceLE, Int.reduceNeg, reduceCtorEq, o106_14 S, show ¬ i < 0 by omega, show ¬ i >= l.length by omega, o_cloneE S hl, ownA_ne hne, ownB_ne hne, h0, h1, hst, hd, w_fold]
theorem c_robq_Put (dp : Nat) (l : List Ent) (i e_pc e_vl e_ad e_fr e_nx : Int) (e_dn e_kn e_ft : Bool) (hl : l.length < 1073741824) (h0 : 0 <= i) (h1 : i < l.length) (A : List Blk) (nb : Nat) : evOwnK false E (evC E fn (dp + 1)) 106 A nb (some ([rowD l, vi i, .agg [vi e_pc, vi e_vl, vi e_ad, vi e_fr, vi e_nx, vb e_dn, vb e_kn, vb e_ft]], [])) = some (.made (.d (.tup [rowD (l.set i.toNat (⟨e_pc, e_vl, e_ad, e_fr, e_nx, e_dn, e_kn, e_ft⟩ : Ent)), vb true])) []) :=
 Says.deep (raw_robq_Put S dp l i (⟨e_pc, e_vl, e_ad, e_fr, e_nx, e_dn, e_kn, e_ft⟩ : Ent) hl h0 h1) (np S 106 (by decide)) A nb
end
structure Spot where
 p : Prog
 c : Conf
 i : Int
 e : Ent
 s : Ins
def spotD (x : Spot) : DV := .agg (progC x.p ++ (confC x.c ++ (vi x.i :: (Cl.cells x.e ++ Cl.cells x.s))))
theorem et_spot (x : Spot) : Spot.mk x.p x.c x.i x.e x.s = x := rfl
attribute [go_sem] spotD et_spot
def spot0 : Spot := ⟨⟨0, 0, 0, ⟨0, 0, 0, 0⟩, [], [], []⟩, Md.conf0, 0, Md.ent0, ⟨0, 0, 0, ⟨false, 0⟩, ⟨false, 0⟩, ⟨#[]⟩, 0⟩⟩
def spotOf (p : Prog) (c : Conf) (i : Int) : Spot := ⟨p, c, i, Md.entAt c.buf i, Md.insM p c i⟩
variable {E : Env} {fn : FuncId -> Option (Env -> CallT -> CallT)}
section
variable (S : Sur E fn)
include S
theorem o58_15 : E.lives 58 7 = none := off S 58 7 (by decide) rfl
theorem raw_exec_at (dp : Nat) (p : Prog) (c : Conf) (i : Int) (hl : c.buf.length < 1073741824) : Says E fn (dp + 6) 58 [progD p, confD c, vi i] (.tup [spotD (bif Md.openM p c i then spotOf p c i else spot0), vb (Md.openM p c i)]) := by
 unfold Says
 show ansOf (evC E fn (dp + 5 + 1) 58 [.d (progD p), .d (confD c), .d (vi i)] []) = _
 rw [evC_succ, S.f_exec_at, apF_some, F_exec_at, mkF_run _ _ _ _ _ _ _ _ rfl]
 cases ho : Md.openM p c i with
 | true =>
  obtain ⟨h0, he, h3⟩ := open_get ho
  have ho' := ho
  simp only [Md.openM, Bool.and_eq_true, Bool.not_eq_true', beq_iff_eq, decide_eq_true_eq] at ho'
  simp only [eG, go_sem, thq S, nbr S, zN0, zN1, zN2, zN3, zN4, zI0, zI1, zI2, zI3, reduceCtorEq, o58_15 S, c_conf_Final S, ho'.1.1.1, show ¬ i < 0 by omega, show ¬ i >= c.buf.length by omega, c_reso_Blocked S, hl, ho'.2, w_ixI h0 he, c_seqm_At S, spotOf, Md.insM, Bool.not_true]
 | false =>
  by_cases h1 : c.end_ = 0
  ·by_cases h2 : i < 0
   ·simp only [eG, go_sem, thq S, nbr S, zN0, zN1, zN2, zN3, zN4, zI0, zI1, zI2, zI3, reduceCtorEq, o58_15 S, c_conf_Final S, h1, h2, Bool.not_true, spot0, Md.conf0, Md.ent0]
   ·by_cases h3 : i >= c.buf.length
    ·simp only [eG, go_sem, thq S, nbr S, zN0, zN1, zN2, zN3, zN4, zI0, zI1, zI2, zI3, reduceCtorEq, o58_15 S, c_conf_Final S, h1, h2, h3, Bool.not_true, spot0, Md.conf0, Md.ent0]
    ·have hb : Md.blocked p c.buf i = true := by
      cases hb : Md.blocked p c.buf i with
      | true => rfl
      | false =>
       have : Md.openM p c i = true := by simp [Md.openM, hb, h1]; omega
       rw [this] at ho; cases ho
     simp only [eG, go_sem, thq S, nbr S, zN0, zN1, zN2, zN3, zN4, zI0, zI1, zI2, zI3, reduceCtorEq, o58_15 S, c_conf_Final S, h1, h2, h3, c_reso_Blocked S, hl, hb, Bool.not_true, spot0, Md.conf0, Md.ent0]
  ·simp only [eG, go_sem, thq S, nbr S, zN0, zN1, zN2, zN3, zN4, zI0, zI1, zI2, zI3, reduceCtorEq, o58_15 S, c_conf_Final S, eq_false h1, Bool.not_false, spot0, Md.conf0, Md.ent0]
theorem c_exec_at (dp : Nat) (p_w p_wn p_fu p_r0 p_r1 p_r2 p_r3 : Int) (p_ms : List MemT) (p_ls : List Label) (p_is : List Ins) (c_r0 c_r1 c_r2 c_r3 : Int) (c_mm c_st : List Int) (c_pc : Int) (c_bf : List Ent) (c_rb : List Int) (c_en i : Int) (hl : (⟨⟨⟨c_r0, c_r1, c_r2, c_r3⟩, c_mm, c_st, c_pc⟩, c_bf, c_rb, c_en⟩ : Conf).buf.length < 1073741824) (A : List Blk) (nb : Nat) : evOwnK false E (evC E fn (dp + 6)) 58 A nb (some ([.agg [vi p_w, vi p_wn, vi p_fu, vi p_r0, vi p_r1, vi p_r2, vi p_r3, rowD p_ms, rowD p_ls, rowD p_is], .agg [vi c_r0, vi c_r1, vi c_r2, vi c_r3, rowD c_mm, rowD c_st, vi c_pc, rowD c_bf, rowD c_rb, vi c_en], vi i], [])) = some (.made (.d (.tup [spotD (bif Md.openM (⟨p_w, p_wn, p_fu, ⟨p_r0, p_r1, p_r2, p_r3⟩, p_ms, p_ls, p_is⟩ : Prog) (⟨⟨⟨c_r0, c_r1, c_r2, c_r3⟩, c_mm, c_st, c_pc⟩, c_bf, c_rb, c_en⟩ : Conf) i then spotOf (⟨p_w, p_wn, p_fu, ⟨p_r0, p_r1, p_r2, p_r3⟩, p_ms, p_ls, p_is⟩ : Prog) (⟨⟨⟨c_r0, c_r1, c_r2, c_r3⟩, c_mm, c_st, c_pc⟩, c_bf, c_rb, c_en⟩ : Conf) i else spot0), vb (Md.openM (⟨p_w, p_wn, p_fu, ⟨p_r0, p_r1, p_r2, p_r3⟩, p_ms, p_ls, p_is⟩ : Prog) (⟨⟨⟨c_r0, c_r1, c_r2, c_r3⟩, c_mm, c_st, c_pc⟩, c_bf, c_rb, c_en⟩ : Conf) i)])) []) :=
 Says.deep (raw_exec_at S dp (⟨p_w, p_wn, p_fu, ⟨p_r0, p_r1, p_r2, p_r3⟩, p_ms, p_ls, p_is⟩ : Prog) (⟨⟨⟨c_r0, c_r1, c_r2, c_r3⟩, c_mm, c_st, c_pc⟩, c_bf, c_rb, c_en⟩ : Conf) i hl) (np S 58 (by decide)) A nb
theorem raw_exec_spot_val (dp : Nat) (x : Spot) (v : Val) (hl : x.c.buf.length < 1073741824) : Says E fn (dp + 5) 59 [spotD x, .agg (Cl.cells v)] (.tup [vi (Md.valM x.p x.c x.i v).1, vb (Md.valM x.p x.c x.i v).2]) := by
 unfold Says
 show ansOf (evC E fn (dp + 4 + 1) 59 [.d (spotD x), .d (.agg (Cl.cells v))] []) = _
 rw [evC_succ, S.f_exec_spot_val, apF_some, F_exec_spot_val, mkF_run _ _ _ _ _ _ _ _ rfl]
 simp only [eG, go_sem, thq S, nbr S, zN0, zN1, zN2, zN3, zN4, zI0, zI1, zI2, zI3, reduceCtorEq, c_reso_Val S, hl, Md.valM, Nat.add_zero, Nat.zero_add]
theorem c_exec_spot_val (dp : Nat) (x_p_w x_p_wn x_p_fu x_p_r0 x_p_r1 x_p_r2 x_p_r3 : Int) (x_p_ms : List MemT) (x_p_ls : List Label) (x_p_is : List Ins) (x_c_r0 x_c_r1 x_c_r2 x_c_r3 : Int) (x_c_mm x_c_st : List Int) (x_c_pc : Int) (x_c_bf : List Ent) (x_c_rb : List Int) (x_c_en x_i x_e_pc x_e_vl x_e_ad x_e_fr x_e_nx : Int) (x_e_dn x_e_kn x_e_ft : Bool) (x_s_k x_s_o x_s_d : Int) (x_s_ag : Bool) (x_s_an : Int) (x_s_bg : Bool) (x_s_bn : Int) (x_s_nm : ByteArray) (x_s_tg : Int) (v_g : Bool) (v_n : Int) (hl : (⟨⟨x_p_w, x_p_wn, x_p_fu, ⟨x_p_r0, x_p_r1, x_p_r2, x_p_r3⟩, x_p_ms, x_p_ls, x_p_is⟩, ⟨⟨⟨x_c_r0, x_c_r1, x_c_r2, x_c_r3⟩, x_c_mm, x_c_st, x_c_pc⟩, x_c_bf, x_c_rb, x_c_en⟩, x_i, ⟨x_e_pc, x_e_vl, x_e_ad, x_e_fr, x_e_nx, x_e_dn, x_e_kn, x_e_ft⟩, ⟨x_s_k, x_s_o, x_s_d, ⟨x_s_ag, x_s_an⟩, ⟨x_s_bg, x_s_bn⟩, x_s_nm, x_s_tg⟩⟩ : Spot).c.buf.length < 1073741824) (A : List Blk) (nb : Nat) (us : List Nat) : evOwnK false E (evC E fn (dp + 5)) 59 A nb (some ([.agg [vi x_p_w, vi x_p_wn, vi x_p_fu, vi x_p_r0, vi x_p_r1, vi x_p_r2, vi x_p_r3, rowD x_p_ms, rowD x_p_ls, rowD x_p_is, vi x_c_r0, vi x_c_r1, vi x_c_r2, vi x_c_r3, rowD x_c_mm, rowD x_c_st, vi x_c_pc, rowD x_c_bf, rowD x_c_rb, vi x_c_en, vi x_i, vi x_e_pc, vi x_e_vl, vi x_e_ad, vi x_e_fr, vi x_e_nx, vb x_e_dn, vb x_e_kn, vb x_e_ft, vi x_s_k, vi x_s_o, vi x_s_d, vb x_s_ag, vi x_s_an, vb x_s_bg, vi x_s_bn, vt x_s_nm, vi x_s_tg], .agg [vb v_g, vi v_n]], us)) = some (.made (.d (.tup [vi (Md.valM (⟨⟨x_p_w, x_p_wn, x_p_fu, ⟨x_p_r0, x_p_r1, x_p_r2, x_p_r3⟩, x_p_ms, x_p_ls, x_p_is⟩, ⟨⟨⟨x_c_r0, x_c_r1, x_c_r2, x_c_r3⟩, x_c_mm, x_c_st, x_c_pc⟩, x_c_bf, x_c_rb, x_c_en⟩, x_i, ⟨x_e_pc, x_e_vl, x_e_ad, x_e_fr, x_e_nx, x_e_dn, x_e_kn, x_e_ft⟩, ⟨x_s_k, x_s_o, x_s_d, ⟨x_s_ag, x_s_an⟩, ⟨x_s_bg, x_s_bn⟩, x_s_nm, x_s_tg⟩⟩ : Spot).p (⟨⟨x_p_w, x_p_wn, x_p_fu, ⟨x_p_r0, x_p_r1, x_p_r2, x_p_r3⟩, x_p_ms, x_p_ls, x_p_is⟩, ⟨⟨⟨x_c_r0, x_c_r1, x_c_r2, x_c_r3⟩, x_c_mm, x_c_st, x_c_pc⟩, x_c_bf, x_c_rb, x_c_en⟩, x_i, ⟨x_e_pc, x_e_vl, x_e_ad, x_e_fr, x_e_nx, x_e_dn, x_e_kn, x_e_ft⟩, ⟨x_s_k, x_s_o, x_s_d, ⟨x_s_ag, x_s_an⟩, ⟨x_s_bg, x_s_bn⟩, x_s_nm, x_s_tg⟩⟩ : Spot).c (⟨⟨x_p_w, x_p_wn, x_p_fu, ⟨x_p_r0, x_p_r1, x_p_r2, x_p_r3⟩, x_p_ms, x_p_ls, x_p_is⟩, ⟨⟨⟨x_c_r0, x_c_r1, x_c_r2, x_c_r3⟩, x_c_mm, x_c_st, x_c_pc⟩, x_c_bf, x_c_rb, x_c_en⟩, x_i, ⟨x_e_pc, x_e_vl, x_e_ad, x_e_fr, x_e_nx, x_e_dn, x_e_kn, x_e_ft⟩, ⟨x_s_k, x_s_o, x_s_d, ⟨x_s_ag, x_s_an⟩, ⟨x_s_bg, x_s_bn⟩, x_s_nm, x_s_tg⟩⟩ : Spot).i (⟨v_g, v_n⟩ : Val)).1, vb (Md.valM (⟨⟨x_p_w, x_p_wn, x_p_fu, ⟨x_p_r0, x_p_r1, x_p_r2, x_p_r3⟩, x_p_ms, x_p_ls, x_p_is⟩, ⟨⟨⟨x_c_r0, x_c_r1, x_c_r2, x_c_r3⟩, x_c_mm, x_c_st, x_c_pc⟩, x_c_bf, x_c_rb, x_c_en⟩, x_i, ⟨x_e_pc, x_e_vl, x_e_ad, x_e_fr, x_e_nx, x_e_dn, x_e_kn, x_e_ft⟩, ⟨x_s_k, x_s_o, x_s_d, ⟨x_s_ag, x_s_an⟩, ⟨x_s_bg, x_s_bn⟩, x_s_nm, x_s_tg⟩⟩ : Spot).p (⟨⟨x_p_w, x_p_wn, x_p_fu, ⟨x_p_r0, x_p_r1, x_p_r2, x_p_r3⟩, x_p_ms, x_p_ls, x_p_is⟩, ⟨⟨⟨x_c_r0, x_c_r1, x_c_r2, x_c_r3⟩, x_c_mm, x_c_st, x_c_pc⟩, x_c_bf, x_c_rb, x_c_en⟩, x_i, ⟨x_e_pc, x_e_vl, x_e_ad, x_e_fr, x_e_nx, x_e_dn, x_e_kn, x_e_ft⟩, ⟨x_s_k, x_s_o, x_s_d, ⟨x_s_ag, x_s_an⟩, ⟨x_s_bg, x_s_bn⟩, x_s_nm, x_s_tg⟩⟩ : Spot).c (⟨⟨x_p_w, x_p_wn, x_p_fu, ⟨x_p_r0, x_p_r1, x_p_r2, x_p_r3⟩, x_p_ms, x_p_ls, x_p_is⟩, ⟨⟨⟨x_c_r0, x_c_r1, x_c_r2, x_c_r3⟩, x_c_mm, x_c_st, x_c_pc⟩, x_c_bf, x_c_rb, x_c_en⟩, x_i, ⟨x_e_pc, x_e_vl, x_e_ad, x_e_fr, x_e_nx, x_e_dn, x_e_kn, x_e_ft⟩, ⟨x_s_k, x_s_o, x_s_d, ⟨x_s_ag, x_s_an⟩, ⟨x_s_bg, x_s_bn⟩, x_s_nm, x_s_tg⟩⟩ : Spot).i (⟨v_g, v_n⟩ : Val)).2])) []) :=
 Says.flat (raw_exec_spot_val S dp (⟨⟨x_p_w, x_p_wn, x_p_fu, ⟨x_p_r0, x_p_r1, x_p_r2, x_p_r3⟩, x_p_ms, x_p_ls, x_p_is⟩, ⟨⟨⟨x_c_r0, x_c_r1, x_c_r2, x_c_r3⟩, x_c_mm, x_c_st, x_c_pc⟩, x_c_bf, x_c_rb, x_c_en⟩, x_i, ⟨x_e_pc, x_e_vl, x_e_ad, x_e_fr, x_e_nx, x_e_dn, x_e_kn, x_e_ft⟩, ⟨x_s_k, x_s_o, x_s_d, ⟨x_s_ag, x_s_an⟩, ⟨x_s_bg, x_s_bn⟩, x_s_nm, x_s_tg⟩⟩ : Spot) (⟨v_g, v_n⟩ : Val) hl) (np S 59 (by decide)) (rfl) A nb us
theorem raw_exec_spot_two (dp : Nat) (x : Spot) (hl : x.c.buf.length < 1073741824) : Says E fn (dp + 6) 67 [spotD x] (.tup [vi (Md.valM x.p x.c x.i x.s.a).1, vi (Md.valM x.p x.c x.i x.s.b).1, vb ((Md.valM x.p x.c x.i x.s.a).2 && (Md.valM x.p x.c x.i x.s.b).2)]) := by
 unfold Says
 show ansOf (evC E fn (dp + 5 + 1) 67 [.d (spotD x)] []) = _
 rw [evC_succ, S.f_exec_spot_two, apF_some, F_exec_spot_two, mkF_run _ _ _ _ _ _ _ _ rfl]
 cases h : (Md.valM x.p x.c x.i x.s.a).2 <;> simp only [eG, go_sem, thq S, nbr S, zN0, zN1, zN2, zN3, zN4, zI0, zI1, zI2, zI3, reduceCtorEq, c_exec_spot_val S, hl, h]
theorem c_exec_spot_two (dp : Nat) (x_p_w x_p_wn x_p_fu x_p_r0 x_p_r1 x_p_r2 x_p_r3 : Int) (x_p_ms : List MemT) (x_p_ls : List Label) (x_p_is : List Ins) (x_c_r0 x_c_r1 x_c_r2 x_c_r3 : Int) (x_c_mm x_c_st : List Int) (x_c_pc : Int) (x_c_bf : List Ent) (x_c_rb : List Int) (x_c_en x_i x_e_pc x_e_vl x_e_ad x_e_fr x_e_nx : Int) (x_e_dn x_e_kn x_e_ft : Bool) (x_s_k x_s_o x_s_d : Int) (x_s_ag : Bool) (x_s_an : Int) (x_s_bg : Bool) (x_s_bn : Int) (x_s_nm : ByteArray) (x_s_tg : Int) (hl : (⟨⟨x_p_w, x_p_wn, x_p_fu, ⟨x_p_r0, x_p_r1, x_p_r2, x_p_r3⟩, x_p_ms, x_p_ls, x_p_is⟩, ⟨⟨⟨x_c_r0, x_c_r1, x_c_r2, x_c_r3⟩, x_c_mm, x_c_st, x_c_pc⟩, x_c_bf, x_c_rb, x_c_en⟩, x_i, ⟨x_e_pc, x_e_vl, x_e_ad, x_e_fr, x_e_nx, x_e_dn, x_e_kn, x_e_ft⟩, ⟨x_s_k, x_s_o, x_s_d, ⟨x_s_ag, x_s_an⟩, ⟨x_s_bg, x_s_bn⟩, x_s_nm, x_s_tg⟩⟩ : Spot).c.buf.length < 1073741824) (A : List Blk) (nb : Nat) (us : List Nat) : evOwnK false E (evC E fn (dp + 6)) 67 A nb (some ([.agg [vi x_p_w, vi x_p_wn, vi x_p_fu, vi x_p_r0, vi x_p_r1, vi x_p_r2, vi x_p_r3, rowD x_p_ms, rowD x_p_ls, rowD x_p_is, vi x_c_r0, vi x_c_r1, vi x_c_r2, vi x_c_r3, rowD x_c_mm, rowD x_c_st, vi x_c_pc, rowD x_c_bf, rowD x_c_rb, vi x_c_en, vi x_i, vi x_e_pc, vi x_e_vl, vi x_e_ad, vi x_e_fr, vi x_e_nx, vb x_e_dn, vb x_e_kn, vb x_e_ft, vi x_s_k, vi x_s_o, vi x_s_d, vb x_s_ag, vi x_s_an, vb x_s_bg, vi x_s_bn, vt x_s_nm, vi x_s_tg]], us)) = some (.made (.d (.tup [vi (Md.valM (⟨⟨x_p_w, x_p_wn, x_p_fu, ⟨x_p_r0, x_p_r1, x_p_r2, x_p_r3⟩, x_p_ms, x_p_ls, x_p_is⟩, ⟨⟨⟨x_c_r0, x_c_r1, x_c_r2, x_c_r3⟩, x_c_mm, x_c_st, x_c_pc⟩, x_c_bf, x_c_rb, x_c_en⟩, x_i, ⟨x_e_pc, x_e_vl, x_e_ad, x_e_fr, x_e_nx, x_e_dn, x_e_kn, x_e_ft⟩, ⟨x_s_k, x_s_o, x_s_d, ⟨x_s_ag, x_s_an⟩, ⟨x_s_bg, x_s_bn⟩, x_s_nm, x_s_tg⟩⟩ : Spot).p (⟨⟨x_p_w, x_p_wn, x_p_fu, ⟨x_p_r0, x_p_r1, x_p_r2, x_p_r3⟩, x_p_ms, x_p_ls, x_p_is⟩, ⟨⟨⟨x_c_r0, x_c_r1, x_c_r2, x_c_r3⟩, x_c_mm, x_c_st, x_c_pc⟩, x_c_bf, x_c_rb, x_c_en⟩, x_i, ⟨x_e_pc, x_e_vl, x_e_ad, x_e_fr, x_e_nx, x_e_dn, x_e_kn, x_e_ft⟩, ⟨x_s_k, x_s_o, x_s_d, ⟨x_s_ag, x_s_an⟩, ⟨x_s_bg, x_s_bn⟩, x_s_nm, x_s_tg⟩⟩ : Spot).c (⟨⟨x_p_w, x_p_wn, x_p_fu, ⟨x_p_r0, x_p_r1, x_p_r2, x_p_r3⟩, x_p_ms, x_p_ls, x_p_is⟩, ⟨⟨⟨x_c_r0, x_c_r1, x_c_r2, x_c_r3⟩, x_c_mm, x_c_st, x_c_pc⟩, x_c_bf, x_c_rb, x_c_en⟩, x_i, ⟨x_e_pc, x_e_vl, x_e_ad, x_e_fr, x_e_nx, x_e_dn, x_e_kn, x_e_ft⟩, ⟨x_s_k, x_s_o, x_s_d, ⟨x_s_ag, x_s_an⟩, ⟨x_s_bg, x_s_bn⟩, x_s_nm, x_s_tg⟩⟩ : Spot).i (⟨⟨x_p_w, x_p_wn, x_p_fu, ⟨x_p_r0, x_p_r1, x_p_r2, x_p_r3⟩, x_p_ms, x_p_ls, x_p_is⟩, ⟨⟨⟨x_c_r0, x_c_r1, x_c_r2, x_c_r3⟩, x_c_mm, x_c_st, x_c_pc⟩, x_c_bf, x_c_rb, x_c_en⟩, x_i, ⟨x_e_pc, x_e_vl, x_e_ad, x_e_fr, x_e_nx, x_e_dn, x_e_kn, x_e_ft⟩, ⟨x_s_k, x_s_o, x_s_d, ⟨x_s_ag, x_s_an⟩, ⟨x_s_bg, x_s_bn⟩, x_s_nm, x_s_tg⟩⟩ : Spot).s.a).1, vi (Md.valM (⟨⟨x_p_w, x_p_wn, x_p_fu, ⟨x_p_r0, x_p_r1, x_p_r2, x_p_r3⟩, x_p_ms, x_p_ls, x_p_is⟩, ⟨⟨⟨x_c_r0, x_c_r1, x_c_r2, x_c_r3⟩, x_c_mm, x_c_st, x_c_pc⟩, x_c_bf, x_c_rb, x_c_en⟩, x_i, ⟨x_e_pc, x_e_vl, x_e_ad, x_e_fr, x_e_nx, x_e_dn, x_e_kn, x_e_ft⟩, ⟨x_s_k, x_s_o, x_s_d, ⟨x_s_ag, x_s_an⟩, ⟨x_s_bg, x_s_bn⟩, x_s_nm, x_s_tg⟩⟩ : Spot).p (⟨⟨x_p_w, x_p_wn, x_p_fu, ⟨x_p_r0, x_p_r1, x_p_r2, x_p_r3⟩, x_p_ms, x_p_ls, x_p_is⟩, ⟨⟨⟨x_c_r0, x_c_r1, x_c_r2, x_c_r3⟩, x_c_mm, x_c_st, x_c_pc⟩, x_c_bf, x_c_rb, x_c_en⟩, x_i, ⟨x_e_pc, x_e_vl, x_e_ad, x_e_fr, x_e_nx, x_e_dn, x_e_kn, x_e_ft⟩, ⟨x_s_k, x_s_o, x_s_d, ⟨x_s_ag, x_s_an⟩, ⟨x_s_bg, x_s_bn⟩, x_s_nm, x_s_tg⟩⟩ : Spot).c (⟨⟨x_p_w, x_p_wn, x_p_fu, ⟨x_p_r0, x_p_r1, x_p_r2, x_p_r3⟩, x_p_ms, x_p_ls, x_p_is⟩, ⟨⟨⟨x_c_r0, x_c_r1, x_c_r2, x_c_r3⟩, x_c_mm, x_c_st, x_c_pc⟩, x_c_bf, x_c_rb, x_c_en⟩, x_i, ⟨x_e_pc, x_e_vl, x_e_ad, x_e_fr, x_e_nx, x_e_dn, x_e_kn, x_e_ft⟩, ⟨x_s_k, x_s_o, x_s_d, ⟨x_s_ag, x_s_an⟩, ⟨x_s_bg, x_s_bn⟩, x_s_nm, x_s_tg⟩⟩ : Spot).i (⟨⟨x_p_w, x_p_wn, x_p_fu, ⟨x_p_r0, x_p_r1, x_p_r2, x_p_r3⟩, x_p_ms, x_p_ls, x_p_is⟩, ⟨⟨⟨x_c_r0, x_c_r1, x_c_r2, x_c_r3⟩, x_c_mm, x_c_st, x_c_pc⟩, x_c_bf, x_c_rb, x_c_en⟩, x_i, ⟨x_e_pc, x_e_vl, x_e_ad, x_e_fr, x_e_nx, x_e_dn, x_e_kn, x_e_ft⟩, ⟨x_s_k, x_s_o, x_s_d, ⟨x_s_ag, x_s_an⟩, ⟨x_s_bg, x_s_bn⟩, x_s_nm, x_s_tg⟩⟩ : Spot).s.b).1, vb ((Md.valM (⟨⟨x_p_w, x_p_wn, x_p_fu, ⟨x_p_r0, x_p_r1, x_p_r2, x_p_r3⟩, x_p_ms, x_p_ls, x_p_is⟩, ⟨⟨⟨x_c_r0, x_c_r1, x_c_r2, x_c_r3⟩, x_c_mm, x_c_st, x_c_pc⟩, x_c_bf, x_c_rb, x_c_en⟩, x_i, ⟨x_e_pc, x_e_vl, x_e_ad, x_e_fr, x_e_nx, x_e_dn, x_e_kn, x_e_ft⟩, ⟨x_s_k, x_s_o, x_s_d, ⟨x_s_ag, x_s_an⟩, ⟨x_s_bg, x_s_bn⟩, x_s_nm, x_s_tg⟩⟩ : Spot).p (⟨⟨x_p_w, x_p_wn, x_p_fu, ⟨x_p_r0, x_p_r1, x_p_r2, x_p_r3⟩, x_p_ms, x_p_ls, x_p_is⟩, ⟨⟨⟨x_c_r0, x_c_r1, x_c_r2, x_c_r3⟩, x_c_mm, x_c_st, x_c_pc⟩, x_c_bf, x_c_rb, x_c_en⟩, x_i, ⟨x_e_pc, x_e_vl, x_e_ad, x_e_fr, x_e_nx, x_e_dn, x_e_kn, x_e_ft⟩, ⟨x_s_k, x_s_o, x_s_d, ⟨x_s_ag, x_s_an⟩, ⟨x_s_bg, x_s_bn⟩, x_s_nm, x_s_tg⟩⟩ : Spot).c (⟨⟨x_p_w, x_p_wn, x_p_fu, ⟨x_p_r0, x_p_r1, x_p_r2, x_p_r3⟩, x_p_ms, x_p_ls, x_p_is⟩, ⟨⟨⟨x_c_r0, x_c_r1, x_c_r2, x_c_r3⟩, x_c_mm, x_c_st, x_c_pc⟩, x_c_bf, x_c_rb, x_c_en⟩, x_i, ⟨x_e_pc, x_e_vl, x_e_ad, x_e_fr, x_e_nx, x_e_dn, x_e_kn, x_e_ft⟩, ⟨x_s_k, x_s_o, x_s_d, ⟨x_s_ag, x_s_an⟩, ⟨x_s_bg, x_s_bn⟩, x_s_nm, x_s_tg⟩⟩ : Spot).i (⟨⟨x_p_w, x_p_wn, x_p_fu, ⟨x_p_r0, x_p_r1, x_p_r2, x_p_r3⟩, x_p_ms, x_p_ls, x_p_is⟩, ⟨⟨⟨x_c_r0, x_c_r1, x_c_r2, x_c_r3⟩, x_c_mm, x_c_st, x_c_pc⟩, x_c_bf, x_c_rb, x_c_en⟩, x_i, ⟨x_e_pc, x_e_vl, x_e_ad, x_e_fr, x_e_nx, x_e_dn, x_e_kn, x_e_ft⟩, ⟨x_s_k, x_s_o, x_s_d, ⟨x_s_ag, x_s_an⟩, ⟨x_s_bg, x_s_bn⟩, x_s_nm, x_s_tg⟩⟩ : Spot).s.a).2 && (Md.valM (⟨⟨x_p_w, x_p_wn, x_p_fu, ⟨x_p_r0, x_p_r1, x_p_r2, x_p_r3⟩, x_p_ms, x_p_ls, x_p_is⟩, ⟨⟨⟨x_c_r0, x_c_r1, x_c_r2, x_c_r3⟩, x_c_mm, x_c_st, x_c_pc⟩, x_c_bf, x_c_rb, x_c_en⟩, x_i, ⟨x_e_pc, x_e_vl, x_e_ad, x_e_fr, x_e_nx, x_e_dn, x_e_kn, x_e_ft⟩, ⟨x_s_k, x_s_o, x_s_d, ⟨x_s_ag, x_s_an⟩, ⟨x_s_bg, x_s_bn⟩, x_s_nm, x_s_tg⟩⟩ : Spot).p (⟨⟨x_p_w, x_p_wn, x_p_fu, ⟨x_p_r0, x_p_r1, x_p_r2, x_p_r3⟩, x_p_ms, x_p_ls, x_p_is⟩, ⟨⟨⟨x_c_r0, x_c_r1, x_c_r2, x_c_r3⟩, x_c_mm, x_c_st, x_c_pc⟩, x_c_bf, x_c_rb, x_c_en⟩, x_i, ⟨x_e_pc, x_e_vl, x_e_ad, x_e_fr, x_e_nx, x_e_dn, x_e_kn, x_e_ft⟩, ⟨x_s_k, x_s_o, x_s_d, ⟨x_s_ag, x_s_an⟩, ⟨x_s_bg, x_s_bn⟩, x_s_nm, x_s_tg⟩⟩ : Spot).c (⟨⟨x_p_w, x_p_wn, x_p_fu, ⟨x_p_r0, x_p_r1, x_p_r2, x_p_r3⟩, x_p_ms, x_p_ls, x_p_is⟩, ⟨⟨⟨x_c_r0, x_c_r1, x_c_r2, x_c_r3⟩, x_c_mm, x_c_st, x_c_pc⟩, x_c_bf, x_c_rb, x_c_en⟩, x_i, ⟨x_e_pc, x_e_vl, x_e_ad, x_e_fr, x_e_nx, x_e_dn, x_e_kn, x_e_ft⟩, ⟨x_s_k, x_s_o, x_s_d, ⟨x_s_ag, x_s_an⟩, ⟨x_s_bg, x_s_bn⟩, x_s_nm, x_s_tg⟩⟩ : Spot).i (⟨⟨x_p_w, x_p_wn, x_p_fu, ⟨x_p_r0, x_p_r1, x_p_r2, x_p_r3⟩, x_p_ms, x_p_ls, x_p_is⟩, ⟨⟨⟨x_c_r0, x_c_r1, x_c_r2, x_c_r3⟩, x_c_mm, x_c_st, x_c_pc⟩, x_c_bf, x_c_rb, x_c_en⟩, x_i, ⟨x_e_pc, x_e_vl, x_e_ad, x_e_fr, x_e_nx, x_e_dn, x_e_kn, x_e_ft⟩, ⟨x_s_k, x_s_o, x_s_d, ⟨x_s_ag, x_s_an⟩, ⟨x_s_bg, x_s_bn⟩, x_s_nm, x_s_tg⟩⟩ : Spot).s.b).2)])) []) :=
 Says.flat (raw_exec_spot_two S dp (⟨⟨x_p_w, x_p_wn, x_p_fu, ⟨x_p_r0, x_p_r1, x_p_r2, x_p_r3⟩, x_p_ms, x_p_ls, x_p_is⟩, ⟨⟨⟨x_c_r0, x_c_r1, x_c_r2, x_c_r3⟩, x_c_mm, x_c_st, x_c_pc⟩, x_c_bf, x_c_rb, x_c_en⟩, x_i, ⟨x_e_pc, x_e_vl, x_e_ad, x_e_fr, x_e_nx, x_e_dn, x_e_kn, x_e_ft⟩, ⟨x_s_k, x_s_o, x_s_d, ⟨x_s_ag, x_s_an⟩, ⟨x_s_bg, x_s_bn⟩, x_s_nm, x_s_tg⟩⟩ : Spot) hl) (np S 67 (by decide)) (rfl) A nb us
theorem raw_exec_spot_held (dp : Nat) (x : Spot) (hl : x.c.buf.length < 1073741824) : Says E fn (dp + 6) 60 [spotD x] (.tup [vi (Md.regM x.p x.c x.i x.s.d).1, vb (Md.regM x.p x.c x.i x.s.d).2]) := by
 unfold Says
 show ansOf (evC E fn (dp + 5 + 1) 60 [.d (spotD x)] []) = _
 rw [evC_succ, S.f_exec_spot_held, apF_some, F_exec_spot_held, mkF_run _ _ _ _ _ _ _ _ rfl]
 simp only [eG, go_sem, thq S, nbr S, zN0, zN1, zN2, zN3, zN4, zI0, zI1, zI2, zI3, reduceCtorEq, c_exec_spot_val S, hl, Md.valM, Md.val, Md.regM]
theorem c_exec_spot_held (dp : Nat) (x_p_w x_p_wn x_p_fu x_p_r0 x_p_r1 x_p_r2 x_p_r3 : Int) (x_p_ms : List MemT) (x_p_ls : List Label) (x_p_is : List Ins) (x_c_r0 x_c_r1 x_c_r2 x_c_r3 : Int) (x_c_mm x_c_st : List Int) (x_c_pc : Int) (x_c_bf : List Ent) (x_c_rb : List Int) (x_c_en x_i x_e_pc x_e_vl x_e_ad x_e_fr x_e_nx : Int) (x_e_dn x_e_kn x_e_ft : Bool) (x_s_k x_s_o x_s_d : Int) (x_s_ag : Bool) (x_s_an : Int) (x_s_bg : Bool) (x_s_bn : Int) (x_s_nm : ByteArray) (x_s_tg : Int) (hl : (⟨⟨x_p_w, x_p_wn, x_p_fu, ⟨x_p_r0, x_p_r1, x_p_r2, x_p_r3⟩, x_p_ms, x_p_ls, x_p_is⟩, ⟨⟨⟨x_c_r0, x_c_r1, x_c_r2, x_c_r3⟩, x_c_mm, x_c_st, x_c_pc⟩, x_c_bf, x_c_rb, x_c_en⟩, x_i, ⟨x_e_pc, x_e_vl, x_e_ad, x_e_fr, x_e_nx, x_e_dn, x_e_kn, x_e_ft⟩, ⟨x_s_k, x_s_o, x_s_d, ⟨x_s_ag, x_s_an⟩, ⟨x_s_bg, x_s_bn⟩, x_s_nm, x_s_tg⟩⟩ : Spot).c.buf.length < 1073741824) (A : List Blk) (nb : Nat) (us : List Nat) : evOwnK false E (evC E fn (dp + 6)) 60 A nb (some ([.agg [vi x_p_w, vi x_p_wn, vi x_p_fu, vi x_p_r0, vi x_p_r1, vi x_p_r2, vi x_p_r3, rowD x_p_ms, rowD x_p_ls, rowD x_p_is, vi x_c_r0, vi x_c_r1, vi x_c_r2, vi x_c_r3, rowD x_c_mm, rowD x_c_st, vi x_c_pc, rowD x_c_bf, rowD x_c_rb, vi x_c_en, vi x_i, vi x_e_pc, vi x_e_vl, vi x_e_ad, vi x_e_fr, vi x_e_nx, vb x_e_dn, vb x_e_kn, vb x_e_ft, vi x_s_k, vi x_s_o, vi x_s_d, vb x_s_ag, vi x_s_an, vb x_s_bg, vi x_s_bn, vt x_s_nm, vi x_s_tg]], us)) = some (.made (.d (.tup [vi (Md.regM (⟨⟨x_p_w, x_p_wn, x_p_fu, ⟨x_p_r0, x_p_r1, x_p_r2, x_p_r3⟩, x_p_ms, x_p_ls, x_p_is⟩, ⟨⟨⟨x_c_r0, x_c_r1, x_c_r2, x_c_r3⟩, x_c_mm, x_c_st, x_c_pc⟩, x_c_bf, x_c_rb, x_c_en⟩, x_i, ⟨x_e_pc, x_e_vl, x_e_ad, x_e_fr, x_e_nx, x_e_dn, x_e_kn, x_e_ft⟩, ⟨x_s_k, x_s_o, x_s_d, ⟨x_s_ag, x_s_an⟩, ⟨x_s_bg, x_s_bn⟩, x_s_nm, x_s_tg⟩⟩ : Spot).p (⟨⟨x_p_w, x_p_wn, x_p_fu, ⟨x_p_r0, x_p_r1, x_p_r2, x_p_r3⟩, x_p_ms, x_p_ls, x_p_is⟩, ⟨⟨⟨x_c_r0, x_c_r1, x_c_r2, x_c_r3⟩, x_c_mm, x_c_st, x_c_pc⟩, x_c_bf, x_c_rb, x_c_en⟩, x_i, ⟨x_e_pc, x_e_vl, x_e_ad, x_e_fr, x_e_nx, x_e_dn, x_e_kn, x_e_ft⟩, ⟨x_s_k, x_s_o, x_s_d, ⟨x_s_ag, x_s_an⟩, ⟨x_s_bg, x_s_bn⟩, x_s_nm, x_s_tg⟩⟩ : Spot).c (⟨⟨x_p_w, x_p_wn, x_p_fu, ⟨x_p_r0, x_p_r1, x_p_r2, x_p_r3⟩, x_p_ms, x_p_ls, x_p_is⟩, ⟨⟨⟨x_c_r0, x_c_r1, x_c_r2, x_c_r3⟩, x_c_mm, x_c_st, x_c_pc⟩, x_c_bf, x_c_rb, x_c_en⟩, x_i, ⟨x_e_pc, x_e_vl, x_e_ad, x_e_fr, x_e_nx, x_e_dn, x_e_kn, x_e_ft⟩, ⟨x_s_k, x_s_o, x_s_d, ⟨x_s_ag, x_s_an⟩, ⟨x_s_bg, x_s_bn⟩, x_s_nm, x_s_tg⟩⟩ : Spot).i (⟨⟨x_p_w, x_p_wn, x_p_fu, ⟨x_p_r0, x_p_r1, x_p_r2, x_p_r3⟩, x_p_ms, x_p_ls, x_p_is⟩, ⟨⟨⟨x_c_r0, x_c_r1, x_c_r2, x_c_r3⟩, x_c_mm, x_c_st, x_c_pc⟩, x_c_bf, x_c_rb, x_c_en⟩, x_i, ⟨x_e_pc, x_e_vl, x_e_ad, x_e_fr, x_e_nx, x_e_dn, x_e_kn, x_e_ft⟩, ⟨x_s_k, x_s_o, x_s_d, ⟨x_s_ag, x_s_an⟩, ⟨x_s_bg, x_s_bn⟩, x_s_nm, x_s_tg⟩⟩ : Spot).s.d).1, vb (Md.regM (⟨⟨x_p_w, x_p_wn, x_p_fu, ⟨x_p_r0, x_p_r1, x_p_r2, x_p_r3⟩, x_p_ms, x_p_ls, x_p_is⟩, ⟨⟨⟨x_c_r0, x_c_r1, x_c_r2, x_c_r3⟩, x_c_mm, x_c_st, x_c_pc⟩, x_c_bf, x_c_rb, x_c_en⟩, x_i, ⟨x_e_pc, x_e_vl, x_e_ad, x_e_fr, x_e_nx, x_e_dn, x_e_kn, x_e_ft⟩, ⟨x_s_k, x_s_o, x_s_d, ⟨x_s_ag, x_s_an⟩, ⟨x_s_bg, x_s_bn⟩, x_s_nm, x_s_tg⟩⟩ : Spot).p (⟨⟨x_p_w, x_p_wn, x_p_fu, ⟨x_p_r0, x_p_r1, x_p_r2, x_p_r3⟩, x_p_ms, x_p_ls, x_p_is⟩, ⟨⟨⟨x_c_r0, x_c_r1, x_c_r2, x_c_r3⟩, x_c_mm, x_c_st, x_c_pc⟩, x_c_bf, x_c_rb, x_c_en⟩, x_i, ⟨x_e_pc, x_e_vl, x_e_ad, x_e_fr, x_e_nx, x_e_dn, x_e_kn, x_e_ft⟩, ⟨x_s_k, x_s_o, x_s_d, ⟨x_s_ag, x_s_an⟩, ⟨x_s_bg, x_s_bn⟩, x_s_nm, x_s_tg⟩⟩ : Spot).c (⟨⟨x_p_w, x_p_wn, x_p_fu, ⟨x_p_r0, x_p_r1, x_p_r2, x_p_r3⟩, x_p_ms, x_p_ls, x_p_is⟩, ⟨⟨⟨x_c_r0, x_c_r1, x_c_r2, x_c_r3⟩, x_c_mm, x_c_st, x_c_pc⟩, x_c_bf, x_c_rb, x_c_en⟩, x_i, ⟨x_e_pc, x_e_vl, x_e_ad, x_e_fr, x_e_nx, x_e_dn, x_e_kn, x_e_ft⟩, ⟨x_s_k, x_s_o, x_s_d, ⟨x_s_ag, x_s_an⟩, ⟨x_s_bg, x_s_bn⟩, x_s_nm, x_s_tg⟩⟩ : Spot).i (⟨⟨x_p_w, x_p_wn, x_p_fu, ⟨x_p_r0, x_p_r1, x_p_r2, x_p_r3⟩, x_p_ms, x_p_ls, x_p_is⟩, ⟨⟨⟨x_c_r0, x_c_r1, x_c_r2, x_c_r3⟩, x_c_mm, x_c_st, x_c_pc⟩, x_c_bf, x_c_rb, x_c_en⟩, x_i, ⟨x_e_pc, x_e_vl, x_e_ad, x_e_fr, x_e_nx, x_e_dn, x_e_kn, x_e_ft⟩, ⟨x_s_k, x_s_o, x_s_d, ⟨x_s_ag, x_s_an⟩, ⟨x_s_bg, x_s_bn⟩, x_s_nm, x_s_tg⟩⟩ : Spot).s.d).2])) []) :=
 Says.flat (raw_exec_spot_held S dp (⟨⟨x_p_w, x_p_wn, x_p_fu, ⟨x_p_r0, x_p_r1, x_p_r2, x_p_r3⟩, x_p_ms, x_p_ls, x_p_is⟩, ⟨⟨⟨x_c_r0, x_c_r1, x_c_r2, x_c_r3⟩, x_c_mm, x_c_st, x_c_pc⟩, x_c_bf, x_c_rb, x_c_en⟩, x_i, ⟨x_e_pc, x_e_vl, x_e_ad, x_e_fr, x_e_nx, x_e_dn, x_e_kn, x_e_ft⟩, ⟨x_s_k, x_s_o, x_s_d, ⟨x_s_ag, x_s_an⟩, ⟨x_s_bg, x_s_bn⟩, x_s_nm, x_s_tg⟩⟩ : Spot) hl) (np S 60 (by decide)) (rfl) A nb us
end
def abOf (x : Spot) : Bool := (Md.valM x.p x.c x.i x.s.a).2 && (Md.valM x.p x.c x.i x.s.b).2
def adOf (x : Spot) : Int := Md.mask x.p.w ((Md.valM x.p x.c x.i x.s.a).1 + (Md.valM x.p x.c x.i x.s.b).1)
def inOf (x : Spot) : Bool := decide (adOf x < cellsI x.p.mems)
def loadE (x : Spot) : Ent × Bool × Bool :=
 bif abOf x then
  (bif inOf x then (⟨x.e.pc, (Md.loadM x.p x.c x.i (adOf x)).1, adOf x, (Md.loadM x.p x.c x.i (adOf x)).2.1, x.e.next, true, true, x.e.fault⟩, true, (Md.loadM x.p x.c x.i (adOf x)).2.2)
   else (⟨x.e.pc, 0, adOf x, -1, x.e.next, true, true, true⟩, false, true))
 else (Md.ent0, false, false)
def readyX (x : Spot) : Bool := Md.ready (cellsI x.p.mems) x.p x.c x.i x.s (Md.valM x.p x.c x.i x.s.a) (Md.valM x.p x.c x.i x.s.b) (Md.regM x.p x.c x.i x.s.d)
variable {E : Env} {fn : FuncId -> Option (Env -> CallT -> CallT)}
section
variable (S : Sur E fn)
include S
theorem o65_16 : E.lives 65 9 = none /\ E.lives 65 19 = none := ⟨off S 65 9 (by decide) rfl, off S 65 19 (by decide) rfl⟩
theorem o71_16 : E.lives 71 15 = none /\ E.lives 71 17 = none /\ E.lives 71 21 = none /\ E.lives 71 25 = none /\ E.lives 71 31 = none /\ E.lives 71 35 = none := ⟨off S 71 15 (by decide) rfl, off S 71 17 (by decide) rfl, off S 71 21 (by decide) rfl, off S 71 25 (by decide) rfl, off S 71 31 (by decide) rfl, off S 71 35 (by decide) rfl⟩
theorem raw_exec_spot_load (dp : Nat) (x : Spot) (hl : x.c.buf.length < 1073741824) (hm : x.p.mems.length < 1073741824) : Says E fn (dp + 7) 65 [spotD x] (.tup [.agg (Cl.cells (loadE x).1), vb (loadE x).2.1, vb (loadE x).2.2]) := by
 unfold Says
 show ansOf (evC E fn (dp + 6 + 1) 65 [.d (spotD x)] []) = _
 rw [evC_succ, S.f_exec_spot_load, apF_some, F_exec_spot_load, mkF_run _ _ _ _ _ _ _ _ rfl]
 have e1 : ((Md.valM x.p x.c x.i x.s.a).2 && (Md.valM x.p x.c x.i x.s.b).2) = abOf x := rfl
 have e2 : Md.mask x.p.w ((Md.valM x.p x.c x.i x.s.a).1 + (Md.valM x.p x.c x.i x.s.b).1) = adOf x := rfl
 have e3 : decide (adOf x < cellsI x.p.mems) = inOf x := rfl
 cases h : abOf x with
 | false => simp only [eG, go_sem, thq S, nbr S, zN0, zN1, zN2, zN3, zN4, zI0, zI1, zI2, zI3, reduceCtorEq, o65_16 S, c_exec_spot_two S, hl, e1, h, Bool.not_false, loadE, Md.ent0]
 | true =>
  cases h2 : inOf x with
  | true => simp only [eG, go_sem, thq S, nbr S, zN0, zN1, zN2, zN3, zN4, zI0, zI1, zI2, zI3, reduceCtorEq, o65_16 S, c_exec_spot_two S, hl, hm, e1, e2, e3, h, h2, Bool.not_true, Bool.not_false, loadE, c_seqm_Address S, c_memo_Load S, Md.loadM]
  | false => simp only [eG, go_sem, thq S, nbr S, zN0, zN1, zN2, zN3, zN4, zI0, zI1, zI2, zI3, reduceCtorEq, o65_16 S, c_exec_spot_two S, hl, hm, e1, e2, e3, h, h2, Bool.not_true, Bool.not_false, loadE, c_seqm_Address S]
theorem c_exec_spot_load (dp : Nat) (x_p_w x_p_wn x_p_fu x_p_r0 x_p_r1 x_p_r2 x_p_r3 : Int) (x_p_ms : List MemT) (x_p_ls : List Label) (x_p_is : List Ins) (x_c_r0 x_c_r1 x_c_r2 x_c_r3 : Int) (x_c_mm x_c_st : List Int) (x_c_pc : Int) (x_c_bf : List Ent) (x_c_rb : List Int) (x_c_en x_i x_e_pc x_e_vl x_e_ad x_e_fr x_e_nx : Int) (x_e_dn x_e_kn x_e_ft : Bool) (x_s_k x_s_o x_s_d : Int) (x_s_ag : Bool) (x_s_an : Int) (x_s_bg : Bool) (x_s_bn : Int) (x_s_nm : ByteArray) (x_s_tg : Int) (hl : (⟨⟨x_p_w, x_p_wn, x_p_fu, ⟨x_p_r0, x_p_r1, x_p_r2, x_p_r3⟩, x_p_ms, x_p_ls, x_p_is⟩, ⟨⟨⟨x_c_r0, x_c_r1, x_c_r2, x_c_r3⟩, x_c_mm, x_c_st, x_c_pc⟩, x_c_bf, x_c_rb, x_c_en⟩, x_i, ⟨x_e_pc, x_e_vl, x_e_ad, x_e_fr, x_e_nx, x_e_dn, x_e_kn, x_e_ft⟩, ⟨x_s_k, x_s_o, x_s_d, ⟨x_s_ag, x_s_an⟩, ⟨x_s_bg, x_s_bn⟩, x_s_nm, x_s_tg⟩⟩ : Spot).c.buf.length < 1073741824) (hm : (⟨⟨x_p_w, x_p_wn, x_p_fu, ⟨x_p_r0, x_p_r1, x_p_r2, x_p_r3⟩, x_p_ms, x_p_ls, x_p_is⟩, ⟨⟨⟨x_c_r0, x_c_r1, x_c_r2, x_c_r3⟩, x_c_mm, x_c_st, x_c_pc⟩, x_c_bf, x_c_rb, x_c_en⟩, x_i, ⟨x_e_pc, x_e_vl, x_e_ad, x_e_fr, x_e_nx, x_e_dn, x_e_kn, x_e_ft⟩, ⟨x_s_k, x_s_o, x_s_d, ⟨x_s_ag, x_s_an⟩, ⟨x_s_bg, x_s_bn⟩, x_s_nm, x_s_tg⟩⟩ : Spot).p.mems.length < 1073741824) (A : List Blk) (nb : Nat) (us : List Nat) : evOwnK false E (evC E fn (dp + 7)) 65 A nb (some ([.agg [vi x_p_w, vi x_p_wn, vi x_p_fu, vi x_p_r0, vi x_p_r1, vi x_p_r2, vi x_p_r3, rowD x_p_ms, rowD x_p_ls, rowD x_p_is, vi x_c_r0, vi x_c_r1, vi x_c_r2, vi x_c_r3, rowD x_c_mm, rowD x_c_st, vi x_c_pc, rowD x_c_bf, rowD x_c_rb, vi x_c_en, vi x_i, vi x_e_pc, vi x_e_vl, vi x_e_ad, vi x_e_fr, vi x_e_nx, vb x_e_dn, vb x_e_kn, vb x_e_ft, vi x_s_k, vi x_s_o, vi x_s_d, vb x_s_ag, vi x_s_an, vb x_s_bg, vi x_s_bn, vt x_s_nm, vi x_s_tg]], us)) = some (.made (.d (.tup [.agg (Cl.cells (loadE (⟨⟨x_p_w, x_p_wn, x_p_fu, ⟨x_p_r0, x_p_r1, x_p_r2, x_p_r3⟩, x_p_ms, x_p_ls, x_p_is⟩, ⟨⟨⟨x_c_r0, x_c_r1, x_c_r2, x_c_r3⟩, x_c_mm, x_c_st, x_c_pc⟩, x_c_bf, x_c_rb, x_c_en⟩, x_i, ⟨x_e_pc, x_e_vl, x_e_ad, x_e_fr, x_e_nx, x_e_dn, x_e_kn, x_e_ft⟩, ⟨x_s_k, x_s_o, x_s_d, ⟨x_s_ag, x_s_an⟩, ⟨x_s_bg, x_s_bn⟩, x_s_nm, x_s_tg⟩⟩ : Spot)).1), vb (loadE (⟨⟨x_p_w, x_p_wn, x_p_fu, ⟨x_p_r0, x_p_r1, x_p_r2, x_p_r3⟩, x_p_ms, x_p_ls, x_p_is⟩, ⟨⟨⟨x_c_r0, x_c_r1, x_c_r2, x_c_r3⟩, x_c_mm, x_c_st, x_c_pc⟩, x_c_bf, x_c_rb, x_c_en⟩, x_i, ⟨x_e_pc, x_e_vl, x_e_ad, x_e_fr, x_e_nx, x_e_dn, x_e_kn, x_e_ft⟩, ⟨x_s_k, x_s_o, x_s_d, ⟨x_s_ag, x_s_an⟩, ⟨x_s_bg, x_s_bn⟩, x_s_nm, x_s_tg⟩⟩ : Spot)).2.1, vb (loadE (⟨⟨x_p_w, x_p_wn, x_p_fu, ⟨x_p_r0, x_p_r1, x_p_r2, x_p_r3⟩, x_p_ms, x_p_ls, x_p_is⟩, ⟨⟨⟨x_c_r0, x_c_r1, x_c_r2, x_c_r3⟩, x_c_mm, x_c_st, x_c_pc⟩, x_c_bf, x_c_rb, x_c_en⟩, x_i, ⟨x_e_pc, x_e_vl, x_e_ad, x_e_fr, x_e_nx, x_e_dn, x_e_kn, x_e_ft⟩, ⟨x_s_k, x_s_o, x_s_d, ⟨x_s_ag, x_s_an⟩, ⟨x_s_bg, x_s_bn⟩, x_s_nm, x_s_tg⟩⟩ : Spot)).2.2])) []) :=
 Says.flat (raw_exec_spot_load S dp (⟨⟨x_p_w, x_p_wn, x_p_fu, ⟨x_p_r0, x_p_r1, x_p_r2, x_p_r3⟩, x_p_ms, x_p_ls, x_p_is⟩, ⟨⟨⟨x_c_r0, x_c_r1, x_c_r2, x_c_r3⟩, x_c_mm, x_c_st, x_c_pc⟩, x_c_bf, x_c_rb, x_c_en⟩, x_i, ⟨x_e_pc, x_e_vl, x_e_ad, x_e_fr, x_e_nx, x_e_dn, x_e_kn, x_e_ft⟩, ⟨x_s_k, x_s_o, x_s_d, ⟨x_s_ag, x_s_an⟩, ⟨x_s_bg, x_s_bn⟩, x_s_nm, x_s_tg⟩⟩ : Spot) hl hm) (np S 65 (by decide)) (rfl) A nb us
theorem raw_exec_spot_ready (dp : Nat) (x : Spot) (hl : x.c.buf.length < 1073741824) (hm : x.p.mems.length < 1073741824) : Says E fn (dp + 8) 71 [spotD x] (vb (readyX x)) := by
 unfold Says
 show ansOf (evC E fn (dp + 7 + 1) 71 [.d (spotD x)] []) = _
 rw [evC_succ, S.f_exec_spot_ready, apF_some, F_exec_spot_ready, mkF_run _ _ _ _ _ _ _ _ rfl]
 have e1 : ((Md.valM x.p x.c x.i x.s.a).2 && (Md.valM x.p x.c x.i x.s.b).2) = abOf x := rfl
 have hld : (loadE x).2.2 = (abOf x && (decide (adOf x >= cellsI x.p.mems) || (Md.loadM x.p x.c x.i (adOf x)).2.2)) := by
  unfold loadE inOf
  cases abOf x with
  | false => rfl
  | true =>
   by_cases h : adOf x < cellsI x.p.mems
   ·simp [h, Int.not_le.2 h]
   ·simp [h, Int.not_lt.1 h]
 unfold readyX
 cases hab : abOf x <;> simp only [eG, go_sem, thq S, nbr S, zN0, zN1, zN2, zN3, zN4, zI0, zI1, zI2, zI3, reduceCtorEq, o71_16 S, c_exec_spot_two S, c_exec_spot_held S, c_exec_spot_val S, c_exec_spot_load S, hl, hm, e1, hab, hld]
 all_goals
  have h' := hab
  unfold abOf at h'
  by_cases k1 : x.s.kind = 1
  ·simp only [k1, Md.ready, h', if_true, decide_true, cond_true, true_or]
  by_cases k5 : x.s.kind = 5
  ·simp only [k5, Md.ready, h', if_true, decide_true, cond_true, or_true, zI0, decide_false, cond_false]
  by_cases k4 : x.s.kind = 4
  ·simp only [k4, Md.ready, h', if_true, if_false, decide_true, cond_true, or_self, zI0, decide_false, cond_false, Bool.true_and, Bool.false_and]
  by_cases k2 : x.s.kind = 2
  ·simp only [k2, Md.ready, h', if_true, if_false, decide_true, cond_true, or_self, zI0, decide_false, cond_false, Bool.true_and, Bool.false_and, adOf]
   try rfl
  by_cases k3 : x.s.kind = 3
  ·simp only [k3, Md.ready, if_true, if_false, decide_true, cond_true, or_self, zI0, decide_false, cond_false]
  by_cases k7 : x.s.kind = 7
  ·simp only [k7, Md.ready, if_true, if_false, decide_true, cond_true, or_self, zI0, decide_false, cond_false]
  ·simp only [k1, k2, k3, k4, k5, k7, Md.ready, if_true, if_false, decide_true, cond_true, or_self, zI0, decide_false, cond_false]
theorem c_exec_spot_ready (dp : Nat) (x_p_w x_p_wn x_p_fu x_p_r0 x_p_r1 x_p_r2 x_p_r3 : Int) (x_p_ms : List MemT) (x_p_ls : List Label) (x_p_is : List Ins) (x_c_r0 x_c_r1 x_c_r2 x_c_r3 : Int) (x_c_mm x_c_st : List Int) (x_c_pc : Int) (x_c_bf : List Ent) (x_c_rb : List Int) (x_c_en x_i x_e_pc x_e_vl x_e_ad x_e_fr x_e_nx : Int) (x_e_dn x_e_kn x_e_ft : Bool) (x_s_k x_s_o x_s_d : Int) (x_s_ag : Bool) (x_s_an : Int) (x_s_bg : Bool) (x_s_bn : Int) (x_s_nm : ByteArray) (x_s_tg : Int) (hl : (⟨⟨x_p_w, x_p_wn, x_p_fu, ⟨x_p_r0, x_p_r1, x_p_r2, x_p_r3⟩, x_p_ms, x_p_ls, x_p_is⟩, ⟨⟨⟨x_c_r0, x_c_r1, x_c_r2, x_c_r3⟩, x_c_mm, x_c_st, x_c_pc⟩, x_c_bf, x_c_rb, x_c_en⟩, x_i, ⟨x_e_pc, x_e_vl, x_e_ad, x_e_fr, x_e_nx, x_e_dn, x_e_kn, x_e_ft⟩, ⟨x_s_k, x_s_o, x_s_d, ⟨x_s_ag, x_s_an⟩, ⟨x_s_bg, x_s_bn⟩, x_s_nm, x_s_tg⟩⟩ : Spot).c.buf.length < 1073741824) (hm : (⟨⟨x_p_w, x_p_wn, x_p_fu, ⟨x_p_r0, x_p_r1, x_p_r2, x_p_r3⟩, x_p_ms, x_p_ls, x_p_is⟩, ⟨⟨⟨x_c_r0, x_c_r1, x_c_r2, x_c_r3⟩, x_c_mm, x_c_st, x_c_pc⟩, x_c_bf, x_c_rb, x_c_en⟩, x_i, ⟨x_e_pc, x_e_vl, x_e_ad, x_e_fr, x_e_nx, x_e_dn, x_e_kn, x_e_ft⟩, ⟨x_s_k, x_s_o, x_s_d, ⟨x_s_ag, x_s_an⟩, ⟨x_s_bg, x_s_bn⟩, x_s_nm, x_s_tg⟩⟩ : Spot).p.mems.length < 1073741824) (A : List Blk) (nb : Nat) (us : List Nat) : evOwnK false E (evC E fn (dp + 8)) 71 A nb (some ([.agg [vi x_p_w, vi x_p_wn, vi x_p_fu, vi x_p_r0, vi x_p_r1, vi x_p_r2, vi x_p_r3, rowD x_p_ms, rowD x_p_ls, rowD x_p_is, vi x_c_r0, vi x_c_r1, vi x_c_r2, vi x_c_r3, rowD x_c_mm, rowD x_c_st, vi x_c_pc, rowD x_c_bf, rowD x_c_rb, vi x_c_en, vi x_i, vi x_e_pc, vi x_e_vl, vi x_e_ad, vi x_e_fr, vi x_e_nx, vb x_e_dn, vb x_e_kn, vb x_e_ft, vi x_s_k, vi x_s_o, vi x_s_d, vb x_s_ag, vi x_s_an, vb x_s_bg, vi x_s_bn, vt x_s_nm, vi x_s_tg]], us)) = some (.made (.d (vb (readyX (⟨⟨x_p_w, x_p_wn, x_p_fu, ⟨x_p_r0, x_p_r1, x_p_r2, x_p_r3⟩, x_p_ms, x_p_ls, x_p_is⟩, ⟨⟨⟨x_c_r0, x_c_r1, x_c_r2, x_c_r3⟩, x_c_mm, x_c_st, x_c_pc⟩, x_c_bf, x_c_rb, x_c_en⟩, x_i, ⟨x_e_pc, x_e_vl, x_e_ad, x_e_fr, x_e_nx, x_e_dn, x_e_kn, x_e_ft⟩, ⟨x_s_k, x_s_o, x_s_d, ⟨x_s_ag, x_s_an⟩, ⟨x_s_bg, x_s_bn⟩, x_s_nm, x_s_tg⟩⟩ : Spot)))) []) :=
 Says.flat (raw_exec_spot_ready S dp (⟨⟨x_p_w, x_p_wn, x_p_fu, ⟨x_p_r0, x_p_r1, x_p_r2, x_p_r3⟩, x_p_ms, x_p_ls, x_p_is⟩, ⟨⟨⟨x_c_r0, x_c_r1, x_c_r2, x_c_r3⟩, x_c_mm, x_c_st, x_c_pc⟩, x_c_bf, x_c_rb, x_c_en⟩, x_i, ⟨x_e_pc, x_e_vl, x_e_ad, x_e_fr, x_e_nx, x_e_dn, x_e_kn, x_e_ft⟩, ⟨x_s_k, x_s_o, x_s_d, ⟨x_s_ag, x_s_an⟩, ⟨x_s_bg, x_s_bn⟩, x_s_nm, x_s_tg⟩⟩ : Spot) hl hm) (np S 71 (by decide)) (rfl) A nb us
theorem raw_exec_Can (dp : Nat) (p : Prog) (c : Conf) (i : Int) (hl : c.buf.length < 1073741824) (hm : p.mems.length < 1073741824) : Says E fn (dp + 9) 26 [progD p, confD c, vi i] (vb (Md.can (cellsI p.mems) p c i)) := by
 unfold Says
 show ansOf (evC E fn (dp + 8 + 1) 26 [.d (progD p), .d (confD c), .d (vi i)] []) = _
 rw [evC_succ, S.f_exec_Can, apF_some, F_exec_Can, mkF_run _ _ _ _ _ _ _ _ rfl]
 cases ho : Md.openM p c i with
 | false => simp only [eG, go_sem, thq S, nbr S, zN0, zN1, zN2, zN3, zN4, zI0, zI1, zI2, zI3, reduceCtorEq, c_exec_at S, hl, ho, Md.can]
 | true =>
  have e : readyX (spotOf p c i) = Md.ready (cellsI p.mems) p c i (Md.insM p c i) (Md.valM p c i (Md.insM p c i).a) (Md.valM p c i (Md.insM p c i).b) (Md.regM p c i (Md.insM p c i).d) := rfl
  cases hd : (Md.entAt c.buf i).done with
  | true => simp only [eG, go_sem, thq S, nbr S, zN0, zN1, zN2, zN3, zN4, zI0, zI1, zI2, zI3, reduceCtorEq, c_exec_at S, hl, ho, spotOf, hd, Bool.not_true, Md.can]
  | false =>
   have hd' : (spotOf p c i).e.done = false := hd
   have e2 : readyX { p := (spotOf p c i).p, c := (spotOf p c i).c, i := (spotOf p c i).i, e := { pc := (spotOf p c i).e.pc, val := (spotOf p c i).e.val, addr := (spotOf p c i).e.addr, frm := (spotOf p c i).e.frm, next := (spotOf p c i).e.next, done := false, known := (spotOf p c i).e.known, fault := (spotOf p c i).e.fault }, s := (spotOf p c i).s } = Md.ready (cellsI p.mems) p c i (Md.insM p c i) (Md.valM p c i (Md.insM p c i).a) (Md.valM p c i (Md.insM p c i).b) (Md.regM p c i (Md.insM p c i).d) := by rw [<- hd']; exact e
   simp only [eG, go_sem, thq S, nbr S, zN0, zN1, zN2, zN3, zN4, zI0, zI1, zI2, zI3, reduceCtorEq, c_exec_at S, hl, ho, hd', Bool.not_false, c_exec_spot_ready S, show (spotOf p c i).c.buf.length < 1073741824 from hl, show (spotOf p c i).p.mems.length < 1073741824 from hm, e2, Md.can, hd]
theorem c_exec_Can (dp : Nat) (p_w p_wn p_fu p_r0 p_r1 p_r2 p_r3 : Int) (p_ms : List MemT) (p_ls : List Label) (p_is : List Ins) (c_r0 c_r1 c_r2 c_r3 : Int) (c_mm c_st : List Int) (c_pc : Int) (c_bf : List Ent) (c_rb : List Int) (c_en i : Int) (hl : (⟨⟨⟨c_r0, c_r1, c_r2, c_r3⟩, c_mm, c_st, c_pc⟩, c_bf, c_rb, c_en⟩ : Conf).buf.length < 1073741824) (hm : (⟨p_w, p_wn, p_fu, ⟨p_r0, p_r1, p_r2, p_r3⟩, p_ms, p_ls, p_is⟩ : Prog).mems.length < 1073741824) (A : List Blk) (nb : Nat) (us : List Nat) : evOwnK false E (evC E fn (dp + 9)) 26 A nb (some ([.agg [vi p_w, vi p_wn, vi p_fu, vi p_r0, vi p_r1, vi p_r2, vi p_r3, rowD p_ms, rowD p_ls, rowD p_is], .agg [vi c_r0, vi c_r1, vi c_r2, vi c_r3, rowD c_mm, rowD c_st, vi c_pc, rowD c_bf, rowD c_rb, vi c_en], vi i], us)) = some (.made (.d (vb (Md.can (cellsI (⟨p_w, p_wn, p_fu, ⟨p_r0, p_r1, p_r2, p_r3⟩, p_ms, p_ls, p_is⟩ : Prog).mems) (⟨p_w, p_wn, p_fu, ⟨p_r0, p_r1, p_r2, p_r3⟩, p_ms, p_ls, p_is⟩ : Prog) (⟨⟨⟨c_r0, c_r1, c_r2, c_r3⟩, c_mm, c_st, c_pc⟩, c_bf, c_rb, c_en⟩ : Conf) i))) []) :=
 Says.flat (raw_exec_Can S dp (⟨p_w, p_wn, p_fu, ⟨p_r0, p_r1, p_r2, p_r3⟩, p_ms, p_ls, p_is⟩ : Prog) (⟨⟨⟨c_r0, c_r1, c_r2, c_r3⟩, c_mm, c_st, c_pc⟩, c_bf, c_rb, c_en⟩ : Conf) i hl hm) (np S 26 (by decide)) (rfl) A nb us
theorem raw_exec_spot_put (dp : Nat) (x : Spot) (e : Ent) (hm : x.c.state.mem.length < 1073741824) (hs : x.c.state.stack.length < 1073741824) (hl : x.c.buf.length < 1073741824) (hr : x.c.rsb.length < 1073741824) (h0 : 0 <= x.i) (h1 : x.i < x.c.buf.length) : Says E fn (dp + 3) 66 [spotD x, .agg (Cl.cells e)] (confD (Md.put x.c x.i e)) := by
 unfold Says
 show ansOf (evC E fn (dp + 2 + 1) 66 [.d (spotD x), .d (.agg (Cl.cells e))] []) = _
 rw [evC_succ, S.f_exec_spot_put, apF_some, F_exec_spot_put, mkF_run _ _ _ _ _ _ _ _ rfl]
 simp only [eG, go_sem, thq S, nbr S, zN0, zN1, zN2, zN3, zN4, zI0, zI1, zI2, zI3, reduceCtorEq, c_conf_Still S, hm, hs, hl, hr, c_robq_Put S, h0, h1, Md.put]
theorem c_exec_spot_put (dp : Nat) (x_p_w x_p_wn x_p_fu x_p_r0 x_p_r1 x_p_r2 x_p_r3 : Int) (x_p_ms : List MemT) (x_p_ls : List Label) (x_p_is : List Ins) (x_c_r0 x_c_r1 x_c_r2 x_c_r3 : Int) (x_c_mm x_c_st : List Int) (x_c_pc : Int) (x_c_bf : List Ent) (x_c_rb : List Int) (x_c_en x_i x_e_pc x_e_vl x_e_ad x_e_fr x_e_nx : Int) (x_e_dn x_e_kn x_e_ft : Bool) (x_s_k x_s_o x_s_d : Int) (x_s_ag : Bool) (x_s_an : Int) (x_s_bg : Bool) (x_s_bn : Int) (x_s_nm : ByteArray) (x_s_tg e_pc e_vl e_ad e_fr e_nx : Int) (e_dn e_kn e_ft : Bool) (hm : (⟨⟨x_p_w, x_p_wn, x_p_fu, ⟨x_p_r0, x_p_r1, x_p_r2, x_p_r3⟩, x_p_ms, x_p_ls, x_p_is⟩, ⟨⟨⟨x_c_r0, x_c_r1, x_c_r2, x_c_r3⟩, x_c_mm, x_c_st, x_c_pc⟩, x_c_bf, x_c_rb, x_c_en⟩, x_i, ⟨x_e_pc, x_e_vl, x_e_ad, x_e_fr, x_e_nx, x_e_dn, x_e_kn, x_e_ft⟩, ⟨x_s_k, x_s_o, x_s_d, ⟨x_s_ag, x_s_an⟩, ⟨x_s_bg, x_s_bn⟩, x_s_nm, x_s_tg⟩⟩ : Spot).c.state.mem.length < 1073741824) (hs : (⟨⟨x_p_w, x_p_wn, x_p_fu, ⟨x_p_r0, x_p_r1, x_p_r2, x_p_r3⟩, x_p_ms, x_p_ls, x_p_is⟩, ⟨⟨⟨x_c_r0, x_c_r1, x_c_r2, x_c_r3⟩, x_c_mm, x_c_st, x_c_pc⟩, x_c_bf, x_c_rb, x_c_en⟩, x_i, ⟨x_e_pc, x_e_vl, x_e_ad, x_e_fr, x_e_nx, x_e_dn, x_e_kn, x_e_ft⟩, ⟨x_s_k, x_s_o, x_s_d, ⟨x_s_ag, x_s_an⟩, ⟨x_s_bg, x_s_bn⟩, x_s_nm, x_s_tg⟩⟩ : Spot).c.state.stack.length < 1073741824) (hl : (⟨⟨x_p_w, x_p_wn, x_p_fu, ⟨x_p_r0, x_p_r1, x_p_r2, x_p_r3⟩, x_p_ms, x_p_ls, x_p_is⟩, ⟨⟨⟨x_c_r0, x_c_r1, x_c_r2, x_c_r3⟩, x_c_mm, x_c_st, x_c_pc⟩, x_c_bf, x_c_rb, x_c_en⟩, x_i, ⟨x_e_pc, x_e_vl, x_e_ad, x_e_fr, x_e_nx, x_e_dn, x_e_kn, x_e_ft⟩, ⟨x_s_k, x_s_o, x_s_d, ⟨x_s_ag, x_s_an⟩, ⟨x_s_bg, x_s_bn⟩, x_s_nm, x_s_tg⟩⟩ : Spot).c.buf.length < 1073741824) (hr : (⟨⟨x_p_w, x_p_wn, x_p_fu, ⟨x_p_r0, x_p_r1, x_p_r2, x_p_r3⟩, x_p_ms, x_p_ls, x_p_is⟩, ⟨⟨⟨x_c_r0, x_c_r1, x_c_r2, x_c_r3⟩, x_c_mm, x_c_st, x_c_pc⟩, x_c_bf, x_c_rb, x_c_en⟩, x_i, ⟨x_e_pc, x_e_vl, x_e_ad, x_e_fr, x_e_nx, x_e_dn, x_e_kn, x_e_ft⟩, ⟨x_s_k, x_s_o, x_s_d, ⟨x_s_ag, x_s_an⟩, ⟨x_s_bg, x_s_bn⟩, x_s_nm, x_s_tg⟩⟩ : Spot).c.rsb.length < 1073741824) (h0 : 0 <= (⟨⟨x_p_w, x_p_wn, x_p_fu, ⟨x_p_r0, x_p_r1, x_p_r2, x_p_r3⟩, x_p_ms, x_p_ls, x_p_is⟩, ⟨⟨⟨x_c_r0, x_c_r1, x_c_r2, x_c_r3⟩, x_c_mm, x_c_st, x_c_pc⟩, x_c_bf, x_c_rb, x_c_en⟩, x_i, ⟨x_e_pc, x_e_vl, x_e_ad, x_e_fr, x_e_nx, x_e_dn, x_e_kn, x_e_ft⟩, ⟨x_s_k, x_s_o, x_s_d, ⟨x_s_ag, x_s_an⟩, ⟨x_s_bg, x_s_bn⟩, x_s_nm, x_s_tg⟩⟩ : Spot).i) (h1 : (⟨⟨x_p_w, x_p_wn, x_p_fu, ⟨x_p_r0, x_p_r1, x_p_r2, x_p_r3⟩, x_p_ms, x_p_ls, x_p_is⟩, ⟨⟨⟨x_c_r0, x_c_r1, x_c_r2, x_c_r3⟩, x_c_mm, x_c_st, x_c_pc⟩, x_c_bf, x_c_rb, x_c_en⟩, x_i, ⟨x_e_pc, x_e_vl, x_e_ad, x_e_fr, x_e_nx, x_e_dn, x_e_kn, x_e_ft⟩, ⟨x_s_k, x_s_o, x_s_d, ⟨x_s_ag, x_s_an⟩, ⟨x_s_bg, x_s_bn⟩, x_s_nm, x_s_tg⟩⟩ : Spot).i < (⟨⟨x_p_w, x_p_wn, x_p_fu, ⟨x_p_r0, x_p_r1, x_p_r2, x_p_r3⟩, x_p_ms, x_p_ls, x_p_is⟩, ⟨⟨⟨x_c_r0, x_c_r1, x_c_r2, x_c_r3⟩, x_c_mm, x_c_st, x_c_pc⟩, x_c_bf, x_c_rb, x_c_en⟩, x_i, ⟨x_e_pc, x_e_vl, x_e_ad, x_e_fr, x_e_nx, x_e_dn, x_e_kn, x_e_ft⟩, ⟨x_s_k, x_s_o, x_s_d, ⟨x_s_ag, x_s_an⟩, ⟨x_s_bg, x_s_bn⟩, x_s_nm, x_s_tg⟩⟩ : Spot).c.buf.length) (A : List Blk) (nb : Nat) : evOwnK false E (evC E fn (dp + 3)) 66 A nb (some ([.agg [vi x_p_w, vi x_p_wn, vi x_p_fu, vi x_p_r0, vi x_p_r1, vi x_p_r2, vi x_p_r3, rowD x_p_ms, rowD x_p_ls, rowD x_p_is, vi x_c_r0, vi x_c_r1, vi x_c_r2, vi x_c_r3, rowD x_c_mm, rowD x_c_st, vi x_c_pc, rowD x_c_bf, rowD x_c_rb, vi x_c_en, vi x_i, vi x_e_pc, vi x_e_vl, vi x_e_ad, vi x_e_fr, vi x_e_nx, vb x_e_dn, vb x_e_kn, vb x_e_ft, vi x_s_k, vi x_s_o, vi x_s_d, vb x_s_ag, vi x_s_an, vb x_s_bg, vi x_s_bn, vt x_s_nm, vi x_s_tg], .agg [vi e_pc, vi e_vl, vi e_ad, vi e_fr, vi e_nx, vb e_dn, vb e_kn, vb e_ft]], [])) = some (.made (.d (confD (Md.put (⟨⟨x_p_w, x_p_wn, x_p_fu, ⟨x_p_r0, x_p_r1, x_p_r2, x_p_r3⟩, x_p_ms, x_p_ls, x_p_is⟩, ⟨⟨⟨x_c_r0, x_c_r1, x_c_r2, x_c_r3⟩, x_c_mm, x_c_st, x_c_pc⟩, x_c_bf, x_c_rb, x_c_en⟩, x_i, ⟨x_e_pc, x_e_vl, x_e_ad, x_e_fr, x_e_nx, x_e_dn, x_e_kn, x_e_ft⟩, ⟨x_s_k, x_s_o, x_s_d, ⟨x_s_ag, x_s_an⟩, ⟨x_s_bg, x_s_bn⟩, x_s_nm, x_s_tg⟩⟩ : Spot).c (⟨⟨x_p_w, x_p_wn, x_p_fu, ⟨x_p_r0, x_p_r1, x_p_r2, x_p_r3⟩, x_p_ms, x_p_ls, x_p_is⟩, ⟨⟨⟨x_c_r0, x_c_r1, x_c_r2, x_c_r3⟩, x_c_mm, x_c_st, x_c_pc⟩, x_c_bf, x_c_rb, x_c_en⟩, x_i, ⟨x_e_pc, x_e_vl, x_e_ad, x_e_fr, x_e_nx, x_e_dn, x_e_kn, x_e_ft⟩, ⟨x_s_k, x_s_o, x_s_d, ⟨x_s_ag, x_s_an⟩, ⟨x_s_bg, x_s_bn⟩, x_s_nm, x_s_tg⟩⟩ : Spot).i (⟨e_pc, e_vl, e_ad, e_fr, e_nx, e_dn, e_kn, e_ft⟩ : Ent)))) []) :=
 Says.deep (raw_exec_spot_put S dp (⟨⟨x_p_w, x_p_wn, x_p_fu, ⟨x_p_r0, x_p_r1, x_p_r2, x_p_r3⟩, x_p_ms, x_p_ls, x_p_is⟩, ⟨⟨⟨x_c_r0, x_c_r1, x_c_r2, x_c_r3⟩, x_c_mm, x_c_st, x_c_pc⟩, x_c_bf, x_c_rb, x_c_en⟩, x_i, ⟨x_e_pc, x_e_vl, x_e_ad, x_e_fr, x_e_nx, x_e_dn, x_e_kn, x_e_ft⟩, ⟨x_s_k, x_s_o, x_s_d, ⟨x_s_ag, x_s_an⟩, ⟨x_s_bg, x_s_bn⟩, x_s_nm, x_s_tg⟩⟩ : Spot) (⟨e_pc, e_vl, e_ad, e_fr, e_nx, e_dn, e_kn, e_ft⟩ : Ent) hm hs hl hr h0 h1) (np S 66 (by decide)) A nb
end
end Go.Aug.Mc
