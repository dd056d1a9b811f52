import Derived.Test.YtogckbgcldmaeaaMcP
import Derived.Test.YtogckbgcldmaeaaEvP
import Derived.Test.YtogckbgcldmaeaaEvPc
import Derived.Test.YtogckbgcldmaeaaMd2
namespace Go.Aug.Mc
open Go Go.Aug
def TH : List Nat := [139 * 1000 + 124, 103 * 1000 + 124, 106 * 1000 + 108, 122 * 1000 + 108, 118 * 1000 + 108, 7 * 1000 + 1000000, 49 * 1000 + 1000000, 17 * 1000 + 1000000, 84 * 1000 + 1000000, 31 * 1000 + 1000000, 32 * 1000 + 1000000, 110 * 1000 + 1000000, 74 * 1000 + 1000000, 88 * 1000 + 1000000, 77 * 1000 + 1000000, 78 * 1000 + 1000000, 72 * 1000 + 1000000, 39 * 1000 + 1000000, 120 * 1000 + 1000000, 139 * 1000 + 1000000, 28 * 1000 + 1000000, 77 * 1000 + 88, 31 * 1000 + 56, 95 * 1000 + 123, 123 * 1000 + 124, 93 * 1000 + 95]
attribute [go_sem] TH f_reach Bool.beq_eq_decide_eq bne decide_true decide_false List.mem_cons List.not_mem_nil or_false false_or or_true true_or Nat.not_lt_zero Bool.true_and Bool.false_and Bool.and_true Bool.and_false Bool.or_true Bool.or_false Bool.true_or Bool.false_or
attribute [go_sem ↓] e_condT e_condF
def PR : List Nat := [108, 124, 16, 25, 38, 99999, 99999, 99999, 99999, 99999, 99999]
def trueG : List DV -> Option (AV × List Blk)
 | [] => some (.d (.v (.bool true)), [])
 | _ => none
structure Sur (E : Env) (fn : FuncId -> Option (Env -> CallT -> CallT)) : Prop extends Fns fn where
 lv : ∀ f k, k < 1000000 -> E.lives f k = tbl f k
 br : ∀ g, memN g E.br = memN g [120, 121, 134, 135, 84]
 tq : ∀ f g, (memN g E.th || isSomeL (E.lives f (thKey g))) = memN (f * 1000 + g) TH
 pn : ∀ g, memN g PR = false -> E.prim g = none
 pe : E.prim 108 = some (cloneG 8 48)
 pi : E.prim 124 = some (cloneG 1 8)
 bk : E.back 140 = some (8, true)
variable {E : Env} {fn : FuncId -> Option (Env -> CallT -> CallT)}
theorem nbr (S : Sur E fn) (g : Nat) : memN g E.br = memN g [120, 121, 134, 135, 84] := S.br g
theorem thq (S : Sur E fn) (f g : Nat) : (memN g E.th || isSomeL (E.lives f (thKey g))) = memN (f * 1000 + g) TH := S.tq f g
theorem off (S : Sur E fn) (f k : Nat) (hk : k < 1000000) (h : tbl f k = none) : E.lives f k = none := by rw [S.lv f k hk]; exact h
theorem on (S : Sur E fn) (f k : Nat) (l : List Nat) (hk : k < 1000000) (h : tbl f k = some l) : E.lives f k = some l := by rw [S.lv f k hk]; exact h
theorem np (S : Sur E fn) (g : Nat) (h : memN g PR = false) : E.prim g = none := S.pn g h
theorem c_cloneE (S : Sur E fn) {l : List Ent} (h : l.length < 1073741824) (call : CallT) (A : List Blk) (nb : Nat) : evOwnK false E call 108 A nb (some ([rowD l], [])) = some (.made (.d (rowD l)) []) :=
 clone_deep S.pe rfl l (by unfold limA; omega) A nb
theorem c_cloneI (S : Sur E fn) {l : List Int} (h : l.length < 1073741824) (call : CallT) (A : List Blk) (nb : Nat) : evOwnK false E call 124 A nb (some ([rowD l], [])) = some (.made (.d (rowD l)) []) :=
 clone_deep S.pi rfl l (by unfold limA; omega) A nb
theorem o_cloneE (S : Sur E fn) {l : List Ent} (h : l.length < 1073741824) (call : CallT) (A : List Blk) (nb : Nat) (us : List Nat) : evOwnK true E call 108 A nb (some ([rowD l], us)) = some (.made (ownA nb l) (ownB l)) :=
 clone_own S.pe rfl l (by unfold limA; omega) A nb us
theorem o_cloneI (S : Sur E fn) {l : List Int} (h : l.length < 1073741824) (call : CallT) (A : List Blk) (nb : Nat) (us : List Nat) : evOwnK true E call 124 A nb (some ([rowD l], us)) = some (.made (ownA nb l) (ownB l)) :=
 clone_own S.pi rfl l (by unfold limA; omega) A nb us
theorem take_get {α : Type} {l : List α} {k : Nat} {e : α} (h : l[k]? = some e) : l.take (k + 1) = l.take k ++ [e] := by rw [List.take_add_one, h]; rfl
theorem take_rev {α : Type} {l : List α} {k : Nat} {e : α} (h : l[k]? = some e) : (l.take (k + 1)).reverse = e :: (l.take k).reverse := by rw [take_get h, List.reverse_append]; rfl
theorem drop_get {α : Type} {l : List α} {k : Nat} {e : α} (h : l[k]? = some e) : l.drop k = e :: l.drop (k + 1) := by
 obtain ⟨hi, rfl⟩ := List.getElem?_eq_some_iff.1 h
 exact List.drop_eq_getElem_cons hi
theorem get_of {α : Type} {l : List α} {k : Nat} (h : k < l.length) : ∃ e, l[k]? = some e := ⟨l[k], List.getElem?_eq_getElem h⟩
theorem wi (k : Nat) (h : k < 4611686018427387904) : IntKind.i64.wrap ((k : Int) + 1) = ((k + 1 : Nat) : Int) := by rw [wrap_i64 (by omega) (by omega)]; omega
theorem wd (k : Nat) (h : k < 4611686018427387904) : IntKind.i64.wrap ((k : Int) - 1) = (k : Int) - 1 := by rw [wrap_i64 (by omega) (by omega)]
theorem min0 (i : Int) (n : Nat) : min (max i 0) (n : Int) = ((min i.toNat n : Nat) : Int) := by omega
theorem cut_min (l : List Ent) (i : Int) : Md.cut l i = l.take (min i.toNat l.length) := by
 unfold Md.cut
 by_cases h : i.toNat <= l.length
 ·rw [Nat.min_eq_left h]
 ·rw [List.take_of_length_le (by omega), List.take_of_length_le (by omega)]
theorem rep1' {α : Type} (l : List α) : rep l 1 = l := by simp [rep]
theorem rep0' {α : Type} (l : List α) : rep l 0 = [] := rfl
theorem c_told {g : FuncId} (h : E.prim g = some trueG) (call : CallT) (A : List Blk) (nb : Nat) : evOwnK false E call g A nb (some ([], [])) = some (.made (abool true) []) := by
 simp only [evOwnK, evRaw, h, trueG]; rfl
theorem cut_len (l : List Ent) (n : Int) : (Md.cut l n).length <= l.length := by unfold Md.cut; simp; omega
open Nat renaming reduceLT -> zN0, reduceEqDiff -> zN1, reduceAdd -> zN2, reduceMul -> zN3, reduceLeDiff -> zN4
open Int renaming reduceEq -> zI0, reduceLT -> zI1, reduceLE -> zI2, reduceNeg -> zI3
set_option linter.unusedSimpArgs false
set_option linter.unusedVariables false
set_option maxHeartbeats 40000000
variable {E : Env} {fn : FuncId -> Option (Env -> CallT -> CallT)}
section
variable (S : Sur E fn)
include S
theorem o115_1 : E.lives 115 7 = none := off S 115 7 (by decide) rfl
theorem o129_1 : E.lives 129 7 = none := off S 129 7 (by decide) rfl
theorem o111_1 : E.lives 111 7 = none := off S 111 7 (by decide) rfl
theorem o100_1 : E.lives 100 7 = none := off S 100 7 (by decide) rfl
theorem o55_1 : E.lives 55 7 = none := off S 55 7 (by decide) rfl
theorem o138_1 : E.lives 138 7 = none := off S 138 7 (by decide) rfl
theorem o132_1 : E.lives 132 7 = none := off S 132 7 (by decide) rfl
theorem raw_word_Ok (dp : Nat) (w : Int) : Says E fn (dp + 1) 96 [vi w] (vb (Md.okW w)) := by
 unfold Says
 show ansOf (evC E fn (dp + 1) 96 [.d (vi w)] []) = _
 rw [evC_succ, S.f_word_Ok, apF_some, F_word_Ok, mkF_run _ _ _ _ _ _ _ _ rfl]
 by_cases h : 1 <= w <;> simp only [eG, go_sem, thq S, nbr S, zN0, zN1, zN2, zN3, zN4, zI0, zI1, zI2, zI3, reduceCtorEq, ge_iff_le, h, decide_true, decide_false, Bool.true_and, Bool.false_and, Md.okW]
theorem c_word_Ok (dp : Nat) (w : Int) (A : List Blk) (nb : Nat) (us : List Nat) : evOwnK false E (evC E fn (dp + 1)) 96 A nb (some ([vi w], us)) = some (.made (.d (vb (Md.okW w))) []) :=
 Says.flat (raw_word_Ok S dp w ) (np S 96 (by decide)) (rfl) A nb us
theorem raw_conf_Final (dp : Nat) (c : Conf) : Says E fn (dp + 1) 98 [confD c] (vb (c.end_ != 0)) := by
 unfold Says
 show ansOf (evC E fn (dp + 1) 98 [.d (confD c)] []) = _
 rw [evC_succ, S.f_conf_Final, apF_some, F_conf_Final, mkF_run _ _ _ _ _ _ _ _ rfl]
 simp only [eG, go_sem, thq S, nbr S, zN0, zN1, zN2, zN3, zN4, zI0, zI1, zI2, zI3, reduceCtorEq]
theorem c_conf_Final (dp : Nat) (c_r0 c_r1 c_r2 c_r3 : Int) (c_mm c_st : List Int) (c_pc : Int) (c_bf : List Ent) (c_rb : List Int) (c_en : Int) (A : List Blk) (nb : Nat) (us : List Nat) : evOwnK false E (evC E fn (dp + 1)) 98 A nb (some ([.agg [vi c_r0, vi c_r1, vi c_r2, vi c_r3, rowD c_mm, rowD c_st, vi c_pc, rowD c_bf, rowD c_rb, vi c_en]], us)) = some (.made (.d (vb ((⟨⟨⟨c_r0, c_r1, c_r2, c_r3⟩, c_mm, c_st, c_pc⟩, c_bf, c_rb, c_en⟩ : Conf).end_ != 0))) []) :=
 Says.flat (raw_conf_Final S dp (⟨⟨⟨c_r0, c_r1, c_r2, c_r3⟩, c_mm, c_st, c_pc⟩, c_bf, c_rb, c_en⟩ : Conf) ) (np S 98 (by decide)) (rfl) A nb us
theorem raw_r1_truth (dp : Nat) (b : Bool) : Says E fn (dp + 1) 115 [vb b] (vi (Md.truth b)) := by
 unfold Says
 show ansOf (evC E fn (dp + 1) 115 [.d (vb b)] []) = _
 rw [evC_succ, S.f_r1_truth, apF_some, F_r1_truth, mkF_run _ _ _ _ _ _ _ _ rfl]
 cases b <;> simp only [eG, go_sem, thq S, nbr S, zN0, zN1, zN2, zN3, zN4, zI0, zI1, zI2, zI3, reduceCtorEq, o115_1 S] <;> rfl
theorem c_r1_truth (dp : Nat) (b : Bool) (A : List Blk) (nb : Nat) (us : List Nat) : evOwnK false E (evC E fn (dp + 1)) 115 A nb (some ([vb b], us)) = some (.made (.d (vi (Md.truth b))) []) :=
 Says.flat (raw_r1_truth S dp b ) (np S 115 (by decide)) (rfl) A nb us
theorem raw_word_truth (dp : Nat) (b : Bool) : Says E fn (dp + 1) 129 [vb b] (vi (Md.truth b)) := by
 unfold Says
 show ansOf (evC E fn (dp + 1) 129 [.d (vb b)] []) = _
 rw [evC_succ, S.f_word_truth, apF_some, F_word_truth, mkF_run _ _ _ _ _ _ _ _ rfl]
 cases b <;> simp only [eG, go_sem, thq S, nbr S, zN0, zN1, zN2, zN3, zN4, zI0, zI1, zI2, zI3, reduceCtorEq, o129_1 S] <;> rfl
theorem c_word_truth (dp : Nat) (b : Bool) (A : List Blk) (nb : Nat) (us : List Nat) : evOwnK false E (evC E fn (dp + 1)) 129 A nb (some ([vb b], us)) = some (.made (.d (vi (Md.truth b))) []) :=
 Says.flat (raw_word_truth S dp b ) (np S 129 (by decide)) (rfl) A nb us
theorem raw_r9_truth (dp : Nat) (b : Bool) : Says E fn (dp + 1) 111 [vb b] (vi (Md.truth b)) := by
 unfold Says
 show ansOf (evC E fn (dp + 1) 111 [.d (vb b)] []) = _
 rw [evC_succ, S.f_r9_truth, apF_some, F_r9_truth, mkF_run _ _ _ _ _ _ _ _ rfl]
 cases b <;> simp only [eG, go_sem, thq S, nbr S, zN0, zN1, zN2, zN3, zN4, zI0, zI1, zI2, zI3, reduceCtorEq, o111_1 S] <;> rfl
theorem c_r9_truth (dp : Nat) (b : Bool) (A : List Blk) (nb : Nat) (us : List Nat) : evOwnK false E (evC E fn (dp + 1)) 111 A nb (some ([vb b], us)) = some (.made (.d (vi (Md.truth b))) []) :=
 Says.flat (raw_r9_truth S dp b ) (np S 111 (by decide)) (rfl) A nb us
theorem raw_robq_Cut (dp : Nat) (l : List Ent) (n : Int) (hl : l.length < 1073741824) : Says E fn (dp + 2) 70 [rowD l, vi n] (rowD (Md.cut l n)) := by
 unfold Says
 show ansOf (evC E fn (dp + 1 + 1) 70 [.d (rowD l), .d (vi n)] []) = _
 rw [evC_succ, S.f_robq_Cut, apF_some, F_robq_Cut, mkF_run _ _ _ _ _ _ _ _ rfl]
 have hc := cut_len l n
 have h2 : bndsV l.length none (some (aint (min (max n 0) l.length))) none = some (0, (min (max n 0) (l.length : Int)).toNat, l.length) := bndsV_hi _ _ _ (by omega) (by omega)
 have h3 : l.take (min (max n 0) (l.length : Int)).toNat = Md.cut l n := by
  unfold Md.cut
  by_cases h : n.toNat <= l.length
  ·congr 1; omega
  ·rw [List.take_of_length_le (by omega), List.take_of_length_le (by omega)]
 simp only [eG, go_sem, thq S, nbr S, zN0, zN1, zN2, zN3, zN4, zI0, zI1, zI2, zI3, reduceCtorEq, h2, h3, c_cloneE S (show (Md.cut l n).length < 1073741824 by omega), List.drop_zero, Nat.sub_zero]
theorem c_robq_Cut (dp : Nat) (l : List Ent) (n : Int) (hl : l.length < 1073741824) (A : List Blk) (nb : Nat) : evOwnK false E (evC E fn (dp + 2)) 70 A nb (some ([rowD l, vi n], [])) = some (.made (.d (rowD (Md.cut l n))) []) :=
 Says.deep (raw_robq_Cut S dp l n hl) (np S 70 (by decide)) A nb
theorem raw_seqm_At (dp : Nat) (p : Prog) (pc : Int) : Says E fn (dp + 1) 100 [progD p, vi pc] (.agg (Cl.cells (Md.at_ p pc))) := by
 unfold Says
 show ansOf (evC E fn (dp + 1) 100 [.d (progD p), .d (vi pc)] []) = _
 rw [evC_succ, S.f_seqm_At, apF_some, F_seqm_At, mkF_run _ _ _ _ _ _ _ _ rfl]
 by_cases h : pc < 0
 ·simp only [eG, go_sem, thq S, nbr S, zN0, zN1, zN2, zN3, zN4, zI0, zI1, zI2, zI3, reduceCtorEq, o100_1 S, h, decide_true, Md.at_, show ¬ 0 <= pc by omega, Md.faultI]
 ·obtain ⟨i, rfl⟩ := Int.eq_ofNat_of_zero_le (show 0 <= pc by omega)
  cases hx : p.ins[i]? with
  | none =>
   have hl : (i : Int) >= p.ins.length := by have := List.getElem?_eq_none_iff.1 hx; omega
   simp only [eG, go_sem, thq S, nbr S, zN0, zN1, zN2, zN3, zN4, zI0, zI1, zI2, zI3, reduceCtorEq, o100_1 S, h, hl, decide_true, decide_false, Md.at_, Int.natCast_nonneg, Int.toNat_natCast, hx, Option.getD_none, Md.faultI]
  | some e =>
   have hl : ¬ (i : Int) >= p.ins.length := by have := (List.getElem?_eq_some_iff.1 hx).1; omega
   simp only [eG, go_sem, thq S, nbr S, zN0, zN1, zN2, zN3, zN4, zI0, zI1, zI2, zI3, reduceCtorEq, o100_1 S, h, hl, decide_true, decide_false, Md.at_, Int.natCast_nonneg, Int.toNat_natCast, hx, Option.getD_some, w_ix hx]
theorem c_seqm_At (dp : Nat) (p_w p_wn p_fu p_r0 p_r1 p_r2 p_r3 : Int) (p_ms : List MemT) (p_ls : List Label) (p_is : List Ins) (pc : Int) (A : List Blk) (nb : Nat) (us : List Nat) : evOwnK false E (evC E fn (dp + 1)) 100 A nb (some ([.agg [vi p_w, vi p_wn, vi p_fu, vi p_r0, vi p_r1, vi p_r2, vi p_r3, rowD p_ms, rowD p_ls, rowD p_is], vi pc], us)) = some (.made (.d (.agg (Cl.cells (Md.at_ (⟨p_w, p_wn, p_fu, ⟨p_r0, p_r1, p_r2, p_r3⟩, p_ms, p_ls, p_is⟩ : Prog) pc)))) []) :=
 Says.flat (raw_seqm_At S dp (⟨p_w, p_wn, p_fu, ⟨p_r0, p_r1, p_r2, p_r3⟩, p_ms, p_ls, p_is⟩ : Prog) pc ) (np S 100 (by decide)) (rfl) A nb us
theorem raw_r7_At (dp : Nat) (p : Prog) (pc : Int) : Says E fn (dp + 1) 55 [progD p, vi pc] (.agg (Cl.cells (Md.at_ p pc))) := by
 unfold Says
 show ansOf (evC E fn (dp + 1) 55 [.d (progD p), .d (vi pc)] []) = _
 rw [evC_succ, S.f_r7_At, apF_some, F_r7_At, mkF_run _ _ _ _ _ _ _ _ rfl]
 by_cases h : pc < 0
 ·simp only [eG, go_sem, thq S, nbr S, zN0, zN1, zN2, zN3, zN4, zI0, zI1, zI2, zI3, reduceCtorEq, o55_1 S, h, decide_true, Md.at_, show ¬ 0 <= pc by omega, Md.faultI]
 ·obtain ⟨i, rfl⟩ := Int.eq_ofNat_of_zero_le (show 0 <= pc by omega)
  cases hx : p.ins[i]? with
  | none =>
   have hl : (i : Int) >= p.ins.length := by have := List.getElem?_eq_none_iff.1 hx; omega
   simp only [eG, go_sem, thq S, nbr S, zN0, zN1, zN2, zN3, zN4, zI0, zI1, zI2, zI3, reduceCtorEq, o55_1 S, h, hl, decide_true, decide_false, Md.at_, Int.natCast_nonneg, Int.toNat_natCast, hx, Option.getD_none, Md.faultI]
  | some e =>
   have hl : ¬ (i : Int) >= p.ins.length := by have := (List.getElem?_eq_some_iff.1 hx).1; omega
   simp only [eG, go_sem, thq S, nbr S, zN0, zN1, zN2, zN3, zN4, zI0, zI1, zI2, zI3, reduceCtorEq, o55_1 S, h, hl, decide_true, decide_false, Md.at_, Int.natCast_nonneg, Int.toNat_natCast, hx, Option.getD_some, w_ix hx]
theorem cA7 (dp : Nat) (p_w p_wn p_fu p_r0 p_r1 p_r2 p_r3 : Int) (p_ms : List MemT) (p_ls : List Label) (p_is : List Ins) (pc : Int) (A : List Blk) (nb : Nat) (us : List Nat) : evOwnK false E (evC E fn (dp + 1)) 55 A nb (some ([.agg [vi p_w, vi p_wn, vi p_fu, vi p_r0, vi p_r1, vi p_r2, vi p_r3, rowD p_ms, rowD p_ls, rowD p_is], vi pc], us)) = some (.made (.d (.agg (Cl.cells (Md.at_ (⟨p_w, p_wn, p_fu, ⟨p_r0, p_r1, p_r2, p_r3⟩, p_ms, p_ls, p_is⟩ : Prog) pc)))) []) :=
 Says.flat (raw_r7_At S dp (⟨p_w, p_wn, p_fu, ⟨p_r0, p_r1, p_r2, p_r3⟩, p_ms, p_ls, p_is⟩ : Prog) pc ) (np S 55 (by decide)) (rfl) A nb us
theorem raw_reso_Dest (dp : Nat) (x : Ins) : Says E fn (dp + 1) 138 [.agg (Cl.cells x)] (.tup [vi (Md.dest x), vb (Md.destK x)]) := by
 unfold Says
 show ansOf (evC E fn (dp + 1) 138 [.d (.agg (Cl.cells x))] []) = _
 rw [evC_succ, S.f_reso_Dest, apF_some, F_reso_Dest, mkF_run _ _ _ _ _ _ _ _ rfl]
 by_cases h1 : x.kind = 1
 ·simp only [eG, go_sem, thq S, nbr S, zN0, zN1, zN2, zN3, zN4, zI0, zI1, zI2, zI3, reduceCtorEq, o138_1 S, h1, Md.dest, Md.destK]
 ·by_cases h2 : x.kind = 2
  ·simp only [eG, go_sem, thq S, nbr S, zN0, zN1, zN2, zN3, zN4, zI0, zI1, zI2, zI3, reduceCtorEq, o138_1 S, h2, Md.dest, Md.destK]
  ·by_cases h4 : x.kind = 4
   ·simp only [eG, go_sem, thq S, nbr S, zN0, zN1, zN2, zN3, zN4, zI0, zI1, zI2, zI3, reduceCtorEq, o138_1 S, h4, Md.dest, Md.destK]
   ·simp only [eG, go_sem, thq S, nbr S, zN0, zN1, zN2, zN3, zN4, zI0, zI1, zI2, zI3, reduceCtorEq, o138_1 S, h1, h2, h4, Md.dest, Md.destK]
theorem c_reso_Dest (dp : Nat) (x_k x_o x_d : Int) (x_ag : Bool) (x_an : Int) (x_bg : Bool) (x_bn : Int) (x_nm : ByteArray) (x_tg : Int) (A : List Blk) (nb : Nat) (us : List Nat) : evOwnK false E (evC E fn (dp + 1)) 138 A nb (some ([.agg [vi x_k, vi x_o, vi x_d, vb x_ag, vi x_an, vb x_bg, vi x_bn, vt x_nm, vi x_tg]], us)) = some (.made (.d (.tup [vi (Md.dest (⟨x_k, x_o, x_d, ⟨x_ag, x_an⟩, ⟨x_bg, x_bn⟩, x_nm, x_tg⟩ : Ins)), vb (Md.destK (⟨x_k, x_o, x_d, ⟨x_ag, x_an⟩, ⟨x_bg, x_bn⟩, x_nm, x_tg⟩ : Ins))])) []) :=
 Says.flat (raw_reso_Dest S dp (⟨x_k, x_o, x_d, ⟨x_ag, x_an⟩, ⟨x_bg, x_bn⟩, x_nm, x_tg⟩ : Ins) ) (np S 138 (by decide)) (rfl) A nb us
theorem raw_r9_Dest (dp : Nat) (x : Ins) : Says E fn (dp + 1) 132 [.agg (Cl.cells x)] (.tup [vi (Md.dest x), vb (Md.destK x)]) := by
 unfold Says
 show ansOf (evC E fn (dp + 1) 132 [.d (.agg (Cl.cells x))] []) = _
 rw [evC_succ, S.f_r9_Dest, apF_some, F_r9_Dest, mkF_run _ _ _ _ _ _ _ _ rfl]
 by_cases h1 : x.kind = 1
 ·simp only [eG, go_sem, thq S, nbr S, zN0, zN1, zN2, zN3, zN4, zI0, zI1, zI2, zI3, reduceCtorEq, o132_1 S, h1, Md.dest, Md.destK]
 ·by_cases h2 : x.kind = 2
  ·simp only [eG, go_sem, thq S, nbr S, zN0, zN1, zN2, zN3, zN4, zI0, zI1, zI2, zI3, reduceCtorEq, o132_1 S, h2, Md.dest, Md.destK]
  ·by_cases h4 : x.kind = 4
   ·simp only [eG, go_sem, thq S, nbr S, zN0, zN1, zN2, zN3, zN4, zI0, zI1, zI2, zI3, reduceCtorEq, o132_1 S, h4, Md.dest, Md.destK]
   ·simp only [eG, go_sem, thq S, nbr S, zN0, zN1, zN2, zN3, zN4, zI0, zI1, zI2, zI3, reduceCtorEq, o132_1 S, h1, h2, h4, Md.dest, Md.destK]
theorem c_r9_Dest (dp : Nat) (x_k x_o x_d : Int) (x_ag : Bool) (x_an : Int) (x_bg : Bool) (x_bn : Int) (x_nm : ByteArray) (x_tg : Int) (A : List Blk) (nb : Nat) (us : List Nat) : evOwnK false E (evC E fn (dp + 1)) 132 A nb (some ([.agg [vi x_k, vi x_o, vi x_d, vb x_ag, vi x_an, vb x_bg, vi x_bn, vt x_nm, vi x_tg]], us)) = some (.made (.d (.tup [vi (Md.dest (⟨x_k, x_o, x_d, ⟨x_ag, x_an⟩, ⟨x_bg, x_bn⟩, x_nm, x_tg⟩ : Ins)), vb (Md.destK (⟨x_k, x_o, x_d, ⟨x_ag, x_an⟩, ⟨x_bg, x_bn⟩, x_nm, x_tg⟩ : Ins))])) []) :=
 Says.flat (raw_r9_Dest S dp (⟨x_k, x_o, x_d, ⟨x_ag, x_an⟩, ⟨x_bg, x_bn⟩, x_nm, x_tg⟩ : Ins) ) (np S 132 (by decide)) (rfl) A nb us
end
theorem b_and (k : IntKind) (x y : Int) : evBin .and (.d (.v (.int k x))) (.d (.v (.int k y))) = (evInt .and k x y).map fun r => .d (.v r) := b_int _ _ _ _ (by simp) (by simp)
theorem b_iand (x y : Int) : evBin .and (.d (.v (.int .i64 x))) (.d (.v (.int .i64 y))) = some (aint (Md.iand x y)) := b_and _ _ _
theorem b_ior (x y : Int) : evBin .or (.d (.v (.int .i64 x))) (.d (.v (.int .i64 y))) = some (aint (Md.ior x y)) := by rw [b_int _ _ _ _ (by simp) (by simp)]; rfl
theorem b_ixor (x y : Int) : evBin .xor (.d (.v (.int .i64 x))) (.d (.v (.int .i64 y))) = some (aint (Md.ixor x y)) := by rw [b_int _ _ _ _ (by simp) (by simp)]; rfl
theorem size_val {k : Nat} (h : k <= 16) : IntKind.i64.wrap (1 * 2 ^ min k 64) = 2 ^ k := by
 have := Md.pow_le16 h
 have := Md.pow_pos' k
 rw [Nat.min_eq_left (by omega), Int.one_mul, wrap_i64 (by omega) (by omega)]
def movedI (w op a b : Int) : Int := if b >= w then 0 else if op = 6 then IntKind.i64.wrap (a * 2 ^ min b.toNat 64) else a.fdiv (2 ^ min b.toNat 64)
theorem mask_mv {w b : Int} (h : Md.okW w = true) (hb : ¬ b >= w) : min b.toNat 64 = b.toNat := by
 have := Md.okW_iff.1 h; omega
variable {E : Env} {fn : FuncId -> Option (Env -> CallT -> CallT)}
section
variable (S : Sur E fn)
include S
theorem o42_2 : E.lives 42 7 = none := off S 42 7 (by decide) rfl
theorem o50_2 : E.lives 50 7 = none := off S 50 7 (by decide) rfl
theorem o107_2 : E.lives 107 7 = none := off S 107 7 (by decide) rfl
theorem o82_2 : E.lives 82 9 = none := off S 82 9 (by decide) rfl
theorem o128_2 : E.lives 128 7 = none /\ E.lives 128 11 = none := ⟨off S 128 7 (by decide) rfl, off S 128 11 (by decide) rfl⟩
theorem o102_2 : E.lives 102 7 = none /\ E.lives 102 19 = none /\ E.lives 102 23 = none /\ E.lives 102 27 = none /\ E.lives 102 31 = none /\ E.lives 102 35 = none /\ E.lives 102 39 = none /\ E.lives 102 41 = none /\ E.lives 102 45 = none /\ E.lives 102 49 = none /\ E.lives 102 53 = none := ⟨off S 102 7 (by decide) rfl, off S 102 19 (by decide) rfl, off S 102 23 (by decide) rfl, off S 102 27 (by decide) rfl, off S 102 31 (by decide) rfl, off S 102 35 (by decide) rfl, off S 102 39 (by decide) rfl, off S 102 41 (by decide) rfl, off S 102 45 (by decide) rfl, off S 102 49 (by decide) rfl, off S 102 53 (by decide) rfl⟩
theorem o81_2 : E.lives 81 7 = none /\ E.lives 81 15 = none /\ E.lives 81 19 = none /\ E.lives 81 23 = none /\ E.lives 81 27 = none /\ E.lives 81 31 = none /\ E.lives 81 35 = none /\ E.lives 81 37 = none /\ E.lives 81 43 = none /\ E.lives 81 45 = none /\ E.lives 81 51 = none /\ E.lives 81 55 = none /\ E.lives 81 59 = none := ⟨off S 81 7 (by decide) rfl, off S 81 15 (by decide) rfl, off S 81 19 (by decide) rfl, off S 81 23 (by decide) rfl, off S 81 27 (by decide) rfl, off S 81 31 (by decide) rfl, off S 81 35 (by decide) rfl, off S 81 37 (by decide) rfl, off S 81 43 (by decide) rfl, off S 81 45 (by decide) rfl, off S 81 51 (by decide) rfl, off S 81 55 (by decide) rfl, off S 81 59 (by decide) rfl⟩
theorem raw_word_Size (dp : Nat) (w : Int) : Says E fn (dp + 2) 42 [vi w] (vi (Md.size w)) := by
 unfold Says
 show ansOf (evC E fn (dp + 1 + 1) 42 [.d (vi w)] []) = _
 rw [evC_succ, S.f_word_Size, apF_some, F_word_Size, mkF_run _ _ _ _ _ _ _ _ rfl]
 cases h : Md.okW w with
 | true =>
  obtain ⟨k, rfl, h1, h2⟩ := Md.okW_nat h
  simp only [eG, go_sem, thq S, nbr S, zN0, zN1, zN2, zN3, zN4, zI0, zI1, zI2, zI3, reduceCtorEq, o42_2 S, c_word_Ok S, h, Md.size, b_shl _ _ _ _ (Int.natCast_nonneg k), Int.toNat_natCast, IntKind.bits, size_val h2]
 | false =>
  simp only [eG, go_sem, thq S, nbr S, zN0, zN1, zN2, zN3, zN4, zI0, zI1, zI2, zI3, reduceCtorEq, o42_2 S, c_word_Ok S, h, Md.size]
theorem c_word_Size (dp : Nat) (w : Int) (A : List Blk) (nb : Nat) (us : List Nat) : evOwnK false E (evC E fn (dp + 2)) 42 A nb (some ([vi w], us)) = some (.made (.d (vi (Md.size w))) []) :=
 Says.flat (raw_word_Size S dp w ) (np S 42 (by decide)) (rfl) A nb us
theorem raw_r1_Size (dp : Nat) (w : Int) : Says E fn (dp + 1) 50 [vi w] (vi (Md.size w)) := by
 unfold Says
 show ansOf (evC E fn (dp + 1) 50 [.d (vi w)] []) = _
 rw [evC_succ, S.f_r1_Size, apF_some, F_r1_Size, mkF_run _ _ _ _ _ _ _ _ rfl]
 by_cases h1 : w < 1
 ·simp only [eG, go_sem, thq S, nbr S, zN0, zN1, zN2, zN3, zN4, zI0, zI1, zI2, zI3, reduceCtorEq, o50_2 S, h1, Md.size, Md.okW, show ¬ 1 <= w by omega]
 ·by_cases h2 : w > 16
  ·simp only [eG, go_sem, thq S, nbr S, zN0, zN1, zN2, zN3, zN4, zI0, zI1, zI2, zI3, reduceCtorEq, o50_2 S, h1, h2, Md.size, Md.okW, show ¬ w <= 16 by omega]
  ·obtain ⟨k, rfl⟩ := Int.eq_ofNat_of_zero_le (show 0 <= w by omega)
   have hw : IntKind.u64.wrap (k : Int) = k := wrap_u64 (by omega) (by omega)
   simp only [eG, go_sem, thq S, nbr S, zN0, zN1, zN2, zN3, zN4, zI0, zI1, zI2, zI3, reduceCtorEq, o50_2 S, h1, h2, hw, Md.size, Md.okW, show 1 <= (k : Int) by omega, show (k : Int) <= 16 by omega, b_shl _ _ _ _ (Int.natCast_nonneg k), Int.toNat_natCast, IntKind.bits, size_val (show k <= 16 by omega)]
theorem c_r1_Size (dp : Nat) (w : Int) (A : List Blk) (nb : Nat) (us : List Nat) : evOwnK false E (evC E fn (dp + 1)) 50 A nb (some ([vi w], us)) = some (.made (.d (vi (Md.size w))) []) :=
 Says.flat (raw_r1_Size S dp w ) (np S 50 (by decide)) (rfl) A nb us
theorem raw_word_Mask (dp : Nat) (w m : Int) : Says E fn (dp + 3) 107 [vi w, vi m] (vi (Md.mask w m)) := by
 unfold Says
 show ansOf (evC E fn (dp + 2 + 1) 107 [.d (vi w), .d (vi m)] []) = _
 rw [evC_succ, S.f_word_Mask, apF_some, F_word_Mask, mkF_run _ _ _ _ _ _ _ _ rfl]
 cases h : Md.okW w with
 | true =>
  obtain ⟨k, rfl, h1, h2⟩ := Md.okW_nat h
  have hp := Md.pow_pos' k
  have hq := Md.pow_le16 h2
  have hw : IntKind.i64.wrap (2 ^ k - 1) = 2 ^ k - 1 := wrap_i64 (by omega) (by omega)
  simp only [eG, go_sem, thq S, nbr S, zN0, zN1, zN2, zN3, zN4, zI0, zI1, zI2, zI3, reduceCtorEq, o107_2 S, c_word_Ok S, c_word_Size S, h, Md.size, Md.mask, Int.toNat_natCast, hw, b_and, Md.and_mask m h2]
 | false =>
  simp only [eG, go_sem, thq S, nbr S, zN0, zN1, zN2, zN3, zN4, zI0, zI1, zI2, zI3, reduceCtorEq, o107_2 S, c_word_Ok S, h, Md.mask]
theorem c_word_Mask (dp : Nat) (w m : Int) (A : List Blk) (nb : Nat) (us : List Nat) : evOwnK false E (evC E fn (dp + 3)) 107 A nb (some ([vi w, vi m], us)) = some (.made (.d (vi (Md.mask w m))) []) :=
 Says.flat (raw_word_Mask S dp w m ) (np S 107 (by decide)) (rfl) A nb us
theorem raw_r1_Mask (dp : Nat) (w m : Int) : Says E fn (dp + 2) 82 [vi w, vi m] (vi (Md.mask w m)) := by
 unfold Says
 show ansOf (evC E fn (dp + 1 + 1) 82 [.d (vi w), .d (vi m)] []) = _
 rw [evC_succ, S.f_r1_Mask, apF_some, F_r1_Mask, mkF_run _ _ _ _ _ _ _ _ rfl]
 cases h : Md.okW w with
 | true =>
  obtain ⟨k, rfl, h1, h2⟩ := Md.okW_nat h
  have hp := Md.pow_pos' k
  have hq := Md.pow_le16 h2
  have hz : (2 : Int) ^ k ≠ 0 := by omega
  have hr := Int.tmod_lt_of_pos m hp
  have hr2 : -(2 ^ k) <= m.tmod (2 ^ k) := by
   rw [Int.tmod_eq_emod]
   have := Int.emod_nonneg m hz
   have hs : (((2 : Int) ^ k).natAbs : Int) = 2 ^ k := by omega
   split <;> omega
  have hw : IntKind.i64.wrap (m.tmod (2 ^ k) + 2 ^ k) = m.tmod (2 ^ k) + 2 ^ k := wrap_i64 (by omega) (by omega)
  simp only [eG, go_sem, thq S, nbr S, zN0, zN1, zN2, zN3, zN4, zI0, zI1, zI2, zI3, reduceCtorEq, o82_2 S, c_r1_Size S, h, Md.size, Md.mask, Int.toNat_natCast, hz, hw, b_rem _ _ _ hz, Md.rem_mask m hp]
 | false =>
  simp only [eG, go_sem, thq S, nbr S, zN0, zN1, zN2, zN3, zN4, zI0, zI1, zI2, zI3, reduceCtorEq, o82_2 S, c_r1_Size S, h, Md.size, Md.mask]
theorem c_r1_Mask (dp : Nat) (w m : Int) (A : List Blk) (nb : Nat) (us : List Nat) : evOwnK false E (evC E fn (dp + 2)) 82 A nb (some ([vi w, vi m], us)) = some (.made (.d (vi (Md.mask w m))) []) :=
 Says.flat (raw_r1_Mask S dp w m ) (np S 82 (by decide)) (rfl) A nb us
theorem raw_word_moved (dp : Nat) (w op a b : Int) (hb : 0 <= b) : Says E fn (dp + 1) 128 [vi w, vi op, vi a, vi b] (vi (movedI w op a b)) := by
 unfold Says
 show ansOf (evC E fn (dp + 1) 128 [.d (vi w), .d (vi op), .d (vi a), .d (vi b)] []) = _
 rw [evC_succ, S.f_word_moved, apF_some, F_word_moved, mkF_run _ _ _ _ _ _ _ _ rfl]
 by_cases h1 : b >= w
 ·simp only [eG, go_sem, thq S, nbr S, zN0, zN1, zN2, zN3, zN4, zI0, zI1, zI2, zI3, reduceCtorEq, o128_2 S, h1, movedI]
 ·by_cases h2 : op = 6
  ·simp only [eG, go_sem, thq S, nbr S, zN0, zN1, zN2, zN3, zN4, zI0, zI1, zI2, zI3, reduceCtorEq, o128_2 S, h1, h2, movedI, b_shl _ _ _ _ hb, IntKind.bits]
  ·simp only [eG, go_sem, thq S, nbr S, zN0, zN1, zN2, zN3, zN4, zI0, zI1, zI2, zI3, reduceCtorEq, o128_2 S, h1, h2, movedI, b_shr _ _ _ _ hb, IntKind.bits]
theorem c_word_moved (dp : Nat) (w op a b : Int) (hb : 0 <= b) (A : List Blk) (nb : Nat) (us : List Nat) : evOwnK false E (evC E fn (dp + 1)) 128 A nb (some ([vi w, vi op, vi a, vi b], us)) = some (.made (.d (vi (movedI w op a b))) []) :=
 Says.flat (raw_word_moved S dp w op a b hb) (np S 128 (by decide)) (rfl) A nb us
theorem raw_word_Do (dp : Nat) (w op a b : Int) : Says E fn (dp + 4) 102 [vi w, vi op, vi a, vi b] (.tup [vi (Md.wdo w op a b), vb (Md.wdoK w op a b)]) := by
 unfold Says
 show ansOf (evC E fn (dp + 3 + 1) 102 [.d (vi w), .d (vi op), .d (vi a), .d (vi b)] []) = _
 rw [evC_succ, S.f_word_Do, apF_some, F_word_Do, mkF_run _ _ _ _ _ _ _ _ rfl]
 cases h : Md.okW w with
 | false => simp only [eG, go_sem, thq S, nbr S, zN0, zN1, zN2, zN3, zN4, zI0, zI1, zI2, zI3, reduceCtorEq, o102_2 S, c_word_Ok S, h, Md.wdo, Md.wdoK]
 | true =>
  have hb := Md.mask_nn w b
  simp only [eG, go_sem, thq S, nbr S, zN0, zN1, zN2, zN3, zN4, zI0, zI1, zI2, zI3, reduceCtorEq, o102_2 S, c_word_Ok S, c_word_Mask S, c_word_moved S _ _ _ _ _ hb, c_word_truth S, h, Md.wdo, Md.wdoK, Md.mask_wrap, b_iand, b_ior, b_ixor, Md.mask_iand h, Md.mask_ior h, Md.mask_ixor h, Md.mask_truth h]
  simp only [Bool.cond_decide, Md.opOf, movedI, Md.shl, Md.shr]
  by_cases h1 : op = 1
  ·simp only [h1, if_true]; rfl
  by_cases h2 : op = 2
  ·simp only [h1, h2, if_true, zI0, if_false]; rfl
  by_cases h3 : op = 3
  ·simp only [h1, h2, h3, if_true, zI0, if_false]; rfl
  by_cases h4 : op = 4
  ·simp only [h1, h2, h3, h4, if_true, zI0, if_false]; rfl
  by_cases h5 : op = 5
  ·simp only [h1, h2, h3, h4, h5, if_true, zI0, if_false]; rfl
  by_cases h6 : op = 6
  ·by_cases hm : Md.mask w b >= w
   ·simp only [h6, hm, if_true, zI0, if_false, Md.mask_zero h]; rfl
   ·simp only [h6, hm, if_true, zI0, if_false, Md.mask_wrap, mask_mv h hm]; rfl
  by_cases h7 : op = 7
  ·by_cases hm : Md.mask w b >= w
   ·simp only [h7, hm, if_true, zI0, if_false, Md.mask_zero h]; rfl
   ·simp only [h7, hm, if_true, zI0, if_false, mask_mv h hm, Md.mask_shr h]; rfl
  by_cases h8 : op = 8
  ·simp only [h8, if_true, zI0, if_false]; rfl
  by_cases h9 : op = 9
  ·simp only [h9, if_true, zI0, if_false]; rfl
  by_cases h10 : op = 10
  ·simp only [h10, if_true, zI0, if_false]; rfl
  ·simp only [h1, h2, h3, h4, h5, h6, h7, h8, h9, h10, if_false]; rfl
theorem c_word_Do (dp : Nat) (w op a b : Int) (A : List Blk) (nb : Nat) (us : List Nat) : evOwnK false E (evC E fn (dp + 4)) 102 A nb (some ([vi w, vi op, vi a, vi b], us)) = some (.made (.d (.tup [vi (Md.wdo w op a b), vb (Md.wdoK w op a b)])) []) :=
 Says.flat (raw_word_Do S dp w op a b ) (np S 102 (by decide)) (rfl) A nb us
theorem raw_r1_Do (dp : Nat) (w op a b : Int) : Says E fn (dp + 3) 81 [vi w, vi op, vi a, vi b] (.tup [vi (Md.wdo w op a b), vb (Md.wdoK w op a b)]) := by
 unfold Says
 show ansOf (evC E fn (dp + 2 + 1) 81 [.d (vi w), .d (vi op), .d (vi a), .d (vi b)] []) = _
 rw [evC_succ, S.f_r1_Do, apF_some, F_r1_Do, mkF_run _ _ _ _ _ _ _ _ rfl]
 cases h : Md.okW w with
 | false => simp only [eG, go_sem, thq S, nbr S, zN0, zN1, zN2, zN3, zN4, zI0, zI1, zI2, zI3, reduceCtorEq, o81_2 S, c_r1_Size S, h, Md.size, Md.wdo, Md.wdoK]
 | true =>
  have hb := Md.mask_nn w b
  have hb2 := Md.mask_le w b
  have hu : IntKind.u64.wrap (Md.mask w b) = Md.mask w b := wrap_u64 (by omega) (by omega)
  have hz : (2 : Int) ^ w.toNat ≠ 0 := by have := Md.pow_pos' w.toNat; omega
  simp only [eG, go_sem, thq S, nbr S, zN0, zN1, zN2, zN3, zN4, zI0, zI1, zI2, zI3, reduceCtorEq, o81_2 S, c_r1_Size S, c_r1_Mask S, c_r1_truth S, h, Md.size, hz, hu, b_shl _ _ _ _ hb, b_shr _ _ _ _ hb, IntKind.bits, Md.wdo, Md.wdoK, Md.mask_wrap, b_iand, b_ior, b_ixor]
  simp only [Bool.cond_decide, Md.opOf, movedI, Md.shl, Md.shr]
  by_cases h1 : op = 1
  ·simp only [h1, if_true]; rfl
  by_cases h2 : op = 2
  ·simp only [h1, h2, if_true, zI0, if_false]; rfl
  by_cases h3 : op = 3
  ·simp only [h1, h2, h3, if_true, zI0, if_false]; rfl
  by_cases h4 : op = 4
  ·simp only [h1, h2, h3, h4, if_true, zI0, if_false]; rfl
  by_cases h5 : op = 5
  ·simp only [h1, h2, h3, h4, h5, if_true, zI0, if_false]; rfl
  by_cases h6 : op = 6
  ·by_cases hm : Md.mask w b >= w
   ·simp only [h6, hm, if_true, zI0, if_false, Md.mask_zero h]; rfl
   ·simp only [h6, hm, if_true, zI0, if_false, Md.mask_wrap, mask_mv h hm]; rfl
  by_cases h7 : op = 7
  ·by_cases hm : Md.mask w b >= w
   ·simp only [h7, hm, if_true, zI0, if_false, Md.mask_zero h]; rfl
   ·simp only [h7, hm, if_true, zI0, if_false, mask_mv h hm, Md.mask_shr h]; rfl
  by_cases h8 : op = 8
  ·simp only [h8, if_true, zI0, if_false]; rfl
  by_cases h9 : op = 9
  ·simp only [h9, if_true, zI0, if_false]; rfl
  by_cases h10 : op = 10
  ·simp only [h10, if_true, zI0, if_false]; rfl
  ·simp only [h1, h2, h3, h4, h5, h6, h7, h8, h9, h10, if_false]; rfl
theorem c_r1_Do (dp : Nat) (w op a b : Int) (A : List Blk) (nb : Nat) (us : List Nat) : evOwnK false E (evC E fn (dp + 3)) 81 A nb (some ([vi w, vi op, vi a, vi b], us)) = some (.made (.d (.tup [vi (Md.wdo w op a b), vb (Md.wdoK w op a b)])) []) :=
 Says.flat (raw_r1_Do S dp w op a b ) (np S 81 (by decide)) (rfl) A nb us
end
section
variable (S : Sur E fn)
include S
theorem o114_3 : E.lives 114 1 = none /\ E.lives 114 7 = none /\ E.lives 114 19 = none /\ E.lives 114 21 = none := ⟨off S 114 1 (by decide) rfl, off S 114 7 (by decide) rfl, off S 114 19 (by decide) rfl, off S 114 21 (by decide) rfl⟩
theorem o113_3 : E.lives 113 7 = none := off S 113 7 (by decide) rfl
theorem o131_3 : E.lives 131 1 = none /\ E.lives 131 13 = none := ⟨off S 131 1 (by decide) rfl, off S 131 13 (by decide) rfl⟩
theorem o83_3 : E.lives 83 1 = none /\ E.lives 83 13 = none /\ E.lives 83 15 = none /\ E.lives 83 21 = none := ⟨off S 83 1 (by decide) rfl, off S 83 13 (by decide) rfl, off S 83 15 (by decide) rfl, off S 83 21 (by decide) rfl⟩
theorem loop_rReg (dp : Nat) (p : Prog) (of : Regs) (l : List Ent) (r : Int) (hl : l.length < 1073741824) (kx : Nat -> K) (D : Int)
  (hx : ∀ T, getS .bot T 4 = aint r -> getS .bot T 6 = .ref 1 0 0 -> ansOf (kx 0 (mk .bot 62 T) [.cells ((progC p).map .d) 0 false, .cells ((regsC of).map .d) 0 false]) = some (.tup [vi D, vb true])) :
  ∀ (k fuel : Nat), k <= l.length -> k < fuel -> ansOf (B10_r9_Reg (inn E 114) (evC E fn (dp + 1)) (loopK 10 B10_r9_Reg (inn E 114) (evC E fn (dp + 1)) kx (kEnd 0 [.tmp 10, .tmp 11]) fuel) kx (kEnd 0 [.tmp 10, .tmp 11])
   (mk .bot 62 [(2, .d (rowD l)), (4, aint r), (5, .ref 0 0 0), (6, .ref 1 0 0), (12, aint ((k : Int) - 1))]) [.cells ((progC p).map .d) 0 false, .cells ((regsC of).map .d) 0 false]) =
   some (.tup [vi (Md.regGo p r D (l.take k).reverse).1, vb (Md.regGo p r D (l.take k).reverse).2]) := by
 intro k
 induction k with
 | zero =>
  intro fuel _ hf
  generalize loopK 10 B10_r9_Reg _ _ kx _ fuel = KK
  rw [B10_r9_Reg]
  simp only [eG, go_sem, thq S, nbr S, zN0, zN1, zN2, zN3, zN4, zI0, zI1, zI2, zI3, reduceCtorEq, o114_3 S, show ¬ (((0 : Nat) : Int) - 1 >= 0) by omega, List.take_zero, List.reverse_nil, Md.regGo]
  exact hx _ rfl rfl
 | succ k ih =>
  intro fuel hk hf
  obtain ⟨e, he⟩ := get_of (show k < l.length by omega)
  obtain ⟨fuel, rfl⟩ : ∃ m, fuel = m + 1 := ⟨fuel - 1, by omega⟩
  rw [show (((k + 1 : Nat) : Int) - 1) = (k : Int) by omega, take_rev he]
  generalize hK : loopK 10 B10_r9_Reg _ _ kx _ (fuel + 1) = KK
  rw [B10_r9_Reg]
  simp only [eG, go_sem, thq S, nbr S, zN0, zN1, zN2, zN3, zN4, zI0, zI1, zI2, zI3, reduceCtorEq, o114_3 S, w_ix he, cA7 S, c_r9_Dest S, Int.natCast_nonneg, ge_iff_le, wd k (by omega), Md.regGo]
  cases h1 : Md.destK (Md.at_ p e.pc) with
  | false =>
   simp only [eG, go_sem, thq S, nbr S, zN0, zN1, zN2, zN3, zN4, zI0, zI1, zI2, zI3, reduceCtorEq, o114_3 S, w_ix he, cA7 S, c_r9_Dest S, Int.natCast_nonneg, ge_iff_le, wd k (by omega)]
   rw [<- hK, loop_in (on S _ _ [2, 4, 5, 6, 12] (by decide) rfl) rfl _ _ _ _ _ _ _ _ _ rfl]
   simp only [eG, go_sem, thq S, nbr S, zN0, zN1, zN2, zN3, zN4, zI0, zI1, zI2, zI3, reduceCtorEq, o114_3 S]
   exact ih fuel (by omega) (by omega)
  | true =>
   by_cases h2 : (Md.at_ p e.pc).d = r
   ·cases h3 : e.done <;> simp only [eG, go_sem, thq S, nbr S, zN0, zN1, zN2, zN3, zN4, zI0, zI1, zI2, zI3, reduceCtorEq, o114_3 S, w_ix he, cA7 S, c_r9_Dest S, Int.natCast_nonneg, ge_iff_le, wd k (by omega), h2, h3, Md.dest, h1]
   ·simp only [eG, go_sem, thq S, nbr S, zN0, zN1, zN2, zN3, zN4, zI0, zI1, zI2, zI3, reduceCtorEq, o114_3 S, w_ix he, cA7 S, c_r9_Dest S, Int.natCast_nonneg, ge_iff_le, wd k (by omega), h2, Md.dest, h1]
    rw [<- hK, loop_in (on S _ _ [2, 4, 5, 6, 12] (by decide) rfl) rfl _ _ _ _ _ _ _ _ _ rfl]
    simp only [eG, go_sem, thq S, nbr S, zN0, zN1, zN2, zN3, zN4, zI0, zI1, zI2, zI3, reduceCtorEq, o114_3 S]
    exact ih fuel (by omega) (by omega)
theorem raw_r9_Reg (dp : Nat) (p : Prog) (of : Regs) (l : List Ent) (i r : Int) (hl : l.length < 1073741824) : Says E fn (dp + 2) 114 [progD p, .agg (regsC of), rowD l, vi i, vi r] (.tup [vi (Md.reg p of l i r).1, vb (Md.reg p of l i r).2]) := by
 unfold Says
 show ansOf (evC E fn (dp + 1 + 1) 114 [.d (progD p), .d (.agg (regsC of)), .d (rowD l), .d (vi i), .d (vi r)] []) = _
 rw [evC_succ, S.f_r9_Reg, apF_some, F_r9_Reg, mkF_run _ _ _ _ _ _ _ _ rfl]
 by_cases h : r < 0
 ·simp only [eG, go_sem, thq S, nbr S, zN0, zN1, zN2, zN3, zN4, zI0, zI1, zI2, zI3, reduceCtorEq, o114_3 S, h, Md.reg]
 by_cases h2 : r > 3
 ·simp only [eG, go_sem, thq S, nbr S, zN0, zN1, zN2, zN3, zN4, zI0, zI1, zI2, zI3, reduceCtorEq, o114_3 S, h, h2, Md.reg, show 4 <= r by omega]
 ·have e : Md.reg p of l i r = Md.regGo p r (Md.getR of r) (l.take (min i.toNat l.length)).reverse := by
   unfold Md.reg; rw [if_neg (by omega), cut_min]
  rw [e]
  simp only [eG, go_sem, thq S, nbr S, zN0, zN1, zN2, zN3, zN4, zI0, zI1, zI2, zI3, reduceCtorEq, o114_3 S, h, h2, min0, wd _ (show min i.toNat l.length < 4611686018427387904 by omega)]
  rw [big_eq, loop_in (on S _ _ [2, 4, 5, 6, 12] (by decide) rfl) rfl _ _ _ _ _ _ _ _ _ rfl]
  simp only [eG, go_sem, thq S, nbr S, zN0, zN1, zN2, zN3, zN4, zI0, zI1, zI2, zI3, reduceCtorEq, o114_3 S]
  refine loop_rReg S dp p of l r hl _ (Md.getR of r) ?_ _ _ (Nat.min_le_right _ _) (by omega)
  intro T h4 h6
  obtain rfl | rfl | rfl | rfl : r = 0 ∨ r = 1 ∨ r = 2 ∨ r = 3 := by omega
  ·simp only [eG, go_sem, thq S, nbr S, zN0, zN1, zN2, zN3, zN4, zI0, zI1, zI2, zI3, reduceCtorEq, o114_3 S, h4, h6, zI2, zI1, Int.toNat_zero, Int.reduceToNat, Nat.zero_mul, Md.getR]; rfl
  ·simp only [eG, go_sem, thq S, nbr S, zN0, zN1, zN2, zN3, zN4, zI0, zI1, zI2, zI3, reduceCtorEq, o114_3 S, h4, h6, zI2, zI1, Int.reduceToNat, Nat.one_mul, Md.getR]; rfl
  ·simp only [eG, go_sem, thq S, nbr S, zN0, zN1, zN2, zN3, zN4, zI0, zI1, zI2, zI3, reduceCtorEq, o114_3 S, h4, h6, zI2, zI1, Int.reduceToNat, Md.getR]; rfl
  ·simp only [eG, go_sem, thq S, nbr S, zN0, zN1, zN2, zN3, zN4, zI0, zI1, zI2, zI3, reduceCtorEq, o114_3 S, h4, h6, zI2, zI1, Int.reduceToNat, Md.getR]; rfl
theorem c_r9_Reg (dp : Nat) (p_w p_wn p_fu p_r0 p_r1 p_r2 p_r3 : Int) (p_ms : List MemT) (p_ls : List Label) (p_is : List Ins) (of_r0 of_r1 of_r2 of_r3 : Int) (l : List Ent) (i r : Int) (hl : l.length < 1073741824) (A : List Blk) (nb : Nat) (us : List Nat) : evOwnK false E (evC E fn (dp + 2)) 114 A nb (some ([.agg [vi p_w, vi p_wn, vi p_fu, vi p_r0, vi p_r1, vi p_r2, vi p_r3, rowD p_ms, rowD p_ls, rowD p_is], .agg [vi of_r0, vi of_r1, vi of_r2, vi of_r3], rowD l, vi i, vi r], us)) = some (.made (.d (.tup [vi (Md.reg (⟨p_w, p_wn, p_fu, ⟨p_r0, p_r1, p_r2, p_r3⟩, p_ms, p_ls, p_is⟩ : Prog) (⟨of_r0, of_r1, of_r2, of_r3⟩ : Regs) l i r).1, vb (Md.reg (⟨p_w, p_wn, p_fu, ⟨p_r0, p_r1, p_r2, p_r3⟩, p_ms, p_ls, p_is⟩ : Prog) (⟨of_r0, of_r1, of_r2, of_r3⟩ : Regs) l i r).2])) []) :=
 Says.flat (raw_r9_Reg S dp (⟨p_w, p_wn, p_fu, ⟨p_r0, p_r1, p_r2, p_r3⟩, p_ms, p_ls, p_is⟩ : Prog) (⟨of_r0, of_r1, of_r2, of_r3⟩ : Regs) l i r hl) (np S 114 (by decide)) (rfl) A nb us
theorem raw_r9_Val (dp : Nat) (p : Prog) (of : Regs) (l : List Ent) (i : Int) (v : Val) (hl : l.length < 1073741824) : Says E fn (dp + 3) 113 [progD p, .agg (regsC of), rowD l, vi i, .agg (Cl.cells v)] (.tup [vi (Md.val p of l i v).1, vb (Md.val p of l i v).2]) := by
 unfold Says
 show ansOf (evC E fn (dp + 2 + 1) 113 [.d (progD p), .d (.agg (regsC of)), .d (rowD l), .d (vi i), .d (.agg (Cl.cells v))] []) = _
 rw [evC_succ, S.f_r9_Val, apF_some, F_r9_Val, mkF_run _ _ _ _ _ _ _ _ rfl]
 cases h : v.reg <;> simp only [eG, go_sem, thq S, nbr S, zN0, zN1, zN2, zN3, zN4, zI0, zI1, zI2, zI3, reduceCtorEq, o113_3 S, h, Md.val, c_r9_Reg S, hl, c_r1_Mask S]
theorem c_r9_Val (dp : Nat) (p_w p_wn p_fu p_r0 p_r1 p_r2 p_r3 : Int) (p_ms : List MemT) (p_ls : List Label) (p_is : List Ins) (of_r0 of_r1 of_r2 of_r3 : Int) (l : List Ent) (i : Int) (v_g : Bool) (v_n : Int) (hl : l.length < 1073741824) (A : List Blk) (nb : Nat) (us : List Nat) : evOwnK false E (evC E fn (dp + 3)) 113 A nb (some ([.agg [vi p_w, vi p_wn, vi p_fu, vi p_r0, vi p_r1, vi p_r2, vi p_r3, rowD p_ms, rowD p_ls, rowD p_is], .agg [vi of_r0, vi of_r1, vi of_r2, vi of_r3], rowD l, vi i, .agg [vb v_g, vi v_n]], us)) = some (.made (.d (.tup [vi (Md.val (⟨p_w, p_wn, p_fu, ⟨p_r0, p_r1, p_r2, p_r3⟩, p_ms, p_ls, p_is⟩ : Prog) (⟨of_r0, of_r1, of_r2, of_r3⟩ : Regs) l i (⟨v_g, v_n⟩ : Val)).1, vb (Md.val (⟨p_w, p_wn, p_fu, ⟨p_r0, p_r1, p_r2, p_r3⟩, p_ms, p_ls, p_is⟩ : Prog) (⟨of_r0, of_r1, of_r2, of_r3⟩ : Regs) l i (⟨v_g, v_n⟩ : Val)).2])) []) :=
 Says.flat (raw_r9_Val S dp (⟨p_w, p_wn, p_fu, ⟨p_r0, p_r1, p_r2, p_r3⟩, p_ms, p_ls, p_is⟩ : Prog) (⟨of_r0, of_r1, of_r2, of_r3⟩ : Regs) l i (⟨v_g, v_n⟩ : Val) hl) (np S 113 (by decide)) (rfl) A nb us
theorem loop_rBlocked (dp : Nat) (p : Prog) (l : List Ent) (i : Int) (hl : l.length < 1073741824) (kx : Nat -> K)
  (hx : ∀ T, ansOf (kx 0 (mk .bot 28 T) [.cells ((progC p).map .d) 0 false]) = some (vb false)) :
  ∀ (m k fuel : Nat), k + m = (Md.cut l i).length -> m <= fuel -> ansOf (B6_r9_Blocked (inn E 131) (evC E fn (dp + 1)) (loopK 6 B6_r9_Blocked (inn E 131) (evC E fn (dp + 1)) kx (kEnd 0 [.tmp 6]) fuel) kx (kEnd 0 [.tmp 6])
   (mk .bot 28 [(1, .d (rowD l)), (2, aint i), (3, .ref 0 0 0), (7, aint k)]) [.cells ((progC p).map .d) 0 false]) =
   some (vb (((Md.cut l i).drop k).any (Md.isFence p))) := by
 intro m
 have hcl : (Md.cut l i).length = min i.toNat l.length := by simp [Md.cut]
 induction m with
 | zero =>
  intro k fuel hk _
  generalize loopK 6 B6_r9_Blocked _ _ kx _ fuel = KK
  rw [B6_r9_Blocked, List.drop_of_length_le (by omega)]
  by_cases h1 : (k : Int) < i
  ·simp only [eG, go_sem, thq S, nbr S, zN0, zN1, zN2, zN3, zN4, zI0, zI1, zI2, zI3, reduceCtorEq, o131_3 S, h1, show ¬ (k : Int) < l.length by omega, List.any_nil]
   exact hx _
  ·simp only [eG, go_sem, thq S, nbr S, zN0, zN1, zN2, zN3, zN4, zI0, zI1, zI2, zI3, reduceCtorEq, o131_3 S, h1, List.any_nil]
   exact hx _
 | succ m ih =>
  intro k fuel hk hf
  obtain ⟨e, he⟩ := get_of (show k < l.length by omega)
  have hc : (Md.cut l i)[k]? = some e := by unfold Md.cut; rw [List.getElem?_take, if_pos (by omega), he]
  obtain ⟨fuel, rfl⟩ : ∃ m, fuel = m + 1 := ⟨fuel - 1, by omega⟩
  generalize hK : loopK 6 B6_r9_Blocked _ _ kx _ (fuel + 1) = KK
  rw [B6_r9_Blocked, drop_get hc, List.any_cons]
  have h1 : (k : Int) < i := by omega
  have h2 : (k : Int) < l.length := by omega
  by_cases h3 : (Md.at_ p e.pc).kind = 10
  ·simp only [eG, go_sem, thq S, nbr S, zN0, zN1, zN2, zN3, zN4, zI0, zI1, zI2, zI3, reduceCtorEq, o131_3 S, w_ix he, cA7 S, wi k (by omega), h1, h2, h3, Md.isFence]
  ·simp only [eG, go_sem, thq S, nbr S, zN0, zN1, zN2, zN3, zN4, zI0, zI1, zI2, zI3, reduceCtorEq, o131_3 S, w_ix he, cA7 S, wi k (by omega), h1, h2, h3, Md.isFence]
   rw [<- hK, loop_in (on S _ _ [1, 2, 3, 7] (by decide) rfl) rfl _ _ _ _ _ _ _ _ _ rfl]
   simp only [eG, go_sem, thq S, nbr S, zN0, zN1, zN2, zN3, zN4, zI0, zI1, zI2, zI3, reduceCtorEq, o131_3 S, w_ix he, cA7 S, wi k (by omega), h1, h2]
   exact ih (k + 1) fuel (by omega) (by omega)
theorem raw_r9_Blocked (dp : Nat) (p : Prog) (l : List Ent) (i : Int) (hl : l.length < 1073741824) : Says E fn (dp + 2) 131 [progD p, rowD l, vi i] (vb (Md.blocked p l i)) := by
 unfold Says
 show ansOf (evC E fn (dp + 1 + 1) 131 [.d (progD p), .d (rowD l), .d (vi i)] []) = _
 rw [evC_succ, S.f_r9_Blocked, apF_some, F_r9_Blocked, mkF_run _ _ _ _ _ _ _ _ rfl]
 simp only [eG, go_sem, thq S, nbr S, zN0, zN1, zN2, zN3, zN4, zI0, zI1, zI2, zI3, reduceCtorEq, o131_3 S]
 rw [big_eq, loop_in (on S _ _ [1, 2, 3, 7] (by decide) rfl) rfl _ _ _ _ _ _ _ _ _ rfl]
 simp only [eG, go_sem, thq S, nbr S, zN0, zN1, zN2, zN3, zN4, zI0, zI1, zI2, zI3, reduceCtorEq, o131_3 S]
 refine loop_rBlocked S dp p l i hl _ ?_ (Md.cut l i).length 0 _ (by omega) (by have := cut_len l i; omega)
 intro T
 simp only [eG, go_sem, thq S, nbr S, zN0, zN1, zN2, zN3, zN4, zI0, zI1, zI2, zI3, reduceCtorEq, o131_3 S]
theorem c_r9_Blocked (dp : Nat) (p_w p_wn p_fu p_r0 p_r1 p_r2 p_r3 : Int) (p_ms : List MemT) (p_ls : List Label) (p_is : List Ins) (l : List Ent) (i : Int) (hl : l.length < 1073741824) (A : List Blk) (nb : Nat) (us : List Nat) : evOwnK false E (evC E fn (dp + 2)) 131 A nb (some ([.agg [vi p_w, vi p_wn, vi p_fu, vi p_r0, vi p_r1, vi p_r2, vi p_r3, rowD p_ms, rowD p_ls, rowD p_is], rowD l, vi i], us)) = some (.made (.d (vb (Md.blocked (⟨p_w, p_wn, p_fu, ⟨p_r0, p_r1, p_r2, p_r3⟩, p_ms, p_ls, p_is⟩ : Prog) l i))) []) :=
 Says.flat (raw_r9_Blocked S dp (⟨p_w, p_wn, p_fu, ⟨p_r0, p_r1, p_r2, p_r3⟩, p_ms, p_ls, p_is⟩ : Prog) l i hl) (np S 131 (by decide)) (rfl) A nb us
theorem loop_rLoad (dp : Nat) (p : Prog) (mem : List Int) (l : List Ent) (addr : Int) (hl : l.length < 1073741824) (kx : Nat -> K)
  (hx : ∀ T, getS .bot T 1 = .d (rowD mem) -> getS .bot T 4 = aint addr -> ansOf (kx 0 (mk .bot 73 T) [.cells ((progC p).map .d) 0 false]) = some (.tup [vi (Md.loadGo p mem addr []).1, vi (Md.loadGo p mem addr []).2.1, vb (Md.loadGo p mem addr []).2.2])) :
  ∀ (k fuel : Nat), k <= l.length -> k < fuel -> ansOf (B6_r9_Load (inn E 83) (evC E fn (dp + 1)) (loopK 6 B6_r9_Load (inn E 83) (evC E fn (dp + 1)) kx (kEnd 0 [.tmp 10, .tmp 11, .tmp 12]) fuel) kx (kEnd 0 [.tmp 10, .tmp 11, .tmp 12])
   (mk .bot 73 [(1, .d (rowD mem)), (2, .d (rowD l)), (4, aint addr), (5, .ref 0 0 0), (13, aint ((k : Int) - 1))]) [.cells ((progC p).map .d) 0 false]) =
   some (.tup [vi (Md.loadGo p mem addr (l.take k).reverse).1, vi (Md.loadGo p mem addr (l.take k).reverse).2.1, vb (Md.loadGo p mem addr (l.take k).reverse).2.2]) := by
 intro k
 induction k with
 | zero =>
  intro fuel _ hf
  generalize loopK 6 B6_r9_Load _ _ kx _ fuel = KK
  rw [B6_r9_Load]
  simp only [eG, go_sem, thq S, nbr S, zN0, zN1, zN2, zN3, zN4, zI0, zI1, zI2, zI3, reduceCtorEq, o83_3 S, show ¬ (((0 : Nat) : Int) - 1 >= 0) by omega, List.take_zero, List.reverse_nil]
  exact hx _ rfl rfl
 | succ k ih =>
  intro fuel hk hf
  obtain ⟨e, he⟩ := get_of (show k < l.length by omega)
  obtain ⟨fuel, rfl⟩ : ∃ m, fuel = m + 1 := ⟨fuel - 1, by omega⟩
  rw [show (((k + 1 : Nat) : Int) - 1) = (k : Int) by omega, take_rev he]
  generalize hK : loopK 6 B6_r9_Load _ _ kx _ (fuel + 1) = KK
  rw [B6_r9_Load]
  have hlen : (l.take k).reverse.length = k := by simp; omega
  by_cases h1 : (Md.at_ p e.pc).kind = 3
  ·cases h2 : e.known with
   | true =>
    by_cases h3 : e.addr = addr
    ·cases h4 : e.done <;> simp only [eG, go_sem, thq S, nbr S, zN0, zN1, zN2, zN3, zN4, zI0, zI1, zI2, zI3, reduceCtorEq, o83_3 S, w_ix he, cA7 S, Int.natCast_nonneg, ge_iff_le, wd k (by omega), h1, h2, h3, h4, Md.loadGo, Md.hitS, hlen]
    ·simp only [eG, go_sem, thq S, nbr S, zN0, zN1, zN2, zN3, zN4, zI0, zI1, zI2, zI3, reduceCtorEq, o83_3 S, w_ix he, cA7 S, Int.natCast_nonneg, ge_iff_le, wd k (by omega), h1, h2, h3, Md.loadGo, Md.hitS]
     rw [<- hK, loop_in (on S _ _ [1, 2, 4, 5, 13] (by decide) rfl) rfl _ _ _ _ _ _ _ _ _ rfl]
     simp only [eG, go_sem, thq S, nbr S, zN0, zN1, zN2, zN3, zN4, zI0, zI1, zI2, zI3, reduceCtorEq, o83_3 S, w_ix he, cA7 S, Int.natCast_nonneg, ge_iff_le, wd k (by omega)]
     exact ih fuel (by omega) (by omega)
   | false =>
    simp only [eG, go_sem, thq S, nbr S, zN0, zN1, zN2, zN3, zN4, zI0, zI1, zI2, zI3, reduceCtorEq, o83_3 S, w_ix he, cA7 S, Int.natCast_nonneg, ge_iff_le, wd k (by omega), h1, h2, Md.loadGo, Md.hitS]
    rw [<- hK, loop_in (on S _ _ [1, 2, 4, 5, 13] (by decide) rfl) rfl _ _ _ _ _ _ _ _ _ rfl]
    simp only [eG, go_sem, thq S, nbr S, zN0, zN1, zN2, zN3, zN4, zI0, zI1, zI2, zI3, reduceCtorEq, o83_3 S, w_ix he, cA7 S, Int.natCast_nonneg, ge_iff_le, wd k (by omega)]
    exact ih fuel (by omega) (by omega)
  ·simp only [eG, go_sem, thq S, nbr S, zN0, zN1, zN2, zN3, zN4, zI0, zI1, zI2, zI3, reduceCtorEq, o83_3 S, w_ix he, cA7 S, Int.natCast_nonneg, ge_iff_le, wd k (by omega), h1, Md.loadGo, Md.hitS]
   rw [<- hK, loop_in (on S _ _ [1, 2, 4, 5, 13] (by decide) rfl) rfl _ _ _ _ _ _ _ _ _ rfl]
   simp only [eG, go_sem, thq S, nbr S, zN0, zN1, zN2, zN3, zN4, zI0, zI1, zI2, zI3, reduceCtorEq, o83_3 S, w_ix he, cA7 S, Int.natCast_nonneg, ge_iff_le, wd k (by omega)]
   exact ih fuel (by omega) (by omega)
theorem raw_r9_Load (dp : Nat) (p : Prog) (mem : List Int) (l : List Ent) (i addr : Int) (hl : l.length < 1073741824) : Says E fn (dp + 2) 83 [progD p, rowD mem, rowD l, vi i, vi addr] (.tup [vi (Md.load p mem l i addr).1, vi (Md.load p mem l i addr).2.1, vb (Md.load p mem l i addr).2.2]) := by
 unfold Says
 show ansOf (evC E fn (dp + 1 + 1) 83 [.d (progD p), .d (rowD mem), .d (rowD l), .d (vi i), .d (vi addr)] []) = _
 rw [evC_succ, S.f_r9_Load, apF_some, F_r9_Load, mkF_run _ _ _ _ _ _ _ _ rfl]
 have e : Md.load p mem l i addr = Md.loadGo p mem addr (l.take (min i.toNat l.length)).reverse := by unfold Md.load; rw [cut_min]
 rw [e]
 simp only [eG, go_sem, thq S, nbr S, zN0, zN1, zN2, zN3, zN4, zI0, zI1, zI2, zI3, reduceCtorEq, o83_3 S, min0, wd _ (show min i.toNat l.length < 4611686018427387904 by omega)]
 rw [big_eq, loop_in (on S _ _ [1, 2, 4, 5, 13] (by decide) rfl) rfl _ _ _ _ _ _ _ _ _ rfl]
 simp only [eG, go_sem, thq S, nbr S, zN0, zN1, zN2, zN3, zN4, zI0, zI1, zI2, zI3, reduceCtorEq, o83_3 S]
 refine loop_rLoad S dp p mem l addr hl _ ?_ _ _ (Nat.min_le_right _ _) (by omega)
 intro T h1 h4
 by_cases h : addr < 0
 ·simp only [eG, go_sem, thq S, nbr S, zN0, zN1, zN2, zN3, zN4, zI0, zI1, zI2, zI3, reduceCtorEq, o83_3 S, h1, h4, h, Md.loadGo]
 ·by_cases h2 : (mem.length : Int) <= addr
  ·simp only [eG, go_sem, thq S, nbr S, zN0, zN1, zN2, zN3, zN4, zI0, zI1, zI2, zI3, reduceCtorEq, o83_3 S, h1, h4, h, ge_iff_le, h2, Md.loadGo]
  ·obtain ⟨e, he⟩ := get_of (show addr.toNat < mem.length by omega)
   simp only [eG, go_sem, thq S, nbr S, zN0, zN1, zN2, zN3, zN4, zI0, zI1, zI2, zI3, reduceCtorEq, o83_3 S, h1, h4, h, ge_iff_le, h2, Md.loadGo, w_ixI (show 0 <= addr by omega) he, he, Option.getD_some]
theorem c_r9_Load (dp : Nat) (p_w p_wn p_fu p_r0 p_r1 p_r2 p_r3 : Int) (p_ms : List MemT) (p_ls : List Label) (p_is : List Ins) (mem : List Int) (l : List Ent) (i addr : Int) (hl : l.length < 1073741824) (A : List Blk) (nb : Nat) (us : List Nat) : evOwnK false E (evC E fn (dp + 2)) 83 A nb (some ([.agg [vi p_w, vi p_wn, vi p_fu, vi p_r0, vi p_r1, vi p_r2, vi p_r3, rowD p_ms, rowD p_ls, rowD p_is], rowD mem, rowD l, vi i, vi addr], us)) = some (.made (.d (.tup [vi (Md.load (⟨p_w, p_wn, p_fu, ⟨p_r0, p_r1, p_r2, p_r3⟩, p_ms, p_ls, p_is⟩ : Prog) mem l i addr).1, vi (Md.load (⟨p_w, p_wn, p_fu, ⟨p_r0, p_r1, p_r2, p_r3⟩, p_ms, p_ls, p_is⟩ : Prog) mem l i addr).2.1, vb (Md.load (⟨p_w, p_wn, p_fu, ⟨p_r0, p_r1, p_r2, p_r3⟩, p_ms, p_ls, p_is⟩ : Prog) mem l i addr).2.2])) []) :=
 Says.flat (raw_r9_Load S dp (⟨p_w, p_wn, p_fu, ⟨p_r0, p_r1, p_r2, p_r3⟩, p_ms, p_ls, p_is⟩ : Prog) mem l i addr hl) (np S 83 (by decide)) (rfl) A nb us
end
end Go.Aug.Mc
