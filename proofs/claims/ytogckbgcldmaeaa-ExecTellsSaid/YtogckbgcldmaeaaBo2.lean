import Derived.Test.YtogckbgcldmaeaaMk
import Derived.Test.YtogckbgcldmaeaaMc16
namespace Go.Aug.Bo
open Go Go.Aug
def far : Nat := 4611686018427387904
end Go.Aug.Bo
namespace Go.Aug.Mc
open Go Go.Aug
set_option linter.unusedSimpArgs false
set_option linter.unusedVariables false
set_option maxHeartbeats 40000000
variable {E : Env} {fn : FuncId -> Option (Env -> CallT -> CallT)}
section
variable (S : Sur E fn)
include S
end
open Nat renaming reduceLT -> zN0, reduceEqDiff -> zN1, reduceAdd -> zN2, reduceMul -> zN3, reduceLeDiff -> zN4
open Int renaming reduceEq -> zI0, reduceLT -> zI1, reduceLE -> zI2, reduceNeg -> zI3
section
variable (S : Sur E fn)
include S
theorem of_53_Bo2 : E.lives 53 1 = none := off S 53 1 (by decide) rfl
theorem loop_rCells (dp : Nat) (p : Prog) (hl : p.mems.length < 1073741824) (hr : ∀ m ∈ p.mems, 0 <= m.n /\ m.n <= 16) (kx : Nat -> K) (kr : K) : ∀ m k f, k + m = p.mems.length -> m <= f ->
  B8_r7_Cells (inn E 53) (evC E fn dp) (loopK 8 B8_r7_Cells (inn E 53) (evC E fn dp) kx kr f) kx kr (mk .bot 21 [(1, .ref 0 0 0), (3, aint (cellsI (p.mems.take k))), (4, aint k)]) [.cells ((progC p).map .d) 0 false] =
  kx 0 (mk .bot 21 [(9, abool false), (8, aint p.mems.length), (7, .d (rowD p.mems)), (6, .ref 0 0 7), (5, aint p.mems.length), (1, .ref 0 0 0), (3, aint (cellsI p.mems)), (4, aint p.mems.length)]) [.cells ((progC p).map .d) 0 false] := by
 intro m
 induction m with
 | zero =>
  intro k f hk _
  obtain rfl : k = p.mems.length := by omega
  generalize loopK 8 B8_r7_Cells _ _ kx kr f = KK
  rw [B8_r7_Cells, List.take_of_length_le (by omega)]
  simp only [eG, go_sem, thq S, nbr S, zN0, zN1, zN2, zN3, zN4, zI0, zI1, zI2, zI3, reduceCtorEq, of_53_Bo2 S, Int.lt_irrefl]
 | succ m ih =>
  intro k f hk hf
  obtain ⟨e, he⟩ := get_of (show k < p.mems.length by omega)
  obtain ⟨f, rfl⟩ : ∃ g, f = g + 1 := ⟨f - 1, by omega⟩
  generalize hK : loopK 8 B8_r7_Cells _ _ kx kr (f + 1) = KK
  rw [B8_r7_Cells]
  have hb := cellsI_le (p.mems.take k)
  have hbl : (p.mems.take k).length <= p.mems.length := by simp; omega
  have hen := hr e (List.mem_of_getElem? he)
  have hw : IntKind.i64.wrap (cellsI (p.mems.take k) + e.n) = cellsI (p.mems.take (k + 1)) := by
   rw [cellsI_take he, Int.max_eq_left hen.1, Int.min_eq_left hen.2]
   exact wrap_i64 (by omega) (by omega)
  simp only [eG, go_sem, thq S, nbr S, zN0, zN1, zN2, zN3, zN4, zI0, zI1, zI2, zI3, reduceCtorEq, of_53_Bo2 S, show (k : Int) < p.mems.length by omega, w_ix he, wi k (by omega), hw]
  rw [<- hK, loop_in (on S _ _ [1, 3, 4] (by decide) rfl) rfl _ _ _ _ _ _ _ _ _ rfl]
  simp only [eG, go_sem, thq S, nbr S, zN0, zN1, zN2, zN3, zN4, zI0, zI1, zI2, zI3, reduceCtorEq, of_53_Bo2 S]
  exact ih (k + 1) f (by omega) (by omega)
theorem raw_r7_Cells (dp : Nat) (p : Prog) (hl : p.mems.length < 1073741824) (hr : ∀ m ∈ p.mems, 0 <= m.n /\ m.n <= 16) : Says E fn (dp + 1) 53 [progD p] (vi (cellsI p.mems)) := by
 unfold Says
 show ansOf (evC E fn (dp + 1) 53 [.d (progD p)] []) = _
 rw [evC_succ, S.f_r7_Cells, apF_some, F_r7_Cells, mkF_run _ _ _ _ _ _ _ _ rfl]
 simp only [eG, go_sem, thq S, nbr S, zN0, zN1, zN2, zN3, zN4, zI0, zI1, zI2, zI3, reduceCtorEq, of_53_Bo2 S]
 rw [big_eq, loop_in (on S _ _ [1, 3, 4] (by decide) rfl) rfl _ _ _ _ _ _ _ _ _ rfl]
 simp only [eG, go_sem, thq S, nbr S, zN0, zN1, zN2, zN3, zN4, zI0, zI1, zI2, zI3, reduceCtorEq, of_53_Bo2 S]
 have := fun kx kr => loop_rCells S dp p hl hr kx kr p.mems.length 0 999999999999999999999999999999 (by omega) (by omega)
 simp only [go_sem, List.take_zero, Int.cast_ofNat_Int, show cellsI ([] : List MemT) = 0 from rfl] at this
 rw [this]
 simp only [eG, go_sem, thq S, nbr S, zN0, zN1, zN2, zN3, zN4, zI0, zI1, zI2, zI3, reduceCtorEq, of_53_Bo2 S]
end
end Go.Aug.Mc
