import Derived.Test.YtogckbgcldmaeaaMc38
import Derived.Test.YtogckbgcldmaeaaMl5
namespace Go.Aug.Mc
open Go Go.Aug
set_option linter.unusedSimpArgs false
set_option linter.unusedVariables false
set_option maxHeartbeats 40000000
set_option maxRecDepth 200000
theorem fm_len : ∀ l : List Ent, (l.flatMap entI).length <= 8 * l.length
 | [] => Nat.le_refl _
 | e :: l => by
  have := fm_len l
  rw [List.flatMap_cons, List.length_append, List.length_cons]
  have h : (entI e).length = 8 := rfl
  omega
theorem ints9_len (c : Conf) : (ints9 c).length <= c.state.mem.length + c.state.stack.length + 8 * c.buf.length + c.rsb.length + 100 := by
 have := fm_len c.buf
 unfold ints9 ints7
 simp only [List.length_append, List.length_cons, List.length_nil]
 omega
variable {E : Env} {fn : FuncId -> Option (Env -> CallT -> CallT)}
section
variable (S : Sur E fn)
include S
end
open Nat renaming reduceLT -> zN0, reduceEqDiff -> zN1, reduceAdd -> zN2, reduceMul -> zN3, reduceLeDiff -> zN4
open Int renaming reduceEq -> zI0, reduceLT -> zI1, reduceLE -> zI2, reduceNeg -> zI3
structure Byt where
 n : Int
instance : Cl Byt := ⟨1, fun b => [.v (.int .u8 b.n)], fun _ => rfl⟩
instance : Cl1 Byt := ⟨fun _ => rfl, fun _ => rfl⟩
def bytA (n : Int) (m : Nat) : Int := IntKind.u8.wrap ((IntKind.u64.wrap n).fdiv (2 ^ (min (8 * (m : Int)).toNat 64)))
def bytN (n : Int) : Nat -> List Byt
 | 0 => []
 | m + 1 => ⟨bytA n m⟩ :: bytN n m
def putE (n : Int) : List Byt := if -1 <= n /\ n <= 253 then [⟨IntKind.u8.wrap (IntKind.i64.wrap (n + 1))⟩] else ⟨255⟩ :: bytN n 8
def putB (l : List Int) : List Byt := l.flatMap putE
theorem putE_len (n : Int) : 1 <= (putE n).length /\ (putE n).length <= 9 := by
 unfold putE; split
 ·exact ⟨Nat.le_refl _, by simp⟩
 ·exact ⟨by simp, by simp [bytN]⟩
theorem app_b {A : List Blk} {bytes j v : Nat} {out : List Byt} {n : Int} {len : Nat} (hl : len = out.length) (hA : A[j]? = some (.cells ((rowC out).map .d) v false)) (h1 : (len + 1) * bytes <= limA) (h2 : len + 1 <= limA) :
  evApp A 1 bytes (.sref j v 0 len 1 none) [.d (.v (.int .u8 n))] 1 = some (.turn j (.cells ((rowC (out ++ [⟨n⟩])).map .d) (v + 1) false) (.sref j (v + 1) 0 (len + 1) 1 none)) := by
 subst hl; exact app_end (x := (⟨n⟩ : Byt)) hA rfl (by decide) rfl h1 h2
theorem ints9_ne (c : Conf) : ints9 c ≠ [] := by unfold ints9; simp
theorem l1b : 1 <= limA := by unfold limA; decide
variable {E : Env} {fn : FuncId -> Option (Env -> CallT -> CallT)}
section
variable (S : Sur E fn)
include S
theorem o78_46 : E.lives 78 1 = none /\ E.lives 78 17 = none := ⟨off S 78 1 (by decide) rfl, off S 78 17 (by decide) rfl⟩
theorem put_in (dp : Nat) (l : List Int) (k : Nat) (n : Int) (kx : Nat -> K) (kr : K) (P : Option (AV × List Blk) -> Prop) (R : List Byt)
  (hx : ∀ T, getS .bot T 0 = .d (rowD l) -> getS .bot T 3 = .sref 0 0 0 R.length 1 none -> getS .bot T 4 = aint k -> P (kx 2 (mk .bot 47 T) [.cells ((rowC R).map .d) 0 false])) :
  ∀ (m f : Nat) (j : Int) (o : List Byt), j = (m : Int) - 1 -> m <= 8 -> m <= f -> o.length + m < 99999999999 -> o ++ bytN n m = R ->
  P (B22_r1_Put (inn E 78) (evC E fn dp) (loopK 22 B22_r1_Put (inn E 78) (evC E fn dp) kx kr f) kx kr (mk .bot 47 [(0, .d (rowD l)), (3, .sref 0 0 0 o.length 1 none), (4, aint k), (5, aint n), (6, aint j)]) [.cells ((rowC o).map .d) 0 false]) := by
 intro m
 induction m with
 | zero =>
  intro f j o hj _ _ _ hr
  obtain rfl : j = -1 := by omega
  have hr : o = R := by simpa [bytN] using hr
  subst hr
  generalize loopK 22 B22_r1_Put _ _ kx _ f = KK
  first | (conv => lhs; rw [B22_r1_Put]) | rw [B22_r1_Put]
  simp only [eG, go_sem, thq S, nbr S, zN0, zN1, zN2, zN3, zN4, zI0, zI1, zI2, zI3, reduceCtorEq, o78_46 S, ge_iff_le]
  exact hx _ rfl rfl rfl
 | succ m ih =>
  intro f j o hj hm8 hf hol hr
  obtain rfl : j = (m : Int) := by omega
  obtain ⟨f, rfl⟩ : ∃ g, f = g + 1 := ⟨f - 1, by omega⟩
  have hr' : (o ++ [⟨bytA n m⟩]) ++ bytN n m = R := by rw [<- hr, List.append_assoc]; rfl
  have hle : (o ++ [(⟨bytA n m⟩ : Byt)]).length = o.length + 1 := by rw [List.length_append]; rfl
  have next := ih f ((m : Int) - 1) (o ++ [⟨bytA n m⟩]) rfl (by omega) (by omega) (by rw [hle]; omega) hr'
  rw [hle] at next
  have k1 : (o.length + 1) * 1 <= limA := by unfold limA; omega
  have k2 : o.length + 1 <= limA := by unfold limA; omega
  have w1 : IntKind.i64.wrap (8 * (m : Int)) = 8 * (m : Int) := wrap_i64 (by omega) (by omega)
  have w2 : IntKind.i64.wrap ((m : Int) - 1) = (m : Int) - 1 := wrap_i64 (by omega) (by omega)
  have w3 : IntKind.u64.wrap (8 * (m : Int)) = 8 * (m : Int) := by
   show (8 * (m : Int)) % 2 ^ 64 = _
   omega
  have h0 : 0 <= (m : Int) := by omega
  have hs : evBin .shr (.d (.v (.int .u64 (IntKind.u64.wrap n)))) (.d (.v (.int .u64 (8 * (m : Int))))) = some (.d (.v (.int .u64 ((IntKind.u64.wrap n).fdiv (2 ^ (min (8 * (m : Int)).toNat 64)))))) := b_shr _ _ _ _ (by omega)
  have ap : ∀ (A : List Blk) (j v : Nat), A[j]? = some (.cells ((rowC o).map .d) v false) -> evApp A 1 1 (.sref j v 0 o.length 1 none) [.d (.v (.int .u8 (IntKind.u8.wrap ((IntKind.u64.wrap n).fdiv (2 ^ (min (8 * (m : Int)).toNat 64))))))] 1 = some (.turn j (.cells ((rowC (o ++ [⟨bytA n m⟩])).map .d) (v + 1) false) (.sref j (v + 1) 0 (o.length + 1) 1 none)) := fun A j v hA => app_b rfl hA k1 k2
  generalize hK : loopK 22 B22_r1_Put _ _ kx _ (f + 1) = KK
  first | (conv => lhs; rw [B22_r1_Put]) | rw [B22_r1_Put]
  simp only [eG, go_sem, thq S, nbr S, zN0, zN1, zN2, zN3, zN4, zI0, zI1, zI2, zI3, reduceCtorEq, o78_46 S, rep1', sw_t, sw_s, dl_nil, dl_cons, Option.map_some, nc1', ge_iff_le, h0, w1, w2, w3, hs, ap]
  rw [<- hK, loop_in (on S _ _ [0, 3, 4, 5, 6] (by decide) rfl) rfl _ _ _ _ _ _ _ _ _ rfl]
  simp only [eG, go_sem, thq S, nbr S, zN0, zN1, zN2, zN3, zN4, zI0, zI1, zI2, zI3, reduceCtorEq, o78_46 S]
  exact next
theorem put_go (dp : Nat) (l : List Int) (hl : l.length < 1073741824) (kx : Nat -> K) (D : Option DV) (R : List Byt)
  (hx : ∀ T, getS .bot T 3 = .sref 0 0 0 R.length 1 none -> ansOf (kx 0 (mk .bot 47 T) [.cells ((rowC R).map .d) 0 false]) = D) :
  ∀ (m k f : Nat) (o : List Byt), k + m = l.length -> m <= f -> o.length + 9 * m < 99999999999 -> o ++ putB (l.drop k) = R ->
  ansOf (B8_r1_Put (inn E 78) (evC E fn dp) (loopK 8 B8_r1_Put (inn E 78) (evC E fn dp) kx (kEnd 0 [.tmp 2]) f) kx (kEnd 0 [.tmp 2]) (mk .bot 47 [(0, .d (rowD l)), (3, .sref 0 0 0 o.length 1 none), (4, aint k)]) [.cells ((rowC o).map .d) 0 false]) = D := by
 intro m
 induction m with
 | zero =>
  intro k f o hk _ _ hr
  rw [List.drop_of_length_le (by omega)] at hr
  have hr : o = R := by simpa [putB] using hr
  subst hr
  generalize loopK 8 B8_r1_Put _ _ kx _ f = KK
  first | (conv => lhs; rw [B8_r1_Put]) | rw [B8_r1_Put]
  simp only [eG, go_sem, thq S, nbr S, zN0, zN1, zN2, zN3, zN4, zI0, zI1, zI2, zI3, reduceCtorEq, o78_46 S, show ¬ (k : Int) < l.length by omega]
  exact hx _ rfl
 | succ m ih =>
  intro k f o hk hf ho hr
  obtain ⟨n, he⟩ := get_of (show k < l.length by omega)
  obtain ⟨f, rfl⟩ : ∃ g, f = g + 1 := ⟨f - 1, by omega⟩
  have hkg : (k : Int) < l.length := by omega
  have hr' : (o ++ putE n) ++ putB (l.drop (k + 1)) = R := by
   rw [<- hr, drop_get he]; unfold putB; rw [List.flatMap_cons, List.append_assoc]
  have hle : (o ++ putE n).length = o.length + (putE n).length := List.length_append
  have hp := putE_len n
  have next := ih (k + 1) f (o ++ putE n) (by omega) (by omega) (by omega) hr'
  have k1 : (o.length + 1) * 1 <= limA := by unfold limA; omega
  have k2 : o.length + 1 <= limA := by unfold limA; omega
  have ap : ∀ (A : List Blk) (j v : Nat) (b : Int), A[j]? = some (.cells ((rowC o).map .d) v false) -> evApp A 1 1 (.sref j v 0 o.length 1 none) [.d (.v (.int .u8 b))] 1 = some (.turn j (.cells ((rowC (o ++ [⟨b⟩])).map .d) (v + 1) false) (.sref j (v + 1) 0 (o.length + 1) 1 none)) := fun A j v b hA => app_b rfl hA k1 k2
  have inner := fun (kx' : Nat -> K) (kr' : K) D' R' hx' => put_in S dp l k n kx' kr' D' R' hx' 8 999999999999999999999999999999 7 (o ++ [⟨255⟩]) (by omega) (by omega) (by omega) (by rw [List.length_append]; simp; omega)
  have hle2 : (o ++ [(⟨255⟩ : Byt)]).length = o.length + 1 := by rw [List.length_append]; rfl
  simp only [hle2] at inner
  generalize hK : loopK 8 B8_r1_Put _ _ kx _ (f + 1) = KK
  first | (conv => lhs; rw [B8_r1_Put]) | rw [B8_r1_Put]
  have wide : putE n = ⟨255⟩ :: bytN n 8 -> IntKind.i64.wrap n = IntKind.i64.wrap n := fun _ => rfl
  by_cases h1 : -1 <= n
  ·by_cases h2 : n <= 253
   ·have hn : putE n = [⟨IntKind.u8.wrap (IntKind.i64.wrap (n + 1))⟩] := by unfold putE; rw [if_pos ⟨h1, h2⟩]
    rw [hn, List.length_append, List.length_singleton] at next
    simp only [eG, go_sem, thq S, nbr S, zN0, zN1, zN2, zN3, zN4, zI0, zI1, zI2, zI3, reduceCtorEq, o78_46 S, rep1', sw_t, sw_s, dl_nil, dl_cons, Option.map_some, nc1', hkg, w_ix he, wi k (by omega), ge_iff_le, h1, h2, ap]
    rw [<- hK, loop_in (on S _ _ [0, 3, 4] (by decide) rfl) rfl _ _ _ _ _ _ _ _ _ rfl]
    simp only [eG, go_sem, thq S, nbr S, zN0, zN1, zN2, zN3, zN4, zI0, zI1, zI2, zI3, reduceCtorEq, o78_46 S]
    exact next
   ·have hn : putE n = ⟨255⟩ :: bytN n 8 := by unfold putE; rw [if_neg (by omega)]
    rw [hn] at next
    simp only [eG, go_sem, thq S, nbr S, zN0, zN1, zN2, zN3, zN4, zI0, zI1, zI2, zI3, reduceCtorEq, o78_46 S, rep1', sw_t, sw_s, dl_nil, dl_cons, Option.map_some, nc1', hkg, w_ix he, wi k (by omega), ge_iff_le, h1, h2, ap]
    rw [big_eq, loop_in (on S _ _ [0, 3, 4, 5, 6] (by decide) rfl) rfl _ _ _ _ _ _ _ _ _ rfl]
    simp only [eG, go_sem, thq S, nbr S, zN0, zN1, zN2, zN3, zN4, zI0, zI1, zI2, zI3, reduceCtorEq, o78_46 S]
    refine inner _ _ (fun r => ansOf r = D) (o ++ ⟨255⟩ :: bytN n 8) ?_ (by rw [List.append_assoc]; rfl)
    intro T t0 t3 t4
    simp only [eG, go_sem, thq S, nbr S, zN0, zN1, zN2, zN3, zN4, zI0, zI1, zI2, zI3, reduceCtorEq, o78_46 S, t0, t3, t4, wi k (by omega)]
    rw [<- hK, loop_in (on S _ _ [0, 3, 4] (by decide) rfl) rfl _ _ _ _ _ _ _ _ _ rfl]
    simp only [eG, go_sem, thq S, nbr S, zN0, zN1, zN2, zN3, zN4, zI0, zI1, zI2, zI3, reduceCtorEq, o78_46 S, t0, t3, t4]
    exact next
  ·have hn : putE n = ⟨255⟩ :: bytN n 8 := by unfold putE; rw [if_neg (by omega)]
   rw [hn] at next
   simp only [eG, go_sem, thq S, nbr S, zN0, zN1, zN2, zN3, zN4, zI0, zI1, zI2, zI3, reduceCtorEq, o78_46 S, rep1', sw_t, sw_s, dl_nil, dl_cons, Option.map_some, nc1', hkg, w_ix he, wi k (by omega), ge_iff_le, h1, ap]
   rw [big_eq, loop_in (on S _ _ [0, 3, 4, 5, 6] (by decide) rfl) rfl _ _ _ _ _ _ _ _ _ rfl]
   simp only [eG, go_sem, thq S, nbr S, zN0, zN1, zN2, zN3, zN4, zI0, zI1, zI2, zI3, reduceCtorEq, o78_46 S]
   refine inner _ _ (fun r => ansOf r = D) (o ++ ⟨255⟩ :: bytN n 8) ?_ (by rw [List.append_assoc]; rfl)
   intro T t0 t3 t4
   simp only [eG, go_sem, thq S, nbr S, zN0, zN1, zN2, zN3, zN4, zI0, zI1, zI2, zI3, reduceCtorEq, o78_46 S, t0, t3, t4, wi k (by omega)]
   rw [<- hK, loop_in (on S _ _ [0, 3, 4] (by decide) rfl) rfl _ _ _ _ _ _ _ _ _ rfl]
   simp only [eG, go_sem, thq S, nbr S, zN0, zN1, zN2, zN3, zN4, zI0, zI1, zI2, zI3, reduceCtorEq, o78_46 S, t0, t3, t4]
   exact next
theorem raw_r1_Put (dp : Nat) (l : List Int) (hl : l.length < 1073741824) (h0 : l ≠ []) : Says E fn (dp + 1) 78 [rowD l] (rowD (putB l)) := by
 unfold Says
 show ansOf (evC E fn (dp + 1) 78 [.d (rowD l)] []) = _
 rw [evC_succ, S.f_r1_Put, apF_some, F_r1_Put, mkF_run _ _ _ _ _ _ _ _ rfl]
 simp only [eG, go_sem, thq S, nbr S, zN0, zN1, zN2, zN3, zN4, zI0, zI1, zI2, zI3, reduceCtorEq, o78_46 S]
 rw [big_eq, loop_in (on S _ _ [0, 3, 4] (by decide) rfl) rfl _ _ _ _ _ _ _ _ _ rfl]
 simp only [eG, go_sem, thq S, nbr S, zN0, zN1, zN2, zN3, zN4, zI0, zI1, zI2, zI3, reduceCtorEq, o78_46 S]
 obtain ⟨n, l', rfl⟩ : ∃ n l', l = n :: l' := by
  cases l with
  | nil => exact absurd rfl h0
  | cons n l' => exact ⟨n, l', rfl⟩
 have he : (n :: l')[0]? = some n := rfl
 have hll : (n :: l').length = l'.length + 1 := rfl
 have hkg : (0 : Int) < ((l'.length + 1 : Nat) : Int) := by omega
 have w01 : IntKind.i64.wrap (0 + 1) = 1 := rfl
 have w0 := w_ixI (l := n :: l') (i := 0) (by decide) he .i64 1 rfl
 have hne : putB (n :: l') ≠ [] := by
  intro h
  have := (putE_len n).1
  have h2 : putE n ++ putB l' = [] := h
  have h3 := congrArg List.length h2
  rw [List.length_append, List.length_nil] at h3
  omega
 have hdA : deep [.cells ((rowC (putB (n :: l'))).map .d) 0 false] 8 (.sref 0 0 0 (putB (n :: l')).length 1 none) = some (.lst (rowC (putB (n :: l'))) (putB (n :: l')).length none, [0]) := deep_alone (putB (n :: l')) hne _ rfl 6 1 none rfl
 have go := fun (kx : Nat -> K) (D : Option DV) hx => put_go S dp (n :: l') hl kx D (putB (n :: l')) hx l'.length 1 999999999999999999999999999998 (putE n) (by omega) (by omega) (by have := putE_len n; omega) rfl
 simp only [Int.cast_ofNat_Int] at go
 have inner := fun (kx' : Nat -> K) (kr' : K) D' R' hx' => put_in S dp (n :: l') 0 n kx' kr' D' R' hx' 8 999999999999999999999999999999 7 [⟨255⟩] (by omega) (by omega) (by omega) (by simp)
 simp only [Int.cast_ofNat_Int, List.length_singleton] at inner
 generalize hK : loopK 8 B8_r1_Put _ _ _ _ _ = KK
 first | (conv => lhs; rw [B8_r1_Put]) | rw [B8_r1_Put]
 by_cases h1 : -1 <= n
 ·by_cases h2 : n <= 253
  ·have hn : putE n = [⟨IntKind.u8.wrap (IntKind.i64.wrap (n + 1))⟩] := by unfold putE; rw [if_pos ⟨h1, h2⟩]
   rw [hn] at go
   simp only [eG, go_sem, thq S, nbr S, zN0, zN1, zN2, zN3, zN4, zI0, zI1, zI2, zI3, reduceCtorEq, o78_46 S, rep1', sw_t, sw_s, dl_nil, dl_cons, Option.map_some, nc1', hkg, w01, w0, ge_iff_le, h1, h2, l1b, Nat.zero_add, Nat.one_mul, Nat.zero_mul, and_self, true_and]
   rw [<- hK, show (999999999999999999999999999999 : Nat) = 999999999999999999999999999998 + 1 from rfl, loop_in (on S _ _ [0, 3, 4] (by decide) rfl) rfl _ _ _ _ _ _ _ _ _ rfl]
   simp only [eG, go_sem, thq S, nbr S, zN0, zN1, zN2, zN3, zN4, zI0, zI1, zI2, zI3, reduceCtorEq, o78_46 S]
   refine go _ _ ?_
   intro T t3
   simp only [eG, go_sem, thq S, nbr S, zN0, zN1, zN2, zN3, zN4, zI0, zI1, zI2, zI3, reduceCtorEq, o78_46 S, t3, hdA]
   rfl
  ·have hn : putE n = ⟨255⟩ :: bytN n 8 := by unfold putE; rw [if_neg (by omega)]
   rw [hn] at go
   simp only [eG, go_sem, thq S, nbr S, zN0, zN1, zN2, zN3, zN4, zI0, zI1, zI2, zI3, reduceCtorEq, o78_46 S, rep1', sw_t, sw_s, dl_nil, dl_cons, Option.map_some, nc1', hkg, w01, w0, ge_iff_le, h1, h2, l1b, Nat.zero_add, Nat.one_mul, Nat.zero_mul, and_self, true_and]
   rw [big_eq, loop_in (on S _ _ [0, 3, 4, 5, 6] (by decide) rfl) rfl _ _ _ _ _ _ _ _ _ rfl]
   simp only [eG, go_sem, thq S, nbr S, zN0, zN1, zN2, zN3, zN4, zI0, zI1, zI2, zI3, reduceCtorEq, o78_46 S]
   refine inner _ _ (fun r => ansOf r = some (rowD (putB (n :: l')))) (⟨255⟩ :: bytN n 8) ?_ rfl
   intro T t0 t3 t4
   simp only [eG, go_sem, thq S, nbr S, zN0, zN1, zN2, zN3, zN4, zI0, zI1, zI2, zI3, reduceCtorEq, o78_46 S, t0, t3, t4, w01]
   rw [<- hK, show (999999999999999999999999999999 : Nat) = 999999999999999999999999999998 + 1 from rfl, loop_in (on S _ _ [0, 3, 4] (by decide) rfl) rfl _ _ _ _ _ _ _ _ _ rfl]
   simp only [eG, go_sem, thq S, nbr S, zN0, zN1, zN2, zN3, zN4, zI0, zI1, zI2, zI3, reduceCtorEq, o78_46 S, t0, t3, t4]
   refine go _ _ ?_
   intro T t3
   simp only [eG, go_sem, thq S, nbr S, zN0, zN1, zN2, zN3, zN4, zI0, zI1, zI2, zI3, reduceCtorEq, o78_46 S, t3, hdA]
   rfl
 ·have hn : putE n = ⟨255⟩ :: bytN n 8 := by unfold putE; rw [if_neg (by omega)]
  rw [hn] at go
  simp only [eG, go_sem, thq S, nbr S, zN0, zN1, zN2, zN3, zN4, zI0, zI1, zI2, zI3, reduceCtorEq, o78_46 S, rep1', sw_t, sw_s, dl_nil, dl_cons, Option.map_some, nc1', hkg, w01, w0, ge_iff_le, h1, l1b, Nat.zero_add, Nat.one_mul, Nat.zero_mul, and_self, true_and]
  rw [big_eq, loop_in (on S _ _ [0, 3, 4, 5, 6] (by decide) rfl) rfl _ _ _ _ _ _ _ _ _ rfl]
  simp only [eG, go_sem, thq S, nbr S, zN0, zN1, zN2, zN3, zN4, zI0, zI1, zI2, zI3, reduceCtorEq, o78_46 S]
  refine inner _ _ (fun r => ansOf r = some (rowD (putB (n :: l')))) (⟨255⟩ :: bytN n 8) ?_ rfl
  intro T t0 t3 t4
  simp only [eG, go_sem, thq S, nbr S, zN0, zN1, zN2, zN3, zN4, zI0, zI1, zI2, zI3, reduceCtorEq, o78_46 S, t0, t3, t4, w01]
  rw [<- hK, show (999999999999999999999999999999 : Nat) = 999999999999999999999999999998 + 1 from rfl, loop_in (on S _ _ [0, 3, 4] (by decide) rfl) rfl _ _ _ _ _ _ _ _ _ rfl]
  simp only [eG, go_sem, thq S, nbr S, zN0, zN1, zN2, zN3, zN4, zI0, zI1, zI2, zI3, reduceCtorEq, o78_46 S, t0, t3, t4]
  refine go _ _ ?_
  intro T t3
  simp only [eG, go_sem, thq S, nbr S, zN0, zN1, zN2, zN3, zN4, zI0, zI1, zI2, zI3, reduceCtorEq, o78_46 S, t3, hdA]
  rfl
theorem c_r1_Put (dp : Nat) (l : List Int) (hl : l.length < 1073741824) (h0 : l ≠ []) (A : List Blk) (nb : Nat) : evOwnK false E (evC E fn (dp + 1)) 78 A nb (some ([rowD l], [])) = some (.made (.d (rowD (putB l))) []) :=
 Says.deep (raw_r1_Put S dp l hl h0) (np S 78 (by decide)) A nb
theorem raw_r9_Code (dp : Nat) (c : Conf) (hm : c.state.mem.length < 1073741824) (hs : c.state.stack.length < 1073741824) (hb : c.buf.length < 1073741824) (hr : c.rsb.length < 1073741824) (h9 : (ints9 c).length < 1073741824) : Says E fn (dp + 3) 30 [confD c] (rowD (putB (ints9 c))) := by
 unfold Says
 show ansOf (evC E fn (dp + 2 + 1) 30 [.d (confD c)] []) = _
 rw [evC_succ, S.f_r9_Code, apF_some, F_r9_Code, mkF_run _ _ _ _ _ _ _ _ rfl]
 simp only [eG, go_sem, thq S, nbr S, zN0, zN1, zN2, zN3, zN4, zI0, zI1, zI2, zI3, reduceCtorEq, c_r9_Ints S, hm, hs, hb, hr, c_r1_Put S, h9, ints9_ne c, ne_eq, not_false_eq_true]
theorem c_r9_Code (dp : Nat) (c_r0 c_r1 c_r2 c_r3 : Int) (c_mm c_st : List Int) (c_pc : Int) (c_bf : List Ent) (c_rb : List Int) (c_en : Int) (hm : (⟨⟨⟨c_r0, c_r1, c_r2, c_r3⟩, c_mm, c_st, c_pc⟩, c_bf, c_rb, c_en⟩ : Conf).state.mem.length < 1073741824) (hs : (⟨⟨⟨c_r0, c_r1, c_r2, c_r3⟩, c_mm, c_st, c_pc⟩, c_bf, c_rb, c_en⟩ : Conf).state.stack.length < 1073741824) (hb : (⟨⟨⟨c_r0, c_r1, c_r2, c_r3⟩, c_mm, c_st, c_pc⟩, c_bf, c_rb, c_en⟩ : Conf).buf.length < 1073741824) (hr : (⟨⟨⟨c_r0, c_r1, c_r2, c_r3⟩, c_mm, c_st, c_pc⟩, c_bf, c_rb, c_en⟩ : Conf).rsb.length < 1073741824) (h9 : (ints9 (⟨⟨⟨c_r0, c_r1, c_r2, c_r3⟩, c_mm, c_st, c_pc⟩, c_bf, c_rb, c_en⟩ : Conf)).length < 1073741824) (A : List Blk) (nb : Nat) : evOwnK false E (evC E fn (dp + 3)) 30 A nb (some ([.agg [vi c_r0, vi c_r1, vi c_r2, vi c_r3, rowD c_mm, rowD c_st, vi c_pc, rowD c_bf, rowD c_rb, vi c_en]], [])) = some (.made (.d (rowD (putB (ints9 (⟨⟨⟨c_r0, c_r1, c_r2, c_r3⟩, c_mm, c_st, c_pc⟩, c_bf, c_rb, c_en⟩ : Conf))))) []) :=
 Says.deep (raw_r9_Code S dp (⟨⟨⟨c_r0, c_r1, c_r2, c_r3⟩, c_mm, c_st, c_pc⟩, c_bf, c_rb, c_en⟩ : Conf) hm hs hb hr h9) (np S 30 (by decide)) A nb
end
theorem intsOf_byt : ∀ l : List Byt, intsOf .u8 ((rowC l).map .d) = some (l.map Byt.n)
 | [] => rfl
 | b :: l => by
  have e : (rowC (b :: l)).map AV.d = .d (.v (.int .u8 b.n)) :: (rowC l).map .d := rfl
  rw [e]
  unfold intsOf
  rw [if_pos rfl, intsOf_byt l]; rfl
theorem text_byt (A : List Blk) (l : List Byt) : evText A false (.d (rowD l)) = some (.d (.v (.string (bytesText (l.map Byt.n))))) := by
 have h : readSlice A (.d (rowD l)) = some ((rowC l).map .d) := by
  show (if (rowC l).length = l.length then some ((rowC l).map AV.d) else none) = _
  rw [if_pos (by rw [rowC_len]; exact Nat.mul_one _)]
 unfold evText
 rw [h]
 show (match intsOf .u8 ((rowC l).map AV.d) with | some ns => _ | none => none) = _
 rw [intsOf_byt]; rfl
def Small (R : Conf × List Obs) : Prop := R.1.state.mem.length < 1000000 /\ R.1.state.stack.length < 1000000 /\ R.1.buf.length < 1000000 /\ R.1.rsb.length < 1000000 /\ R.2.length <= 1
theorem small_conf0 : Small (Md.conf0, []) := ⟨by decide, by decide, by decide, by decide, by decide⟩
theorem kept_small {c : Conf} {k : Nat} {R : Conf × List Obs} (h : Md.Kept c k R) (h1 : c.state.mem.length < 1000000) (h2 : c.state.stack.length < 1000000) (h3 : c.buf.length < 1000000) (h4 : c.rsb.length < 1000000) : Small R := by
 obtain ⟨px, bx, o, rfl, _, a, b, _⟩ := h
 exact ⟨h1, h2, by show bx.length < _; omega, h4, b⟩
theorem doC_small {N : Int} {p : Prog} {c : Conf} (i : Int) (h1 : c.state.mem.length < 1000000) (h2 : c.state.stack.length < 1000000) (h3 : c.buf.length < 1000000) (h4 : c.rsb.length < 1000000) : Small (doC N p c i) := by
 unfold doC
 cases hc : Md.can N p c i with
 | false => exact small_conf0
 | true =>
  have ho := hc
  simp only [Md.can, Bool.and_eq_true] at ho
  obtain ⟨_, k, rfl, hk⟩ := Md.open_at ho.1.1
  exact kept_small (Md.kept_do (List.getElem?_eq_some_iff.1 hk).1 hc) h1 h2 h3 h4
theorem addrC_small {N : Int} {p : Prog} {c : Conf} (i : Int) (h1 : c.state.mem.length < 1000000) (h2 : c.state.stack.length < 1000000) (h3 : c.buf.length < 1000000) (h4 : c.rsb.length < 1000000) : Small (addrC N p c i) := by
 unfold addrC
 cases hc : Md.canAddr p c i with
 | false => exact small_conf0
 | true =>
  have ho := hc
  simp only [Md.canAddr, Bool.and_eq_true] at ho
  obtain ⟨_, k, rfl, hk⟩ := Md.open_at ho.1.1.1.1
  exact kept_small (Md.kept_addr (List.getElem?_eq_some_iff.1 hk).1 hc) h1 h2 h3 h4
theorem o_text' (r : Bool) (x : Opd) (E : Env) (call : CallT) (tm : List AV) (A : List Blk) (nb : Nat) : oText r x E call tm A nb = one? (evText A r (look tm x)) := id rfl
theorem b_neqT (a : ByteArray) : evBin .neq (.d (.v (.string a))) (.d (.v (.string a))) = some (abool false) := by
 have h : evBin .neq (.d (.v (.string a))) (.d (.v (.string a))) = some (.d (.v (.bool !(a.toList == a.toList)))) := rfl
 rw [h, beq_self_eq_true]; rfl
variable {E : Env} {fn : FuncId -> Option (Env -> CallT -> CallT)}
section
variable (S : Sur E fn)
include S
theorem o9_47 : E.lives 9 1 = none /\ E.lives 9 23 = none /\ E.lives 9 35 = none := ⟨off S 9 1 (by decide) rfl, off S 9 23 (by decide) rfl, off S 9 35 (by decide) rfl⟩
theorem tells_body (dp : Nat) (p : Prog) (hp : Md.Fine p) (hml : p.mems.length < 1000) (c : Conf) (hI : Md.Inv (cellsI p.mems) p c) (hN : cellsI p.mems <= 1000) (raw : Int) (kx : Nat -> K) (D : Option (AV × List Blk))
  (hx : ∀ T, kx 0 (mk .bot 151 T) [.cells ((progC p).map .d) 0 false, .cells ((confC c).map .d) 0 false] = D) :
  ∀ (m f : Nat) (g : Int), g + m = c.buf.length + 2 -> -1 <= g -> m <= f ->
  B14_w15_ExecTells (inn E 9) (evC E fn (dp + 10)) (loopK 14 B14_w15_ExecTells (inn E 9) (evC E fn (dp + 10)) kx (kEnd 0 [.tmp 8]) f) kx (kEnd 0 [.tmp 8]) (mk .bot 151 [(3, aint raw), (9, .ref 0 0 0), (12, .ref 1 0 0), (14, .d (rowD (putB (ints9 c)))), (15, aint g)]) [.cells ((progC p).map .d) 0 false, .cells ((confC c).map .d) 0 false] = D := by
 have hm := hI.mem
 have hb := hI.buf
 have hw := hp.win
 obtain ⟨q1, q2, q3, q4, q5, _⟩ := inv_hyps hp hI hN ⟨0, 0⟩
 have g0 : p.mems.length < 1073741824 := by omega
 have g2 : c.buf.length < 1073741824 := by omega
 have g3 : c.state.mem.length < 1073741824 := by omega
 have g4 : c.state.stack.length < 1073741824 := by omega
 have g5 : c.rsb.length < 1073741824 := by omega
 have h9 : (ints9 c).length < 1073741824 := by have := ints9_len c; omega
 intro m
 induction m with
 | zero =>
  intro f g hg _ _
  have hgt : ¬ g <= (c.buf.length : Int) + 1 := by omega
  have w0 : IntKind.i64.wrap ((c.buf.length : Int) + 1) = (c.buf.length : Int) + 1 := wrap_i64 (by omega) (by omega)
  generalize loopK 14 B14_w15_ExecTells _ _ kx _ f = KK
  first | (conv => lhs; rw [B14_w15_ExecTells]) | rw [B14_w15_ExecTells]
  simp only [eG, go_sem, thq S, nbr S, zN0, zN1, zN2, zN3, zN4, zI0, zI1, zI2, zI3, reduceCtorEq, o9_47 S, Int.cast_ofNat_Int, w0, hgt]
  exact hx _
 | succ m ih =>
  intro f g hg hg1 hf
  obtain ⟨f, rfl⟩ : ∃ g, f = g + 1 := ⟨f - 1, by omega⟩
  have next := ih f (g + 1) (by omega) (by omega) (by omega)
  have hgt : g <= (c.buf.length : Int) + 1 := by omega
  have w0 : IntKind.i64.wrap ((c.buf.length : Int) + 1) = (c.buf.length : Int) + 1 := wrap_i64 (by omega) (by omega)
  have w1 : IntKind.i64.wrap (g + 1) = g + 1 := wrap_i64 (by omega) (by omega)
  have key : ∀ (i : Int) (T : List (Nat × AV)) (kn kx' : K), True := fun _ _ _ _ => trivial
  generalize hK : loopK 14 B14_w15_ExecTells _ _ kx _ (f + 1) = KK
  first | (conv => lhs; rw [B14_w15_ExecTells]) | rw [B14_w15_ExecTells]
  by_cases hlast : g = (c.buf.length : Int) + 1
  ·subst hlast
   obtain ⟨_, _, _, _, _, yi, y2, y3, _⟩ := inv_hyps hp hI hN ⟨0, raw⟩
   have yi' : (getO (Md.real p c.state.stack c.buf raw)).length < 1073741824 := yi
   have cD := fun (A : List Blk) (nb : Nat) => Says.deep (raw_r9_Do S (dp + 4) p c raw g2 g4 yi' (by rw [hm]; exact y2)) (np S 31 (by decide)) A nb
   have cA := fun (A : List Blk) (nb : Nat) => Says.deep (raw_r9_Addr S (dp + 4) p c raw g2 y3) (np S 32 (by decide)) A nb
   simp only [progD, progC, confD, confC, hm] at cD cA
   have sR := doC_small (N := cellsI p.mems) (p := p) (c := c) raw q3 q4 q2 q5
   have sU := addrC_small (N := cellsI p.mems) (p := p) (c := c) raw q3 q4 q2 q5
   generalize hR : doC (cellsI p.mems) p c raw = R at *
   generalize hU : addrC (cellsI p.mems) p c raw = U at *
   obtain ⟨⟨⟨⟨r0, r1, r2, r3⟩, mm, sk, pc⟩, bf, rb, en⟩, ob⟩ := R
   obtain ⟨⟨⟨⟨v0, v1, v2, v3⟩, mu, su, pu⟩, bu, ru, eu⟩, ou⟩ := U
   obtain ⟨e1, e2, e3, e4, e5⟩ := sR
   obtain ⟨f1, f2, f3, f4, f5⟩ := sU
   simp only at e1 e2 e3 e4 e5 f1 f2 f3 f4 f5
   have ha9 : (ints9 ⟨⟨⟨r0, r1, r2, r3⟩, mm, sk, pc⟩, bf, rb, en⟩).length < 1073741824 := by
    have := ints9_len ⟨⟨⟨r0, r1, r2, r3⟩, mm, sk, pc⟩, bf, rb, en⟩
    simp only at this
    omega
   have hu9 : (ints9 ⟨⟨⟨v0, v1, v2, v3⟩, mu, su, pu⟩, bu, ru, eu⟩).length < 1073741824 := by
    have := ints9_len ⟨⟨⟨v0, v1, v2, v3⟩, mu, su, pu⟩, bu, ru, eu⟩
    simp only at this
    omega
   have a1 : mm.length < 1073741824 := by omega
   have a2 : sk.length < 1073741824 := by omega
   have a3 : bf.length < 1073741824 := by omega
   have a4 : rb.length < 1073741824 := by omega
   have a5 : ob.length < 1073741824 := by omega
   have u1 : mu.length < 1073741824 := by omega
   have u2 : su.length < 1073741824 := by omega
   have u3 : bu.length < 1073741824 := by omega
   have u4 : ru.length < 1073741824 := by omega
   have u5 : ou.length < 1073741824 := by omega
   simp only [eG, go_sem, thq S, nbr S, zN0, zN1, zN2, zN3, zN4, zI0, zI1, zI2, zI3, reduceCtorEq, o9_47 S, c_exec_Do S, c_exec_Addr S, c_exec_Can S, c_exec_CanAddr S, c_r9_Code S, c_r9_Same S, c_r7_SameObs S, cD, cA, g0, g2, g3, g4, g5, h9, yi', hm, hR, hU, a1, a2, a3, a4, a5, u1, u2, u3, u4, u5, ha9, hu9, o_text', text_byt, b_neqT, Int.le_refl, w0, w1, Bool.not_true, Bool.not_false, ne_eq]
   rw [<- hK, loop_in (on S _ _ [3, 9, 12, 14, 15] (by decide) rfl) rfl _ _ _ _ _ _ _ _ _ rfl]
   simp only [eG, go_sem, thq S, nbr S, zN0, zN1, zN2, zN3, zN4, zI0, zI1, zI2, zI3, reduceCtorEq, o9_47 S]
   exact next
  ·obtain ⟨_, _, _, _, _, yi, y2, y3, _⟩ := inv_hyps hp hI hN ⟨0, g⟩
   have yi' : (getO (Md.real p c.state.stack c.buf g)).length < 1073741824 := yi
   have cD := fun (A : List Blk) (nb : Nat) => Says.deep (raw_r9_Do S (dp + 4) p c g g2 g4 yi' (by rw [hm]; exact y2)) (np S 31 (by decide)) A nb
   have cA := fun (A : List Blk) (nb : Nat) => Says.deep (raw_r9_Addr S (dp + 4) p c g g2 y3) (np S 32 (by decide)) A nb
   simp only [progD, progC, confD, confC, hm] at cD cA
   have sR := doC_small (N := cellsI p.mems) (p := p) (c := c) g q3 q4 q2 q5
   have sU := addrC_small (N := cellsI p.mems) (p := p) (c := c) g q3 q4 q2 q5
   generalize hR : doC (cellsI p.mems) p c g = R at *
   generalize hU : addrC (cellsI p.mems) p c g = U at *
   obtain ⟨⟨⟨⟨r0, r1, r2, r3⟩, mm, sk, pc⟩, bf, rb, en⟩, ob⟩ := R
   obtain ⟨⟨⟨⟨v0, v1, v2, v3⟩, mu, su, pu⟩, bu, ru, eu⟩, ou⟩ := U
   obtain ⟨e1, e2, e3, e4, e5⟩ := sR
   obtain ⟨f1, f2, f3, f4, f5⟩ := sU
   simp only at e1 e2 e3 e4 e5 f1 f2 f3 f4 f5
   have ha9 : (ints9 ⟨⟨⟨r0, r1, r2, r3⟩, mm, sk, pc⟩, bf, rb, en⟩).length < 1073741824 := by
    have := ints9_len ⟨⟨⟨r0, r1, r2, r3⟩, mm, sk, pc⟩, bf, rb, en⟩
    simp only at this
    omega
   have hu9 : (ints9 ⟨⟨⟨v0, v1, v2, v3⟩, mu, su, pu⟩, bu, ru, eu⟩).length < 1073741824 := by
    have := ints9_len ⟨⟨⟨v0, v1, v2, v3⟩, mu, su, pu⟩, bu, ru, eu⟩
    simp only at this
    omega
   have a1 : mm.length < 1073741824 := by omega
   have a2 : sk.length < 1073741824 := by omega
   have a3 : bf.length < 1073741824 := by omega
   have a4 : rb.length < 1073741824 := by omega
   have a5 : ob.length < 1073741824 := by omega
   have u1 : mu.length < 1073741824 := by omega
   have u2 : su.length < 1073741824 := by omega
   have u3 : bu.length < 1073741824 := by omega
   have u4 : ru.length < 1073741824 := by omega
   have u5 : ou.length < 1073741824 := by omega
   simp only [eG, go_sem, thq S, nbr S, zN0, zN1, zN2, zN3, zN4, zI0, zI1, zI2, zI3, reduceCtorEq, o9_47 S, c_exec_Do S, c_exec_Addr S, c_exec_Can S, c_exec_CanAddr S, c_r9_Code S, c_r9_Same S, c_r7_SameObs S, cD, cA, g0, g2, g3, g4, g5, h9, yi', hm, hR, hU, a1, a2, a3, a4, a5, u1, u2, u3, u4, u5, ha9, hu9, o_text', text_byt, b_neqT, Int.le_refl, w0, w1, Bool.not_true, Bool.not_false, ne_eq, hgt, hlast]
   rw [<- hK, loop_in (on S _ _ [3, 9, 12, 14, 15] (by decide) rfl) rfl _ _ _ _ _ _ _ _ _ rfl]
   simp only [eG, go_sem, thq S, nbr S, zN0, zN1, zN2, zN3, zN4, zI0, zI1, zI2, zI3, reduceCtorEq, o9_47 S]
   exact next
end
variable {E : Env} {fn : FuncId -> Option (Env -> CallT -> CallT)}
section
variable (S : Sur E fn)
include S
theorem o9_48 : E.lives 9 1 = none /\ E.lives 9 23 = none /\ E.lives 9 35 = none := ⟨off S 9 1 (by decide) rfl, off S 9 23 (by decide) rfl, off S 9 35 (by decide) rfl⟩
theorem raw_lawTells (ha : E.prim 25 = some trueG) (dp : Nat) (m l w : List Int) (raw : Int) : evC E fn (dp + 11) 9 [.d (rowD m), .d (rowD l), .d (rowD w), aint raw] [] = some (abool true, []) := by
 have hp := mk_fine m
 have hN := mk_cells m
 have hml := mk_ml m
 obtain ⟨s, s', hS, o1, o2⟩ := says_States S (dp + 5) (Md.make m) (mk_ms m) hml l
 obtain ⟨c, o, hW, hI⟩ := says_Walk S (dp + 2) (Md.make m) hp _ hN s (o1.inv hp) w
 have cS := fun (A : List Blk) (nb : Nat) => Says.deep hS (np S 27 (by decide)) A nb
 have cW := fun (A : List Blk) (nb : Nat) => Says.deep hW (np S 28 (by decide)) A nb
 simp only [progD, progC, stateD, stateC, confD, confC] at cS cW
 have hlen : c.buf.length <= 3 := by have := hI.buf; have := hp.win; omega
 obtain ⟨q1, q2, q3, q4, q5, _⟩ := inv_hyps hp hI hN ⟨0, 0⟩
 have b2 : c.buf.length < 1073741824 := by omega
 have b3 : c.state.mem.length < 1073741824 := by omega
 have b4 : c.state.stack.length < 1073741824 := by omega
 have b5 : c.rsb.length < 1073741824 := by omega
 have h9 : (ints9 c).length < 1073741824 := by have := ints9_len c; omega
 have go := fun (kx : Nat -> K) (D : Option (AV × List Blk)) hx => tells_body S dp (Md.make m) hp hml c hI hN raw kx D hx (c.buf.length + 3) 999999999999999999999999999999 (-1) (by omega) (by omega) (by omega)
 show evC E fn (dp + 10 + 1) 9 [.d (rowD m), .d (rowD l), .d (rowD w), aint raw] [] = _
 rw [evC_succ, S.f_w15_ExecTells, apF_some, F_w15_ExecTells, mkF_run _ _ _ _ _ _ _ _ rfl]
 simp only [eG, go_sem, thq S, nbr S, Nat.reduceLT, Nat.reduceEqDiff, Nat.reduceAdd, Nat.reduceMul, Nat.reduceLeDiff, Int.reduceEq, Int.reduceLT, Int.reduceLE, Int.reduceNeg, reduceCtorEq, o9_48 S, c_w6_Make S, cS, cW, c_r9_Code S, b2, b3, b4, b5, h9]
 rw [big_eq, loop_in (on S _ _ [3, 9, 12, 14, 15] (by decide) rfl) rfl _ _ _ _ _ _ _ _ _ rfl]
 simp only [eG, go_sem, thq S, nbr S, Nat.reduceLT, Nat.reduceEqDiff, Nat.reduceAdd, Nat.reduceMul, Nat.reduceLeDiff, Int.reduceEq, Int.reduceLT, Int.reduceLE, Int.reduceNeg, reduceCtorEq, o9_48 S]
 refine go _ _ ?_
 intro T
 simp only [eG, go_sem, thq S, nbr S, Nat.reduceLT, Nat.reduceEqDiff, Nat.reduceAdd, Nat.reduceMul, Nat.reduceLeDiff, Int.reduceEq, Int.reduceLT, Int.reduceLE, Int.reduceNeg, reduceCtorEq, o9_48 S, c_told ha]
end
end Go.Aug.Mc
