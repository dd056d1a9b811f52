import Derived.Test.YtogckbgcldmaeaaEvPc
import Derived.Test.YtogckbgcldmaeaaMc9
import Derived.Test.YtogckbgcldmaeaaMc16
namespace Go.Aug
open Go
set_option linter.unusedSimpArgs false
theorem o_callB (E : Env) (l : Nat -> Option (List Nat)) (m : Nat) (call : CallT) (tm : List AV) (A : List Blk) (nb : Nat) (g : FuncId) (args : List Opd) (h : memN g E.br = true) :
  oCall (.f g) args { br := E.br, th := E.th, prim := E.prim, back := E.back, lives := E.lives, live := l, nb0 := m } call tm A nb = brGo call g (args.map (look tm)) A (reach A 0 100000 ((args.map (look tm)).flatMap (refsOf 8)) []) := by
 show callA { br := E.br, th := E.th, prim := E.prim, back := E.back, lives := E.lives, live := l, nb0 := m } call A nb (some (g, args.map (look tm) ++ [])) = _
 rw [List.append_nil]
 show evCall { br := E.br, th := E.th, prim := E.prim, back := E.back, lives := E.lives, live := l, nb0 := m } call g (args.map (look tm)) A nb = _
 unfold evCall
 show (bif memN g E.br then _ else _) = _
 rw [h, cond_true]
theorem br_go (call : CallT) (f : FuncId) (args : List AV) (A : List Blk) (ids : List Nat) : brGo call f args A ids = brBack A ids (versOf A ids) (call f (args.map (ren A 0 ids 8)) (renH A 0 ids)) := id rfl
theorem br_back (A : List Blk) (ids vs : List Nat) (x : AV) (B : List Blk) : brBack A ids vs (some (x, B)) = bif Nat.ble ids.length B.length && brOk vs B then some (.turned (unr ids vs A.length 8 x) (putAll ids vs A.length A ids vs B ++ (B.drop ids.length).map (unrB ids vs A.length 0))) else none := id rfl
theorem br_backB (A : List Blk) (ids vs : List Nat) (b : Bool) (x y : Option (AV × List Blk)) : brBack A ids vs (bif b then x else y) = bif b then brBack A ids vs x else brBack A ids vs y := by cases b <;> rfl
def verO : Option Blk -> Nat
 | some (.cells _ v _) => v
 | _ => 0
theorem ver_some (cs : List AV) (v : Nat) (ro : Bool) : verO (some (.cells cs v ro)) = v := id rfl
theorem ver_nil (A : List Blk) : versOf A [] = [] := id rfl
theorem ver_cons (A : List Blk) (i : Nat) (l : List Nat) : versOf A (i :: l) = verO A[i]? :: versOf A l := by
 show (blkVer A i).getD 0 :: versOf A l = _
 unfold blkVer
 cases A[i]? with
 | none => rfl
 | some b => cases b <;> rfl
theorem ok_nil (B : List Blk) : brOk [] B = true := id rfl
theorem ok_cons (v : Nat) (vs : List Nat) (cs : List AV) (w : Nat) (ro : Bool) (bs : List Blk) : brOk (v :: vs) (.cells cs w ro :: bs) = brOk vs bs := id rfl
theorem un_d (ids vs : List Nat) (nb n : Nat) (y : DV) : unr ids vs nb (n + 1) (.d y) = .d y := id rfl
theorem un_agg (ids vs : List Nat) (nb n : Nat) (cs : List AV) : unr ids vs nb (n + 1) (.agg cs) = .agg (cs.map (unr ids vs nb n)) := id rfl
theorem un_tup (ids vs : List Nat) (nb n : Nat) (cs : List AV) : unr ids vs nb (n + 1) (.tup cs) = .tup (cs.map (unr ids vs nb n)) := id rfl
def unS (o len sz : Nat) (k : Option Nat) (v0 v nb : Nat) : Option Nat -> AV
 | some i => .sref i v0 o len sz k
 | none => .sref nb v o len sz k
theorem unS_some (o len sz : Nat) (k : Option Nat) (v0 v nb i : Nat) : unS o len sz k v0 v nb (some i) = .sref i v0 o len sz k := id rfl
theorem unS_none (o len sz : Nat) (k : Option Nat) (v0 v nb : Nat) : unS o len sz k v0 v nb none = .sref nb v o len sz k := id rfl
theorem un_sref (ids vs : List Nat) (nb n m v o len sz : Nat) (k : Option Nat) : unr ids vs nb (n + 1) (.sref m v o len sz k) = unS o len sz k (vs.getD m 0 + v) v (nb + (m - ids.length)) ids[m]? := by
 show (match ids[m]? with | some i => AV.sref i (vs.getD m 0 + v) o len sz k | none => .sref (nb + (m - ids.length)) v o len sz k) = _
 cases ids[m]? <;> rfl
theorem un_comp (ids vs : List Nat) (nb n : Nat) : (unr ids vs nb (n + 1)) ∘ AV.d = AV.d := rfl
theorem un_map (ids vs : List Nat) (nb n : Nat) (l : List DV) : (l.map AV.d).map (unr ids vs nb (n + 1)) = l.map AV.d := by rw [List.map_map, un_comp]
theorem unB_cells (ids vs : List Nat) (nb dv : Nat) (cs : List AV) (v : Nat) (ro : Bool) : unrB ids vs nb dv (.cells cs v ro) = .cells (cs.map (unr ids vs nb 8)) (dv + v) ro := id rfl
theorem put_nil (ids vs : List Nat) (nb : Nat) (A : List Blk) (us : List Nat) (bs : List Blk) : putAll ids vs nb A [] us bs = A := by cases us <;> cases bs <;> rfl
theorem put_cons (ids vs : List Nat) (nb : Nat) (A : List Blk) (i : Nat) (is : List Nat) (v : Nat) (us : List Nat) (b : Blk) (bs : List Blk) : putAll ids vs nb A (i :: is) (v :: us) (b :: bs) = putAll ids vs nb (A.set i (unrB ids vs nb v b)) is us bs := id rfl
theorem end_b (n0 : Nat) (x : AV) (A : List Blk) : endN n0 (some (x, A)) = some (ren A n0 (reach A n0 100000 (refsOf 8 x ++ (A.take n0).flatMap fun b => refsB (some b)) []) 8 x, renH A n0 (reach A n0 100000 (refsOf 8 x ++ (A.take n0).flatMap fun b => refsB (some b)) [])) := id rfl
def spN (n0 v : Nat) : Option Blk -> Option Nat -> Option (Nat × Nat)
 | some (.cells _ v' _), some m => if v' = v then some (n0 + m, 0) else none
 | some (.iter _ _), some m => if 0 = v then some (n0 + m, 0) else none
 | _, _ => none
theorem spN_some (n0 v v' : Nat) (cs : List AV) (ro : Bool) (m : Nat) : spN n0 v (some (.cells cs v' ro)) (some m) = if v' = v then some (n0 + m, 0) else none := id rfl
theorem beq_ite {α : Type} (a b : Nat) (x y : α) : (bif Nat.beq a b then x else y) = if a = b then x else y := by
 by_cases h : a = b
 ·subst h; simp
 ·have : Nat.beq a b = false := by
   cases hb : Nat.beq a b with
   | false => rfl
   | true => exact absurd (Nat.eq_of_beq_eq_true hb) h
  rw [this, if_neg h]; rfl
theorem sp_lt (A : List Blk) (n0 : Nat) (ids : List Nat) (i v : Nat) : spot A n0 ids i v = if i < n0 then some (i, v) else spN n0 v A[i]? (idx ids i) := by
 show (bif Nat.blt i n0 then _ else _) = _
 by_cases h : i < n0
 ·rw [show Nat.blt i n0 = true from Nat.ble_eq_true_of_le h, if_pos h]; rfl
 ·have hb : Nat.blt i n0 = false := by
   cases hq : Nat.blt i n0 with
   | false => rfl
   | true => exact absurd (Nat.le_of_ble_eq_true hq) h
  rw [hb, cond_false, if_neg h]
  unfold blkVer
  cases A[i]? with
  | none => rfl
  | some b =>
   cases b with
   | cells cs v' ro =>
    cases idx ids i with
    | none => rfl
    | some m => exact beq_ite _ _ _ _
   | iter s p =>
    cases idx ids i with
    | none => rfl
    | some m => exact beq_ite _ _ _ _
   | free => rfl
theorem rH_N (A : List Blk) (n0 : Nat) (ids : List Nat) : renH A n0 ids = (A.take n0).map (renB A n0 ids true) ++ ids.map fun i => renB A n0 ids false (A.getD i .free) := id rfl
theorem rB_cells (A : List Blk) (n0 : Nat) (ids : List Nat) (keep : Bool) (cs : List AV) (v : Nat) (ro : Bool) : renB A n0 ids keep (.cells cs v ro) = .cells (cs.map (ren A n0 ids 8)) (bif keep then v else 0) ro := id rfl
theorem sw_t (len s nb : Nat) (cs : List AV) : mkSW true len s nb (some cs) = mkSD len s nb cs (deepL cs) := id rfl
theorem sw_s (len s nb : Nat) (cs : List AV) (ds : List DV) : mkSD len s nb cs (some ds) = some (.made (.d (.lst ds len (some len))) []) := id rfl
theorem dl_nil : deepL [] = some [] := id rfl
theorem dl_cons (x : DV) (l : List AV) : deepL (.d x :: l) = (deepL l).map (x :: ·) := id rfl
section
variable {l : List Ent} {k : Nat} {e : Ent}
theorem get_set (h : k < l.length) : (l.set k e)[k]? = some e := by rw [List.getElem?_set_self h]
theorem drop_set (h : k < l.length) (j : Nat) (hj : j <= 8) : ((rowC (l.set k e)).map AV.d).drop (k * 8 + j) = ((Cl.cells e).map AV.d).drop j ++ ((rowC (l.drop (k + 1))).map AV.d) := by
 have e2 : l.set k e = l.take k ++ e :: l.drop (k + 1) := List.set_eq_take_append_cons_drop.trans (if_pos h)
 have e3 : rowC (l.set k e) = rowC (l.take k) ++ (Cl.cells e ++ rowC (l.drop (k + 1))) := by rw [e2, rowC_app]; rfl
 have hl : (rowC (l.take k)).length = k * 8 := by rw [rowC_len, List.length_take, Nat.min_eq_left (by omega)]; rfl
 have hl' : ((rowC (l.take k)).map AV.d).length = k * 8 := by rw [List.length_map, hl]
 rw [e3]
 simp only [List.map_append]
 rw [<- hl', <- List.drop_drop, List.drop_left, List.drop_append_of_le_length (by simpa [cl_ent] using hj)]
section
variable (h : k < l.length)
include h
theorem ld0 : takeVar false 1 (((rowC (l.set k e)).map AV.d).drop (k * 8)) = some (.d (vi e.pc)) := by
 have := drop_set (e := e) h 0 (by decide)
 rw [Nat.add_zero] at this; rw [this]; rfl
theorem ld2 : takeVar false 1 (((rowC (l.set k e)).map AV.d).drop (k * 8 + 2)) = some (.d (vi e.addr)) := by rw [drop_set h 2 (by decide)]; rfl
theorem ld4 : takeVar false 1 (((rowC (l.set k e)).map AV.d).drop (k * 8 + 4)) = some (.d (vi e.next)) := by rw [drop_set h 4 (by decide)]; rfl
theorem wr (i v o : Nat) (A : List Blk) (e' : Ent) (x : DV) (h1 : AV.one (.d x) = true) (ho : o < 8) (hs : splice (Cl.cells e) o [x] = Cl.cells e') :
  storeAt A i v (k * 8 + o) [.d x] 1 (some (.cells ((rowC (l.set k e)).map .d) v false)) = some (A.set i (.cells ((rowC (l.set k e')).map .d) v false)) := by
 have := st_row (A := A) (i := i) (v := v) (o := o) (n := 1) (e' := e') (xs := [.d x]) [x] (get_set (e := e) h) rfl rfl (by simp [h1]) hs (by simp; exact ho) 8 rfl (k * 8 + o) rfl
 rw [this, List.set_set]
theorem wr1 (i v : Nat) (A : List Blk) (n : Int) : storeAt A i v (k * 8 + 1) [.d (vi n)] 1 (some (.cells ((rowC (l.set k e)).map .d) v false)) = some (A.set i (.cells ((rowC (l.set k { e with val := n })).map .d) v false)) := wr h i v 1 A _ _ rfl (by decide) rfl
theorem wr2 (i v : Nat) (A : List Blk) (n : Int) : storeAt A i v (k * 8 + 2) [.d (vi n)] 1 (some (.cells ((rowC (l.set k e)).map .d) v false)) = some (A.set i (.cells ((rowC (l.set k { e with addr := n })).map .d) v false)) := wr h i v 2 A _ _ rfl (by decide) rfl
theorem wr3 (i v : Nat) (A : List Blk) (n : Int) : storeAt A i v (k * 8 + 3) [.d (vi n)] 1 (some (.cells ((rowC (l.set k e)).map .d) v false)) = some (A.set i (.cells ((rowC (l.set k { e with frm := n })).map .d) v false)) := wr h i v 3 A _ _ rfl (by decide) rfl
theorem wr4 (i v : Nat) (A : List Blk) (n : Int) : storeAt A i v (k * 8 + 4) [.d (vi n)] 1 (some (.cells ((rowC (l.set k e)).map .d) v false)) = some (A.set i (.cells ((rowC (l.set k { e with next := n })).map .d) v false)) := wr h i v 4 A _ _ rfl (by decide) rfl
theorem wr6 (i v : Nat) (A : List Blk) (b : Bool) : storeAt A i v (k * 8 + 6) [.d (vb b)] 1 (some (.cells ((rowC (l.set k e)).map .d) v false)) = some (A.set i (.cells ((rowC (l.set k { e with known := b })).map .d) v false)) := wr h i v 6 A _ _ rfl (by decide) rfl
theorem wr7 (i v : Nat) (A : List Blk) (b : Bool) : storeAt A i v (k * 8 + 7) [.d (vb b)] 1 (some (.cells ((rowC (l.set k e)).map .d) v false)) = some (A.set i (.cells ((rowC (l.set k { e with fault := b })).map .d) v false)) := wr h i v 7 A _ _ rfl (by decide) rfl
end
theorem dp_len (n : Nat) (hn : n <= l.length) : n * 8 <= ((rowC l).map AV.d).length := by
 rw [List.length_map, rowC_len]; exact Nat.mul_le_mul_right _ hn
theorem dp_take (A : List Blk) (m n : Nat) : mapD (deep A (m + 1)) (((rowC l).map AV.d).take (n * 8)) = some (rowC (l.take n), []) := by
 rw [<- List.map_take, show n * 8 = n * Cl.n Ent from rfl, rowC_take, mapD_dd]
theorem w_foldS : DV.lst (rowC (l.set k e)) l.length none = rowD (l.set k e) := by
 unfold rowD; rw [List.length_set]
theorem take_all (n : Nat) (hn : n = l.length) : (l.set k e).take n = l.set k e := List.take_of_length_le (by rw [List.length_set]; omega)
end
end Go.Aug
namespace Go.Aug.Mc
open Go Go.Aug
set_option linter.unusedSimpArgs false
set_option linter.unusedVariables false
set_option maxHeartbeats 40000000
variable {E : Env} {fn : FuncId -> Option (Env -> CallT -> CallT)}
section
variable (S : Sur E fn)
include S
theorem o84_29 : E.lives 84 7 = none := off S 84 7 (by decide) rfl
theorem goes_go (dp : Nat) (l : List Ent) (e : Ent) (i to r0 r1 r2 r3 pc en : Int) (mm sk rb : List Int) (h0 : 0 <= i) (h1 : i.toNat < l.length) (hl : l.length < 1073741824) :
  evC E fn (dp + 1) 84 [.agg [.d (vi r0), .d (vi r1), .d (vi r2), .d (vi r3), .d (rowD mm), .d (rowD sk), .d (vi pc), .sref 0 0 0 l.length 8 none, .d (rowD rb), .d (vi en)], .d (vi i), .d (vi to)] [.cells ((rowC (l.set i.toNat e)).map .d) 0 false] =
  bif decide (e.next = to) then some (.tup [.agg [.d (vi r0), .d (vi r1), .d (vi r2), .d (vi r3), .d (rowD mm), .d (rowD sk), .d (vi pc), .sref 0 0 0 l.length 8 none, .d (rowD rb), .d (vi en)], .d (.lst [vi 3, vi to] 1 (some 1))], [.cells ((rowC (l.set i.toNat e)).map .d) 0 false])
  else some (.tup [.agg [.d (vi r0), .d (vi r1), .d (vi r2), .d (vi r3), .d (rowD mm), .d (rowD sk), .d (vi to), .sref 0 0 0 (i.toNat + 1) 8 none, .d (rowD rb), .d (vi en)], .d (.lst [vi 3, vi to] 1 (some 1))], [.cells ((rowC (l.set i.toNat { e with next := to })).map .d) 0 false]) := by
 have hi : i < l.length := by omega
 have w1 : IntKind.i64.wrap (i + 1) = i + 1 := wrap_i64 (by omega) (by omega)
 have bd := bndsV_hi l.length .i64 (i + 1) (by omega) (by omega)
 have t1 : (i + 1).toNat = i.toNat + 1 := by omega
 rw [evC_succ, S.f_r9_goes, apF_some, F_r9_goes, mkF_run _ _ _ _ _ _ _ _ rfl]
 by_cases h : e.next = to
 ·simp only [go_sem, thq S, nbr S, Nat.reduceLT, Nat.reduceEqDiff, Nat.reduceAdd, Nat.reduceMul, Nat.reduceLeDiff, Int.reduceEq, Int.reduceLT, Int.reduceLE, Int.reduceNeg, reduceCtorEq, o84_29 S, end_b, sp_lt, spN_some, rH_N, rB_cells, List.take_succ_cons, List.take_zero, sw_t, sw_s, dl_nil, dl_cons, rep1', Option.map_some, h0, hi, ld4 h1, h, Bool.not_true, Nat.zero_add]
 ·simp only [go_sem, thq S, nbr S, Nat.reduceLT, Nat.reduceEqDiff, Nat.reduceAdd, Nat.reduceMul, Nat.reduceLeDiff, Int.reduceEq, Int.reduceLT, Int.reduceLE, Int.reduceNeg, reduceCtorEq, o84_29 S, end_b, sp_lt, spN_some, rH_N, rB_cells, List.take_succ_cons, List.take_zero, sw_t, sw_s, dl_nil, dl_cons, rep1', Option.map_some, h0, hi, ld4 h1, h, Bool.not_false, Nat.zero_add, wr4 h1, w1, bd, t1, Nat.zero_mul, Nat.add_zero, Nat.sub_zero, Option.map_none, ne_eq, not_true_eq_false, and_false]
end
open Nat renaming reduceLT -> zN0, reduceEqDiff -> zN1, reduceAdd -> zN2, reduceMul -> zN3, reduceLeDiff -> zN4
open Int renaming reduceEq -> zI0, reduceLT -> zI1, reduceLE -> zI2, reduceNeg -> zI3
def OwnO (Z : Option (AV × List Blk)) : Option (List Int) -> Prop
 | none => Z = some (.tup [.d (.lst [] 0 (some 0)), abool false], [])
 | some out => ∃ junk k, Z = some (.tup [.sref 0 0 0 out.length 1 k, abool true], [.cells ((rowC (out ++ junk)).map .d) 0 false])
theorem own_none (Z : Option (AV × List Blk)) : OwnO Z none = (Z = some (.tup [.d (.lst [] 0 (some 0)), abool false], [])) := id rfl
theorem own_some {Z : Option (AV × List Blk)} {out : List Int} (junk : List Int) (k : Option Nat) (h : Z = some (.tup [.sref 0 0 0 out.length 1 k, abool true], [.cells ((rowC (out ++ junk)).map .d) 0 false])) : OwnO Z (some out) := ⟨junk, k, h⟩
theorem end_own {i : Nat} {out junk : List Int} {k : Option Nat} {A : List Blk} {b : Bool} (hA : A[i]? = some (.cells ((rowC (out ++ junk)).map .d) 0 false)) :
  endN 0 (some (.tup [.sref i 0 0 out.length 1 k, abool b], A)) = some (.tup [.sref 0 0 0 out.length 1 k, abool b], [.cells ((rowC (out ++ junk)).map .d) 0 false]) := by
 have hi : ¬ A.length <= i := by
  intro h; rw [List.getElem?_eq_none h] at hA; cases hA
 simp only [eG, go_sem, f_reach, hA, hi, List.not_mem_nil, false_or, or_false, Nat.not_lt_zero, if_false]
variable {E : Env} {fn : FuncId -> Option (Env -> CallT -> CallT)}
section
variable (S : Sur E fn)
include S
theorem o56_31 : E.lives 56 1 = none /\ E.lives 56 17 = none /\ E.lives 56 19 = none /\ E.lives 56 25 = none /\ E.lives 56 27 = none := ⟨off S 56 1 (by decide) rfl, off S 56 17 (by decide) rfl, off S 56 19 (by decide) rfl, off S 56 25 (by decide) rfl, off S 56 27 (by decide) rfl⟩
theorem loop_rOwn (dp : Nat) (p : Prog) (l : List Ent) (i : Int) (hl : l.length < 1073741824) (kx : Nat -> K)
  (hx : ∀ T out junk k, getS .bot T 10 = .sref 1 0 0 (out : List Int).length 1 k -> OwnO (kx 0 (mk .bot 59 T) [.cells ((progC p).map .d) 0 false, .cells ((rowC (out ++ junk)).map .d) 0 false]) (some out)) :
  ∀ (m k fuel : Nat) (out junk : List Int) (q : Option Nat), k + m = (Md.cut l i).length -> m <= fuel -> out.length < 1073741824 -> (q = none ∨ q = some 0 /\ out = [] /\ junk = []) -> OwnO (B8_r9_Real (inn E 56) (evC E fn (dp + 1)) (loopK 8 B8_r9_Real (inn E 56) (evC E fn (dp + 1)) kx (kEnd 0 [.tmp 8, .tmp 9]) fuel) kx (kEnd 0 [.tmp 8, .tmp 9])
   (mk .bot 59 [(2, .d (rowD l)), (3, aint i), (4, .ref 0 0 0), (10, .sref 1 0 0 out.length 1 q), (11, aint k)]) [.cells ((progC p).map .d) 0 false, .cells ((rowC (out ++ junk)).map .d) 0 false])
   (Md.realGo p ((Md.cut l i).drop k) out) := by
 intro m
 have hcl : (Md.cut l i).length = min i.toNat l.length := by simp [Md.cut]
 induction m with
 | zero =>
  intro k fuel out junk q hk _ ho hq
  generalize loopK 8 B8_r9_Real _ _ kx _ fuel = KK
  rw [B8_r9_Real, List.drop_of_length_le (by omega)]
  by_cases h1 : (k : Int) < i
  ·simp only [eG, go_sem, thq S, nbr S, zN0, zN1, zN2, zN3, zN4, zI0, zI1, zI2, zI3, reduceCtorEq, o56_31 S, h1, show ¬ (k : Int) < l.length by omega, Md.realGo]
   exact hx _ _ _ q rfl
  ·simp only [eG, go_sem, thq S, nbr S, zN0, zN1, zN2, zN3, zN4, zI0, zI1, zI2, zI3, reduceCtorEq, o56_31 S, h1, Md.realGo]
   exact hx _ _ _ q rfl
 | succ m ih =>
  intro k fuel out junk q hk hf ho hq
  obtain ⟨e, he⟩ := get_of (show k < l.length by omega)
  have hc : (Md.cut l i)[k]? = some e := by unfold Md.cut; rw [List.getElem?_take, if_pos (by omega), he]
  obtain ⟨fuel, rfl⟩ : ∃ m, fuel = m + 1 := ⟨fuel - 1, by omega⟩
  generalize hK : loopK 8 B8_r9_Real _ _ kx _ (fuel + 1) = KK
  rw [B8_r9_Real, drop_get hc, Md.realGo]
  have h1 : (k : Int) < i := by omega
  have h2 : (k : Int) < l.length := by omega
  by_cases k8 : (Md.at_ p e.pc).kind = 8
  ·by_cases h4 : 4 <= out.length
   ·simp only [eG, go_sem, thq S, nbr S, zN0, zN1, zN2, zN3, zN4, zI0, zI1, zI2, zI3, reduceCtorEq, o56_31 S, w_ix he, cA7 S, wi k (by omega), h1, h2, ge_iff_le, k8, h4, show (4 : Int) <= out.length by omega, own_none]
   ·have l1 : (out.length + 1) * 8 <= limA := by unfold limA; omega
    have l2 : out.length + 1 <= limA := by unfold limA; omega
    rcases hq with rfl | ⟨rfl, rfl, rfl⟩
    ·cases junk with
     | nil =>
      simp only [List.append_nil]
      simp only [eG, go_sem, thq S, nbr S, zN0, zN1, zN2, zN3, zN4, zI0, zI1, zI2, zI3, reduceCtorEq, o56_31 S, w_ix he, cA7 S, wi k (by omega), h1, h2, ge_iff_le, k8, h4, show ¬ (4 : Int) <= out.length by omega, rep1', app_endI, l1, l2]
      rw [<- hK, loop_in (on S _ _ [2, 3, 4, 10, 11] (by decide) rfl) rfl _ _ _ _ _ _ _ _ _ rfl]
      simp only [eG, go_sem, thq S, nbr S, zN0, zN1, zN2, zN3, zN4, zI0, zI1, zI2, zI3, reduceCtorEq, o56_31 S, w_ix he, cA7 S, wi k (by omega), h1, h2, ge_iff_le]
      have e1 : out.length + 1 = (out ++ [Md.w64 (e.pc + 1)]).length := by simp
      have := ih (k + 1) fuel (out ++ [Md.w64 (e.pc + 1)]) [] none (by omega) (by omega) (by simp; omega) (.inl rfl)
      rw [<- e1, List.append_nil] at this
      exact this
     | cons y junk =>
      simp only [eG, go_sem, thq S, nbr S, zN0, zN1, zN2, zN3, zN4, zI0, zI1, zI2, zI3, reduceCtorEq, o56_31 S, w_ix he, cA7 S, wi k (by omega), h1, h2, ge_iff_le, k8, h4, show ¬ (4 : Int) <= out.length by omega, rep1', app_inI (y := y) (junk := junk), l1, l2]
      rw [<- hK, loop_in (on S _ _ [2, 3, 4, 10, 11] (by decide) rfl) rfl _ _ _ _ _ _ _ _ _ rfl]
      simp only [eG, go_sem, thq S, nbr S, zN0, zN1, zN2, zN3, zN4, zI0, zI1, zI2, zI3, reduceCtorEq, o56_31 S, w_ix he, cA7 S, wi k (by omega), h1, h2, ge_iff_le]
      have e1 : out.length + 1 = (out ++ [Md.w64 (e.pc + 1)]).length := by simp
      have := ih (k + 1) fuel (out ++ [Md.w64 (e.pc + 1)]) junk none (by omega) (by omega) (by simp; omega) (.inl rfl)
      rw [<- e1, List.append_assoc] at this
      exact this
    ·simp only [eG, go_sem, thq S, nbr S, zN0, zN1, zN2, zN3, zN4, zI0, zI1, zI2, zI3, reduceCtorEq, o56_31 S, w_ix he, cA7 S, wi k (by omega), h1, h2, ge_iff_le, k8, List.length_nil, show ¬ (4 : Int) <= (0 : Nat) by omega, rep1', app_zero (cs := []), Nat.succ_ne_zero, show (1 : Nat) * 8 <= limA by decide, show (1 : Nat) <= limA by decide, ne_eq, not_false_eq_true]
     rw [<- hK, loop_in (on S _ _ [2, 3, 4, 10, 11] (by decide) rfl) rfl _ _ _ _ _ _ _ _ _ rfl]
     simp only [eG, go_sem, thq S, nbr S, zN0, zN1, zN2, zN3, zN4, zI0, zI1, zI2, zI3, reduceCtorEq, o56_31 S, w_ix he, cA7 S, wi k (by omega), h1, h2, ge_iff_le]
     exact ih (k + 1) fuel [Md.w64 (e.pc + 1)] [] none (by omega) (by omega) (by simp) (.inl rfl)
  ·by_cases k9 : (Md.at_ p e.pc).kind = 9
   ·cases hr : out.reverse with
    | nil =>
     have : out = [] := List.reverse_eq_nil_iff.1 hr
     subst this
     simp only [eG, go_sem, thq S, nbr S, zN0, zN1, zN2, zN3, zN4, zI0, zI1, zI2, zI3, reduceCtorEq, o56_31 S, w_ix he, cA7 S, wi k (by omega), h1, h2, ge_iff_le, k8, k9, List.length_nil, own_none, zI0, Int.natCast_eq_zero]
    | cons y r =>
     have e0 : out = r.reverse ++ [y] := by rw [<- List.reverse_reverse out, hr, List.reverse_cons]
     subst e0
     have e1 : (r.reverse ++ [y]).dropLast = r.reverse := List.dropLast_concat
     have e2 : (r.reverse ++ [y]).length = r.reverse.length + 1 := by simp
     rcases hq with rfl | ⟨_, h, _⟩
     ·have w1 : IntKind.i64.wrap (((r.reverse.length + 1 : Nat) : Int) - 1) = (r.reverse.length : Int) := by rw [e2] at ho; rw [wrap_i64 (by omega) (by omega)]; omega
      have bd := bndsV_hi (r.reverse.length + 1) .i64 (r.reverse.length : Int) (by omega) (by omega)
      rw [e2, e1]
      simp only [eG, go_sem, thq S, nbr S, zN0, zN1, zN2, zN3, zN4, zI0, zI1, zI2, zI3, reduceCtorEq, o56_31 S, w_ix he, cA7 S, wi k (by omega), h1, h2, ge_iff_le, k8, k9, w1, bd, Int.toNat_natCast, Nat.succ_ne_zero, Int.natCast_eq_zero, ne_eq, not_true_eq_false, and_false, Nat.zero_mul, Nat.sub_zero, Nat.add_zero, Nat.zero_add]
      rw [<- hK, loop_in (on S _ _ [2, 3, 4, 10, 11] (by decide) rfl) rfl _ _ _ _ _ _ _ _ _ rfl]
      simp only [eG, go_sem, thq S, nbr S, zN0, zN1, zN2, zN3, zN4, zI0, zI1, zI2, zI3, reduceCtorEq, o56_31 S, w_ix he, cA7 S, wi k (by omega), h1, h2, ge_iff_le]
      have := ih (k + 1) fuel r.reverse ([y] ++ junk) none (by omega) (by omega) (by omega) (.inl rfl)
      rw [<- List.append_assoc] at this
      exact this
     ·simp at h
   ·simp only [eG, go_sem, thq S, nbr S, zN0, zN1, zN2, zN3, zN4, zI0, zI1, zI2, zI3, reduceCtorEq, o56_31 S, w_ix he, cA7 S, wi k (by omega), h1, h2, ge_iff_le, k8, k9]
    rw [<- hK, loop_in (on S _ _ [2, 3, 4, 10, 11] (by decide) rfl) rfl _ _ _ _ _ _ _ _ _ rfl]
    simp only [eG, go_sem, thq S, nbr S, zN0, zN1, zN2, zN3, zN4, zI0, zI1, zI2, zI3, reduceCtorEq, o56_31 S, w_ix he, cA7 S, wi k (by omega), h1, h2, ge_iff_le]
    exact ih (k + 1) fuel out junk q (by omega) (by omega) ho hq
theorem own_Real (dp : Nat) (p : Prog) (sk : List Int) (l : List Ent) (i : Int) (hl : l.length < 1073741824) (hs : sk.length < 1073741824) :
  OwnO (evC E fn (dp + 2) 56 [.d (progD p), .d (rowD sk), .d (rowD l), aint i] []) (Md.real p sk l i) := by
 rw [evC_succ, S.f_r9_Real, apF_some, F_r9_Real, mkF_run _ _ _ _ _ _ _ _ rfl]
 by_cases h0 : sk.length = 0
 ·have : sk = [] := List.length_eq_zero_iff.1 h0
  subst this
  simp only [eG, go_sem, thq S, nbr S, zN0, zN1, zN2, zN3, zN4, zI0, zI1, zI2, zI3, reduceCtorEq, o56_31 S, rep0']
  rw [big_eq, loop_in (on S _ _ [2, 3, 4, 10, 11] (by decide) rfl) rfl _ _ _ _ _ _ _ _ _ rfl]
  simp only [eG, go_sem, thq S, nbr S, zN0, zN1, zN2, zN3, zN4, zI0, zI1, zI2, zI3, reduceCtorEq, o56_31 S]
  refine loop_rOwn S dp p l i hl _ ?_ (Md.cut l i).length 0 _ [] [] (some 0) (by omega) (by have := cut_len l i; omega) (by simp) (.inr ⟨rfl, rfl, rfl⟩)
  intro T out junk k h
  refine own_some junk k ?_
  simp only [go_sem, thq S, nbr S, zN0, zN1, zN2, zN3, zN4, zI0, zI1, zI2, zI3, reduceCtorEq, o56_31 S, h]
  exact end_own rfl
 ·have l1 : sk.length * 8 <= limA := by unfold limA; omega
  have l2 : sk.length <= limA := by unfold limA; omega
  have l3 : (((rowC sk).map AV.d).all AV.one) = true := one_row _
  simp only [eG, go_sem, thq S, nbr S, zN0, zN1, zN2, zN3, zN4, zI0, zI1, zI2, zI3, reduceCtorEq, o56_31 S, rep0', app_zero (cs := []), l1, l2, l3, ne_eq, h0, not_false_eq_true]
  rw [big_eq, loop_in (on S _ _ [2, 3, 4, 10, 11] (by decide) rfl) rfl _ _ _ _ _ _ _ _ _ rfl]
  simp only [eG, go_sem, thq S, nbr S, zN0, zN1, zN2, zN3, zN4, zI0, zI1, zI2, zI3, reduceCtorEq, o56_31 S]
  have := loop_rOwn S dp p l i hl (blockK 0 (cQ (cOz [st 58 (oV (.t 10)), st 8 (oV (.t 58)), st 9 (oV (.c (.v (.bool true))))]) cRet (inn E 56) (evC E fn (dp + 1)) (kEnd 0 [.tmp 8, .tmp 9]) (fun _ _ _ => none) (kEnd 0 [.tmp 8, .tmp 9])) (fun _ _ _ => none)) ?_ (Md.cut l i).length 0 999999999999999999999999999999 sk [] none (by omega) (by have := cut_len l i; omega) hs (.inl rfl)
  ·rw [List.append_nil] at this
   exact this
  intro T out junk k h
  refine own_some junk k ?_
  simp only [go_sem, thq S, nbr S, zN0, zN1, zN2, zN3, zN4, zI0, zI1, zI2, zI3, reduceCtorEq, o56_31 S, h]
  exact end_own rfl
theorem o_Real_none (dp : Nat) (p : Prog) (sk : List Int) (l : List Ent) (i : Int) (hl : l.length < 1073741824) (hs : sk.length < 1073741824) (h : Md.real p sk l i = none) (A : List Blk) (nb : Nat) (us : List Nat) :
  evOwnK true E (evC E fn (dp + 2)) 56 A nb (some ([progD p, rowD sk, rowD l, vi i], us)) = some (.made (.tup [.d (.lst [] 0 (some 0)), abool false]) []) := by
 have h1 := own_Real S dp p sk l i hl hs
 rw [h, own_none] at h1
 have hr : evRaw E (evC E fn (dp + 2)) 56 [progD p, rowD sk, rowD l, vi i] = some (.tup [.d (.lst [] 0 (some 0)), abool false], []) := by
  unfold evRaw
  rw [np S 56 (by decide)]
  exact h1
 simp only [evOwnK, hr, evAnsB, cond_true]
 show thawed A us (some (.tup [.d (.lst [] 0 (some 0)), abool false], [], [])) = _
 show (bif isEmptyL us || true then _ else _) = _
 rw [Bool.or_true]; rfl
theorem o_Real_some (dp : Nat) (p : Prog) (sk : List Int) (l : List Ent) (i : Int) (hl : l.length < 1073741824) (hs : sk.length < 1073741824) (r : List Int) (h : Md.real p sk l i = some r) :
  ∃ junk k, ∀ (A : List Blk) (nb : Nat) (us : List Nat), evOwnK true E (evC E fn (dp + 2)) 56 A nb (some ([progD p, rowD sk, rowD l, vi i], us)) = some (.made (.tup [.sref nb 0 0 r.length 1 k, abool true]) [.cells ((rowC (r ++ junk)).map .d) 0 false]) := by
 have h1 := own_Real S dp p sk l i hl hs
 rw [h] at h1
 obtain ⟨junk, k, h1⟩ := h1
 refine ⟨junk, k, fun A nb us => ?_⟩
 have hr : evRaw E (evC E fn (dp + 2)) 56 [progD p, rowD sk, rowD l, vi i] = some (.tup [.sref 0 0 0 r.length 1 k, abool true], [.cells ((rowC (r ++ junk)).map .d) 0 false]) := by
  unfold evRaw
  rw [np S 56 (by decide)]
  exact h1
 simp only [evOwnK, hr, evAnsB, cond_true]
 have ht : thaw [.cells ((rowC (r ++ junk)).map .d) 0 false] nb 6 (.tup [.sref 0 0 0 r.length 1 k, abool true]) [] [] = some (.tup [.sref nb 0 0 r.length 1 k, abool true], [.cells ((rowC (r ++ junk)).map .d) 0 false], [0]) := by
  simp [thaw, mapT, memN]
 rw [ht]
 have hf : flatBs [.cells ((rowC (r ++ junk)).map .d) 0 false] = true := by
  show (((rowC (r ++ junk)).map AV.d).all _ && true) = true
  rw [Bool.and_true, List.all_map]
  exact rowC_flat (r ++ junk)
 show (bif isEmptyL us || (true && flatBs [.cells ((rowC (r ++ junk)).map .d) 0 false]) then _ else _) = _
 rw [hf, Bool.and_true, Bool.or_true]
 rfl
end
end Go.Aug.Mc
