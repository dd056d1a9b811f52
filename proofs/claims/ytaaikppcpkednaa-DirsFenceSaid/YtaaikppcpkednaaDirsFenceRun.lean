/- The law DirsFence, run: eight cases by the kernel. -/
import Derived.Test.YtaaikppcpkednaaEvQ
import Derived.Test.YtaaikppcpkednaaEvV
import Derived.Test.YtaaikppcpkednaaRows
import Derived.KernelRfl
namespace Go.Proofs.Ytaaikppcpkednaa.dirsFence
open Go Go.Aug
set_option maxRecDepth 10000000

theorem hm : Try.prog.follows .mixedOrders = true := by kernel_rfl

/-- What the law's own test answers. -/
def trueG : List DV → Option (AV × List Blk)
  | [] => some (.d (.v (.bool true)), [])
  | _ => none

def prims : FuncId → Option (List DV → Option (AV × List Blk))
  | 108 => some (cloneG 8 48)
  | 124 => some (cloneG 1 8)
  | _ => none

def env1 : Env := { br := [120, 121, 134, 135], th := [108, 124, 95, 123], prim := prims, back := fun f => if f = 140 then some (8, true) else none }

theorem c108 : cFunc Try.prog 108 = some (cloneF 7 8 48 [.d (.v (.int .i64 0)), .d (.v (.int .i64 0)), .d (.v (.int .i64 0)), .d (.v (.int .i64 0)), .d (.v (.int .i64 0)), .d (.v (.bool false)), .d (.v (.bool false)), .d (.v (.bool false))]) := by kernel_rfl
theorem c124 : cFunc Try.prog 124 = some (cloneF 7 1 8 [.d (.v (.int .i64 0))]) := by kernel_rfl

theorem prims_ok : PrimOk Try.prog env1 := by
  intro f g h
  simp only [env1] at h
  unfold prims at h
  split at h
  · simp at h; subst h; exact clone_prim hm c108
  · simp at h; subst h; exact clone_prim hm c124
  · simp at h

theorem t38 : isT (evC env1 (cFunc Try.prog) 30 38 [] []) = true := by decide +kernel

def regsOf : Code → List (Nat × Array Oper)
  | .region i ops _ => [(i, ops)]
  | .seq a b => regsOf a ++ regsOf b
  | .cond _ a b => regsOf a ++ regsOf b
  | .block _ c => regsOf c
  | .loop c => regsOf c
  | _ => []
def blocksOf : Code → List Nat
  | .seq a b => blocksOf a ++ blocksOf b
  | .cond _ a b => blocksOf a ++ blocksOf b
  | .block i c => i :: blocksOf c
  | .loop c => blocksOf c
  | _ => []
def bodyOf (f : Func) : Code := f.body.getD .skip
def regN (f : Func) (n : Nat) : Nat × Array Oper := (regsOf (bodyOf f)).getD n (0, #[])
def blkN (f : Func) (n : Nat) : Nat := (blocksOf (bodyOf f)).getD n 0
def opN (f : Func) (n i : Nat) : Oper := (regN f n).2.toList.getD i default
def callOf (o : Oper) : Call := match o.op with | .call c => c | _ => default
theorem back140 : IsBack Try.prog 140 8 true where
  ent := ⟨Try.f140, by kernel_rfl, by kernel_rfl, by kernel_rfl⟩
  ex := ⟨Try.f140, (regN Try.f140 0).1, (regN Try.f140 1).1, (regN Try.f140 3).1, (regN Try.f140 2).1, blkN Try.f140 0, blkN Try.f140 1, (regN Try.f140 0).2, (regN Try.f140 1).2, (regN Try.f140 3).2, (regN Try.f140 2).2,
    (regN Try.f140 2).2.toList.take 6, opN Try.f140 2 6, opN Try.f140 2 7, callOf (opN Try.f140 2 6),
    by kernel_rfl, by kernel_rfl, by kernel_rfl, by kernel_rfl, by kernel_rfl, by kernel_rfl, by kernel_rfl, by kernel_rfl, by kernel_rfl, by kernel_rfl, by kernel_rfl, by kernel_rfl, by kernel_rfl, by kernel_rfl, by kernel_rfl, by kernel_rfl, by kernel_rfl, by kernel_rfl, by kernel_rfl, by kernel_rfl, by kernel_rfl⟩

theorem back1 : BackOk Try.prog env1 := by
  intro g s ag h
  simp only [env1] at h
  split at h
  · rename_i hg
    simp at h
    obtain ⟨rfl, rfl⟩ := h
    subst hg
    exact back140
  · simp at h

def prims2 (f : FuncId) : Option (List DV → Option (AV × List Blk)) := if f = 38 then some trueG else prims f
def env : Env := { env1 with prim := prims2 }
theorem envBack : BackOk Try.prog env := back1
theorem envPrim : PrimOk Try.prog env := by
  intro f g h
  simp only [env, prims2] at h
  split at h
  · rename_i hf
    simp at h; subst h; subst hf
    exact prim_true hm (fun _ _ h => h) prims_ok back1 ⟨Try.f38, by kernel_rfl, by kernel_rfl, by kernel_rfl⟩ t38
  · exact prims_ok f g h

def typs : List Typ := [.int .i64, .int .i64]
theorem typs_eq : typsOf Try.prog Try.f13.params.toList = some typs := by kernel_rfl

noncomputable def rest : Code := match Try.f13.body with
  | some (.seq _ (.seq _ r)) => r
  | _ => .skip
noncomputable def T : CT := (cCode Try.prog rest).getD cSkip
theorem code13 : cFunc Try.prog 13 = some (mkF 174 [.tmp 4] (cSeq (cOps [⟨(some 4), none, oMov (.c (.v (.bool false)))⟩]) (cSeq (cOps [⟨(some 23), none, oMov (.t 0)⟩, ⟨(some 24), none, oBin .and (.t 23) (.c (.v (.int .i64 1)))⟩, ⟨(some 25), none, oMov (.t 1)⟩, ⟨(some 26), none, oBin .and (.t 25) (.c (.v (.int .i64 3)))⟩, ⟨(some 0), none, oMov (.t 24)⟩, ⟨(some 1), none, oMov (.t 26)⟩]) T))) := by kernel_rfl

noncomputable def callE : CallT := evC env (cFunc Try.prog) 29
noncomputable def fin (a b m n : Int) : Bool := isT (T { env with live := env.lives 13, nb0 := 0 } callE (kEnd 0 [.tmp 4]) (fun _ _ _ => none) (kEnd 0 [.tmp 4])
  (mk aundef 174 [(0, aint m), (1, aint n), (4, abool false), (23, aint a), (24, aint m), (25, aint b), (26, aint n)]) [])

theorem fin00 (a b : Int) : fin a b 0 0 = true := by kernel_rfl
theorem fin01 (a b : Int) : fin a b 0 1 = true := by kernel_rfl
theorem fin02 (a b : Int) : fin a b 0 2 = true := by kernel_rfl
theorem fin03 (a b : Int) : fin a b 0 3 = true := by kernel_rfl
theorem fin10 (a b : Int) : fin a b 1 0 = true := by kernel_rfl
theorem fin11 (a b : Int) : fin a b 1 1 = true := by kernel_rfl
theorem fin12 (a b : Int) : fin a b 1 2 = true := by kernel_rfl
theorem fin13 (a b : Int) : fin a b 1 3 = true := by kernel_rfl

theorem evC_succ (E : Env) (fn : FuncId → Option (Env → CallT → CallT)) (n : Nat) (f : FuncId) (args : List AV) (A : List Blk) : evC E fn (n + 1) f args A = apF E (evC E fn n) f args A (fn f) := id rfl
theorem apF_some (E : Env) (call : CallT) (f : FuncId) (args : List AV) (A : List Blk) (F : Env → CallT → CallT) : apF E call f args A (some F) = F E call f args A := id rfl

theorem key (E : Env) (fn : FuncId → Option (Env → CallT → CallT)) (T : CT) (hF : fn 13 = some (mkF 174 [.tmp 4] (cSeq (cOps [⟨(some 4), none, oMov (.c (.v (.bool false)))⟩]) (cSeq (cOps [⟨(some 23), none, oMov (.t 0)⟩, ⟨(some 24), none, oBin .and (.t 23) (.c (.v (.int .i64 1)))⟩, ⟨(some 25), none, oMov (.t 1)⟩, ⟨(some 26), none, oBin .and (.t 25) (.c (.v (.int .i64 3)))⟩, ⟨(some 0), none, oMov (.t 24)⟩, ⟨(some 1), none, oMov (.t 26)⟩]) T)))) (k : Nat) (a b : Int) :
    ∃ m n : Nat, m < 2 ∧ n < 4 ∧ evC E fn (k + 1) 13 [.d (.v (.int .i64 a)), .d (.v (.int .i64 b))] [] = T { E with live := E.lives 13, nb0 := 0 } (evC E fn k) (kEnd 0 [.tmp 4]) (fun _ _ _ => none) (kEnd 0 [.tmp 4])
      (mk aundef 174 [(0, aint m), (1, aint n), (4, abool false), (23, aint a), (24, aint m), (25, aint b), (26, aint n)]) [] := by
  obtain ⟨m, hm, em⟩ := mask_of a 1 (by omega)
  obtain ⟨n, hn, en⟩ := mask_of b 2 (by omega)
  have e1 : evBin .and (.d (.v (.int .i64 a))) (.d (.v (.int .i64 1))) = some (aint m) := by
    show (evInt .and .i64 a 1).map (fun r => AV.d (.v r)) = _
    rw [show (1 : Int) = ((2 ^ 1 - 1 : Nat) : Int) from rfl, em]; rfl
  have e2 : evBin .and (.d (.v (.int .i64 b))) (.d (.v (.int .i64 3))) = some (aint n) := by
    show (evInt .and .i64 b 3).map (fun r => AV.d (.v r)) = _
    rw [show (3 : Int) = ((2 ^ 2 - 1 : Nat) : Int) from rfl, en]; rfl
  refine ⟨m, n, hm, hn, ?_⟩
  rw [evC_succ, hF, apF_some, mkF_run _ _ _ _ _ _ _ _ rfl]
  simp only [numb, e_seq, e_ops, e_ops0, o_mov, o_bin, e1, e2, o_one, e_made0, e_setS, setA_mk, putS, e_look, e_lookC, nthA_mk, getS, if_true, if_false, Nat.reduceLT, Nat.reduceEqDiff, Nat.zero_ne_one, Nat.one_ne_zero, Nat.reduceAdd, List.length_nil]

theorem fin_eq (a b m n : Int) : isT (T { env with live := env.lives 13, nb0 := 0 } (evC env (cFunc Try.prog) 29) (kEnd 0 [.tmp 4]) (fun _ _ _ => none) (kEnd 0 [.tmp 4])
  (mk aundef 174 [(0, aint m), (1, aint n), (4, abool false), (23, aint a), (24, aint m), (25, aint b), (26, aint n)]) []) = fin a b m n := rfl

theorem run (xs : List AV) (h : WA typs xs) : isT (evC env (cFunc Try.prog) 30 13 xs []) = true := by
  obtain ⟨a, ys, rfl, _, h⟩ := h.int_inv
  obtain ⟨b, ys, rfl, _, h⟩ := h.int_inv
  obtain rfl := h.nil_inv
  obtain ⟨m, n, hm, hn, e⟩ := key env (cFunc Try.prog) T code13 29 a b
  rw [e, fin_eq]
  have hm' : m = 0 ∨ m = 1 := by omega
  have hn' : n = 0 ∨ n = 1 ∨ n = 2 ∨ n = 3 := by omega
  rcases hm' with rfl | rfl <;> rcases hn' with rfl | rfl | rfl | rfl
  · exact fin00 a b
  · exact fin01 a b
  · exact fin02 a b
  · exact fin03 a b
  · exact fin10 a b
  · exact fin11 a b
  · exact fin12 a b
  · exact fin13 a b
end Go.Proofs.Ytaaikppcpkednaa.dirsFence
