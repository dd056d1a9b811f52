/- The law BounGrows, run. -/
import Derived.Test.YtogckbgcldmaeaaBw
import Derived.Test.YtogckbgcldmaeaaEvQ
import Derived.Test.YtogckbgcldmaeaaRows
import Derived.KernelRfl
namespace Go.Proofs.Ytogckbgcldmaeaa.bounGrows
open Go Go.Aug
set_option maxRecDepth 10000000
theorem hm : Try.prog.follows .mixedOrders = true := by kernel_rfl
def env0 : Env := { br := [], th := [], prim := fun _ => none, back := fun _ => none, lives := Bn.tbl }
theorem prim0 : PrimOk Try.prog env0 := fun f g h => by simp [env0] at h
theorem back0 : BackOk Try.prog env0 := fun g s ag h => by simp [env0] at h
theorem t16 : isT (evC env0 (cFunc Try.prog) 30 16 [] []) = true := by decide +kernel
def env : Env := { env0 with prim := fun f => if f = 16 then some (fun ds => match ds with | [] => some (.d (.v (.bool true)), []) | _ => none) else none }
theorem envBack : BackOk Try.prog env := back0
theorem envPrim : PrimOk Try.prog env := by
  intro f g h
  simp only [env] at h
  split at h
  · rename_i hf
    simp at h; subst h; subst hf
    exact prim_true hm (fun _ _ h => h) prim0 back0 ⟨Try.f16, by kernel_rfl, by kernel_rfl, by kernel_rfl⟩ t16
  · simp at h
theorem sur : Bn.Sur env (cFunc Try.prog) where
  lives := rfl
  f_augurylaw24_BounGrows := by kernel_rfl
  f_augurylaw24_BounGrows_1 := by kernel_rfl
  f_boun_Confs := by kernel_rfl
  f_boun_Pairs := by kernel_rfl
  f_word_Size := by kernel_rfl
  f_boun_times := by kernel_rfl
  f_boun_power := by kernel_rfl
  f_arch_Cells := by kernel_rfl
  f_word_Ok := by kernel_rfl
  br := rfl
  th := rfl
  pr := rfl
def typs : List Typ := [.int .i64, .int .i64, .int .i64, .int .i64, .int .i64]
theorem typs_eq : typsOf Try.prog Try.f3.params.toList = some typs := by kernel_rfl
theorem run (xs : List AV) (h : WA typs xs) : isT (evC env (cFunc Try.prog) 30 3 xs []) = true := by
  obtain ⟨a, ys, rfl, _, h⟩ := h.int_inv
  obtain ⟨b, ys, rfl, _, h⟩ := h.int_inv
  obtain ⟨c, ys, rfl, _, h⟩ := h.int_inv
  obtain ⟨d, ys, rfl, _, h⟩ := h.int_inv
  obtain ⟨e, ys, rfl, _, h⟩ := h.int_inv
  obtain rfl := h.nil_inv
  rw [show evC env (cFunc Try.prog) 30 3 [.d (.v (.int .i64 a)), .d (.v (.int .i64 b)), .d (.v (.int .i64 c)), .d (.v (.int .i64 d)), .d (.v (.int .i64 e))] [] = some (abool true, []) from Bn.raw_law sur 23 a b c d e]
  rfl
end Go.Proofs.Ytogckbgcldmaeaa.bounGrows
