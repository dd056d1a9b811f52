/- The law ExecFaults, run. -/
import Derived.Test.YtogckbgcldmaeaaMcEnv
namespace Go.Proofs.Ytogckbgcldmaeaa.execFaults
open Go Go.Aug
set_option maxRecDepth 10000000
theorem told : isT (evC mc.env1 (cFunc Try.prog) 30 25 [] []) = true := by decide +kernel
def env : Env := mc.env 25
theorem envBack : BackOk Try.prog env := mc.envBack _
theorem envPrim : PrimOk Try.prog env := mc.envPrim ⟨Try.f25, by kernel_rfl, by kernel_rfl, by kernel_rfl⟩ told
theorem sur : Mc.Sur env (cFunc Try.prog) := mc.sur _ rfl (by decide) (by decide)
def typs : List Typ := [.int .i64, .bool]
theorem typs_eq : typsOf Try.prog Try.f7.params.toList = some typs := by kernel_rfl
theorem run (xs : List AV) (h : WA typs xs) : isT (evC env (cFunc Try.prog) 30 7 xs []) = true := by
  obtain ⟨a, ys, rfl, ha, h1⟩ := h.int_inv
  obtain ⟨b, ys, rfl, h2⟩ := h1.bool_inv
  obtain rfl := h2.nil_inv
  exact congrArg isT (Mc.raw_lawFlt sur rfl 18 a b)
end Go.Proofs.Ytogckbgcldmaeaa.execFaults
