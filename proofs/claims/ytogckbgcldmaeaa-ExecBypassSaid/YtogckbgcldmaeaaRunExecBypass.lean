/- The law ExecBypass, run. -/
import Derived.Test.YtogckbgcldmaeaaMcEnv
namespace Go.Proofs.Ytogckbgcldmaeaa.execBypass
open Go Go.Aug
set_option maxRecDepth 10000000
theorem told : isT (evC mc.env1 (cFunc Try.prog) 30 25 [] []) = true := by decide +kernel
def env : Env := mc.env 25
theorem envBack : BackOk Try.prog env := mc.envBack _
theorem envPrim : PrimOk Try.prog env := mc.envPrim ⟨Try.f25, by kernel_rfl, by kernel_rfl, by kernel_rfl⟩ told
theorem sur : Mc.Sur env (cFunc Try.prog) := mc.sur _ rfl (by decide) (by decide)
def typs : List Typ := [.int .i64, .int .i64, .int .i64, .int .i64]
theorem typs_eq : typsOf Try.prog Try.f5.params.toList = some typs := by kernel_rfl
theorem run (xs : List AV) (h : WA typs xs) : isT (evC env (cFunc Try.prog) 30 5 xs []) = true := by
  obtain ⟨a, ys, rfl, ha, h1⟩ := h.int_inv
  obtain ⟨b, ys, rfl, hb, h2⟩ := h1.int_inv
  obtain ⟨c, ys, rfl, hc, h3⟩ := h2.int_inv
  obtain ⟨d, ys, rfl, hd, h4⟩ := h3.int_inv
  obtain rfl := h4.nil_inv
  exact congrArg isT (Mc.raw_lawByp sur rfl 18 a b c d)
end Go.Proofs.Ytogckbgcldmaeaa.execBypass
