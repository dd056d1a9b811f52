/- The law BounTells, run. -/
import Derived.Test.YtogckbgcldmaeaaMcEnv
namespace Go.Proofs.Ytogckbgcldmaeaa.bounTells
open Go Go.Aug
set_option maxRecDepth 10000000
theorem told : isT (evC mc.env1 (cFunc Try.prog) 30 16 [] []) = true := by decide +kernel
def env : Env := mc.env 16
theorem envBack : BackOk Try.prog env := mc.envBack _
theorem envPrim : PrimOk Try.prog env := mc.envPrim ⟨Try.f16, by kernel_rfl, by kernel_rfl, by kernel_rfl⟩ told
theorem sur : Mc.Sur env (cFunc Try.prog) := mc.sur _ rfl (by decide) (by decide)
def typs : List Typ := [.slice (.int .i64), .int .i64, .int .i64, .int .i64, .int .i64]
theorem typs_eq : typsOf Try.prog Try.f4.params.toList = some typs := by kernel_rfl
theorem ints_row : ∀ zs : List Int, (zs.map fun z => DV.v (.int .i64 z)) = rowC zs
  | [] => rfl
  | z :: zs => congrArg (DV.v (.int .i64 z) :: ·) (ints_row zs)
theorem run (xs : List AV) (h : WA typs xs) : isT (evC env (cFunc Try.prog) 30 4 xs []) = true := by
  obtain ⟨zs, ys, rfl, hl, hw, h1⟩ := h.ints_inv
  obtain ⟨a, ys, rfl, ha, h2⟩ := h1.int_inv
  obtain ⟨b, ys, rfl, hb, h3⟩ := h2.int_inv
  obtain ⟨c, ys, rfl, hc, h4⟩ := h3.int_inv
  obtain ⟨d, ys, rfl, hd, h5⟩ := h4.int_inv
  obtain rfl := h5.nil_inv
  have e : intsD .i64 zs = rowD zs := by unfold intsD rowD; rw [ints_row]
  rw [e]
  exact congrArg isT (Mc.raw_lawBnT sur rfl 21 zs a b c d)
end Go.Proofs.Ytogckbgcldmaeaa.bounTells
