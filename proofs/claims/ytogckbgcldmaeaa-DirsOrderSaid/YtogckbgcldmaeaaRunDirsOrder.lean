/- The law DirsOrder, run. -/
import Derived.Test.YtogckbgcldmaeaaMcEnv
namespace Go.Proofs.Ytogckbgcldmaeaa.dirsOrder
open Go Go.Aug
set_option maxRecDepth 10000000
theorem told : isT (evC mc.env1 (cFunc Try.prog) 30 38 [] []) = true := by decide +kernel
def env : Env := mc.env 38
theorem envBack : BackOk Try.prog env := mc.envBack _
theorem envPrim : PrimOk Try.prog env := mc.envPrim ⟨Try.f38, by kernel_rfl, by kernel_rfl, by kernel_rfl⟩ told
theorem sur : Mc.Sur env (cFunc Try.prog) := mc.sur _ rfl (by decide) (by decide)
def typs : List Typ := [.recd [.int .i64, .int .i64], .recd [.int .i64, .int .i64], .recd [.int .i64, .int .i64]]
theorem typs_eq : typsOf Try.prog Try.f11.params.toList = some typs := by kernel_rfl
theorem run (xs : List AV) (h : WA typs xs) : isT (evC env (cFunc Try.prog) 30 11 xs []) = true := by
  obtain ⟨c1, ys, rfl, h1, h⟩ := h.recd_inv
  obtain ⟨c2, ys, rfl, h2, h⟩ := h.recd_inv
  obtain ⟨c3, ys, rfl, h3, h⟩ := h.recd_inv
  obtain rfl := h.nil_inv
  obtain ⟨a, r1, rfl, i1⟩ := h1.int_inv
  obtain ⟨b, r2, rfl, i2⟩ := i1.int_inv
  obtain rfl := i2.nil_inv
  obtain ⟨c, r3, rfl, j1⟩ := h2.int_inv
  obtain ⟨d, r4, rfl, j2⟩ := j1.int_inv
  obtain rfl := j2.nil_inv
  obtain ⟨e, r5, rfl, k1⟩ := h3.int_inv
  obtain ⟨f, r6, rfl, k2⟩ := k1.int_inv
  obtain rfl := k2.nil_inv
  have := Mc.raw_law17 sur rfl 25 ⟨a, b⟩ ⟨c, d⟩ ⟨e, f⟩
  exact congrArg isT this
end Go.Proofs.Ytogckbgcldmaeaa.dirsOrder
