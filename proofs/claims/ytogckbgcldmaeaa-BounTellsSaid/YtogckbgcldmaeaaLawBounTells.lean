/- The law BounTells (24.1, 24.3): how many machines, and pairs of them, there may be, up to the bound. No condition: every input. -/
import Derived.Test.YtogckbgcldmaeaaRunBounTells
import Derived.Test.YtogckbgcldmaeaaEvQ
import Derived.Test.YtogckbgcldmaeaaRows
import Derived.WalkKit
import Derived.ProofKit
namespace Go.Proofs.Ytogckbgcldmaeaa.bounTells
open Go Go.Aug Go.ChangeShapes Go.WideShapes Go.ChangeAt Go.RowKit
set_option linter.unusedVariables false
theorem own : ownKnob Try.prog.godebug = none := by kernel_rfl
theorem laidOut : laidOutB Try.prog = true := by kernel_rfl
set_option maxRecDepth 100000 in
theorem lifted (os : Os) (started : os.Started) (H : Type) (enc : TypeId × Value → H) :
    ReturnsInHanded {} Try.checked os 4 .any (Rows.bounTellsSpec.pre6 enc Try.prog Try.f4 Rows.bounTellsRow.domain false) (Rows.bounTellsSpec.post enc Try.prog Try.f4 false true false false) := by
  refine returnsInHanded_of_change_sized (C := Try.checked) own started (by kernel_rfl) Try.func4
    (ChangeSpec.witness6 (enc := enc) (C := Try.checked) false ⟨#[], #[.slice none 0 0, .int .i64 0, .int .i64 0, .int .i64 0, .int .i64 0], []⟩ 8 (by kernel_rfl) (by kernel_rfl) (by kernel_rfl) (by kernel_rfl)) ?_
  intro W base args ds gs before hval0 hW hcnd hsz0 _
  have hval : ∀ (j : Nat) t v, Try.f4.params[j]? = some t → args[j]? = some v → Value.okWide Try.prog W .any base t v := hval0
  have hW' := hW
  obtain ⟨p, q, hA0, hV, rfl, hfz, hnd⟩ := hW
  have hA : DataW.TrodAll enc Try.prog W 0 (fun _ => true) true Try.f4.params.toList args.toList ds p := hA0
  have hlt := trodAll_lt hA
  obtain ⟨xs, hx, hw⟩ := args_open (I := fun b => ∃ o, MemPlace.cell b o ∈ p) (Ts := typs) typs_eq hA (fun j t v h1 h2 => hval j t v (by simpa using h1) (by simpa using h2)) (fun b o h => ⟨o, h⟩)
  obtain ⟨rfl, rfl⟩ := trodVars_none hV
  have hds := trodAll_ds hA
  have hlen : Try.f4.params.toList.length = 5 := by kernel_rfl
  rw [hlen] at hds
  obtain ⟨d0, d1, d2, d3, d4, rfl⟩ : ∃ d0 d1 d2 d3 d4, ds = [d0, d1, d2, d3, d4] := by
    match ds, hds with
    | [d0, d1, d2, d3, d4], _ => exact ⟨d0, d1, d2, d3, d4, rfl⟩
  refine (evC_true (E := env) (by kernel_rfl) (fun _ _ h => h) envPrim envBack (run xs hw) (fun b ⟨o, ho⟩ => hlt _ ho) hx).mono fun e W' ⟨he, bel⟩ => ?_
  subst he
  exact ⟨_, rfl, _, _, _, [], _, [], hW', trodAll_mk1 (shut_bool Try.underlying4 _), args_shut laidOut bel hA (by kernel_rfl), rfl, bel.frame _, fun h => by cases h⟩
theorem over : Rows.bounTellsRow.holds Try.pinned (OpenSpec.ofChange Rows.bounTellsSpec) :=
  OpenClaim.holds_of_wide 4 Try.f4 rfl rfl rfl rfl rfl rfl rfl ⟨rfl, rfl, rfl, rfl, rfl⟩ rfl rfl rfl rfl rfl (by kernel_rfl) Try.func4 (by kernel_rfl)
    (of_decide_eq_true (by kernel_rfl)) (by unfold Func.isWrapper; first | (rw [if_pos (by decide +kernel)]; kernel_rfl) | (rw [if_neg (by decide +kernel)]; exact ⟨rfl, rfl⟩))
    (fun os started H enc _ => lifted os started H enc)
theorem proved : Rows.BounTellsSaid := over
#print axioms proved
end Go.Proofs.Ytogckbgcldmaeaa.bounTells
namespace Go.Proofs.Ytogckbgcldmaeaa
/-- The row, under a short name, for the claim. -/
theorem bounTells_holds : Rows.BounTellsSaid := bounTells.proved
end Go.Proofs.Ytogckbgcldmaeaa

