/- The statement ClockShowsAsSpecified over numbers and lists alone. -/
import Derived.Test.YtijeiemdhpkklaaPP0
import Derived.Test.YtijeiemdhpkklaaPP17
import Derived.Test.YtijeiemdhpkklaaPureC
import Derived.Test.YtijeiemdhpkklaaPureSh
namespace Go.Proofs.Ytijeiemdhpkklaa.Pure
open Go.RowKit Go.Proofs.Ytijeiemdhpkklaa.PP Go.Proofs.Ytijeiemdhpkklaa.PureC Go.Proofs.YtijeiemdhpkklaaW.PrintWords Go.Proofs.YtijeiemdhpkklaaW.PrintLast
set_option linter.unusedVariables false
theorem ClockShowsAsSpecified (x0 : Int) (x1 : List (S70)) (x2 : Int) (x3 : Int) (g0 : (Lit.int .i64 x0).wf = true) (g1 : x1.length ≤ 9223372036854775807 ∧ x1.length * 16 ≤ 140737488351232 ∧ ∀ y1 ∈ x1, ((Lit.int .i64 y1.f0).wf = true) ∧ ((Lit.int .i64 y1.f1).wf = true)) (g2 : (Lit.int .i64 x2).wf = true) (g3 : (Lit.int .i64 x3).wf = true) : ∃ k, weirgatelaw05_ClockShowsAsSpecified.f k x0 x1 x2 x3 = some true := by
  have hl : x1.length ≤ 8796093022208 := by omega
  obtain ⟨K, hK⟩ := honest_ev x1 x3 hl
  refine ⟨K + x1.length + 100, ?_⟩
  unfold weirgatelaw05_ClockShowsAsSpecified.f
  by_cases c : (x1.length : Int) > 200
  · rw [if_pos c, sanity_at _ (by omega)]; rfl
  rw [if_neg c, show_eq x0 x1 x2 hl, rshow_at x0 x1 x2 hl _ (by omega), sanity_at _ (by omega), hK _ (by omega), rhonest_at x1 x3 hl _ (by omega)]
  simp
end Go.Proofs.Ytijeiemdhpkklaa.Pure
