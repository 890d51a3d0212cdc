/- The statement ClockReadsAsSpecified over numbers and lists alone. -/
import Derived.Test.YtijeiemdhpkklaaPP0
import Derived.Test.YtijeiemdhpkklaaPP9
import Derived.Test.YtijeiemdhpkklaaPureC
namespace Go.Proofs.Ytijeiemdhpkklaa.Pure
open Go.RowKit Go.Proofs.Ytijeiemdhpkklaa.PP Go.Proofs.Ytijeiemdhpkklaa.PureC Go.Proofs.YtijeiemdhpkklaaW.PrintWords Go.Proofs.YtijeiemdhpkklaaW.PrintLast
theorem ClockReadsAsSpecified (x0 : S25) (x1 : Int) (x2 : S23) (g0 : ((Lit.int .i64 x0.f0).wf = true) ∧ ((((Lit.int .i64 x0.f1.f0).wf = true) ∧ ((Lit.int .i64 x0.f1.f1).wf = true)) ∧ ((Lit.int .i64 x0.f2).wf = true))) (g1 : (Lit.int .i64 x1).wf = true) (g2 : ((Lit.int .i64 x2.f0).wf = true) ∧ ((Lit.int .i64 x2.f1).wf = true)) : ∃ k, weirgatelaw05_ClockReadsAsSpecified.f k x0.f0 x0.f1.f0 x0.f1.f1 x0.f2 x1 x2.f0 x2.f1 = some true := by
  obtain ⟨⟨l0, l1⟩, hd⟩ : (-9223372036854775808 ≤ x1 ∧ x1 ≤ 9223372036854775807) ∧ True := ⟨wf_iff g1, trivial⟩
  obtain ⟨m, hm⟩ : ∃ m : Nat, 60 ≤ m := ⟨60, by omega⟩
  refine ⟨m + 5, ?_⟩
  unfold weirgatelaw05_ClockReadsAsSpecified.f
  rw [new_eq, rcheck_eq, check_eq]
  simp only [Option.bind_some, if_true]
  by_cases hv : VC x0.f0 x0.f1.f0 x0.f1.f1 x0.f2
  · simp only [if_pos hv, if_true, BEq.rfl, Bool.not_true, Bool.or_false]
    simp only [weirgatelaw05_ClockReadsAsSpecified.j0]
    rw [read_at (m + 4) (by omega) hv ⟨l0, l1⟩, rread_at (m + 4) (by omega) hv ⟨l0, l1⟩, sync_at (m + 4) (by omega) _ _ hv ⟨l0, l1⟩, rsync_at (m + 4) (by omega) _ _ hv ⟨l0, l1⟩, sanity_at (m + 4) (by omega)]
    simp [weirgatelaw05_ClockReadsAsSpecified.j1]
  · simp only [if_neg hv, if_true, show ((1 : Int) = 0) = False by simp, if_false]
    simp only [weirgatelaw05_ClockReadsAsSpecified.j0]
    rw [sanity_at (m + 4) (by omega)]
    simp
end Go.Proofs.Ytijeiemdhpkklaa.Pure
