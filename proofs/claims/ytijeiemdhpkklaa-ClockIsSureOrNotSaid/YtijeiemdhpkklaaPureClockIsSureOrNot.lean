/- The statement ClockIsSureOrNot over numbers and lists alone. -/
import Derived.Test.YtijeiemdhpkklaaPP0
import Derived.Test.YtijeiemdhpkklaaPP19
import Derived.Test.YtijeiemdhpkklaaPureC
namespace Go.Proofs.Ytijeiemdhpkklaa.Pure
open Go.RowKit Go.Proofs.Ytijeiemdhpkklaa.PP Go.Proofs.Ytijeiemdhpkklaa.PureC Go.Proofs.YtijeiemdhpkklaaW.PrintWords Go.Proofs.YtijeiemdhpkklaaW.PrintLast
theorem ClockIsSureOrNot (x0 : S23) (x1 : S23) (x2 : Int) (g0 : ((Lit.int .i64 x0.f0).wf = true) ∧ ((Lit.int .i64 x0.f1).wf = true)) (g1 : ((Lit.int .i64 x1.f0).wf = true) ∧ ((Lit.int .i64 x1.f1).wf = true)) (g2 : (Lit.int .i64 x2).wf = true) : ∃ k, weirgatelaw05_ClockIsSureOrNot.f k x0.f0 x0.f1 x1.f0 x1.f1 x2 = some true := by
  obtain ⟨m, hm⟩ : ∃ m : Nat, 60 ≤ m := ⟨60, by omega⟩
  refine ⟨m + 5, ?_⟩
  unfold weirgatelaw05_ClockIsSureOrNot.f
  rw [rvalid_eq, rvalid_eq]
  simp only [Option.bind_some]
  have h0 : ∀ b, b = true → weirgatelaw05_ClockIsSureOrNot.j0 (m + 5) x2 b x0.f0 x0.f1 x1.f0 x1.f1 = some true := by
    intro b hb
    subst hb
    simp only [weirgatelaw05_ClockIsSureOrNot.j0, if_true]
    rw [sanity_at (m + 4) (by omega)]; rfl
  by_cases hv : VP x0.f0 x0.f1
  case neg => rw [if_neg (by simpa using hv)]; exact h0 _ rfl
  by_cases hv2 : VP x1.f0 x1.f1
  case neg => rw [if_pos (decide_eq_true hv), if_neg (by simpa using hv2)]; exact h0 _ rfl
  rw [if_pos (decide_eq_true hv), if_pos (decide_eq_true hv2)]
  by_cases c1 : x1.f0 < x0.f0
  · rw [if_pos c1]; exact h0 _ rfl
  rw [if_neg c1]
  by_cases c2 : x1.f1 > x0.f1
  · exact h0 _ (decide_eq_true c2)
  obtain ⟨p0, p1, p2⟩ := hv
  obtain ⟨q0, q1, q2⟩ := hv2
  have e1 : mx x0.f0 x1.f0 = x1.f0 := by unfold mx; split <;> omega
  have e2 : mn x0.f1 x1.f1 = x1.f1 := by unfold mn; split <;> omega
  have e3 : mn x0.f0 x1.f0 = x0.f0 := by unfold mn; split <;> omega
  have e4 : mx x0.f1 x1.f1 = x0.f1 := by unfold mx; split <;> omega
  have e5 : mn x1.f0 x0.f0 = x0.f0 := by unfold mn; split <;> omega
  have e6 : mx x1.f1 x0.f1 = x0.f1 := by unfold mx; split <;> omega
  have h1 : ∀ b, b = false → weirgatelaw05_ClockIsSureOrNot.j1 (m + 4) true b x0.f0 x0.f1 x1.f0 x1.f1 x1.f0 x1.f1 = some true := by
    intro b hb
    subst hb
    simp only [weirgatelaw05_ClockIsSureOrNot.j1, Bool.false_eq_true, if_false]
    rw [sanity_at (m + 3) (by omega)]
    simp [clock_Hull.f, e3, e4, e5, e6]
  simp only [weirgatelaw05_ClockIsSureOrNot.j0]
  rw [if_neg (by simpa using c2), meet_eq, e1, e2, if_neg (by omega)]
  simp only [Option.bind_some, clock_Before.f, clock_From.f, decide_eq_true_eq]
  by_cases b1 : x1.f1 < x2
  · rw [if_pos b1, if_neg (by omega)]
    by_cases b2 : x0.f1 < x2
    · rw [if_pos b2, if_pos b1, if_neg (by omega)]; exact h1 _ rfl
    · rw [if_neg b2]
      by_cases b3 : x0.f0 ≥ x2
      · omega
      · rw [if_neg b3]; exact h1 _ rfl
  · rw [if_neg b1, if_neg (by omega)]
    by_cases b3 : x0.f0 ≥ x2
    · rw [if_pos b3]; exact h1 _ (by simp; omega)
    · rw [if_neg b3]; exact h1 _ rfl
end Go.Proofs.Ytijeiemdhpkklaa.Pure
