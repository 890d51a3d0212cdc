/- The statement ClockPeriodsMatchSpec over numbers and lists alone. -/
import Derived.Test.YtijeiemdhpkklaaPP0
import Derived.Test.YtijeiemdhpkklaaPP21
import Derived.Test.YtijeiemdhpkklaaPureC
namespace Go.Proofs.Ytijeiemdhpkklaa.Pure
open Go.RowKit Go.Proofs.Ytijeiemdhpkklaa.PP Go.Proofs.Ytijeiemdhpkklaa.PureC Go.Proofs.YtijeiemdhpkklaaW.PrintWords Go.Proofs.YtijeiemdhpkklaaW.PrintLast
theorem ClockPeriodsMatchSpec (x0 : S23) (x1 : S23) (x2 : Int) (x3 : Int) (g0 : ((Lit.int .i64 x0.f0).wf = true) ∧ ((Lit.int .i64 x0.f1).wf = true)) (g1 : ((Lit.int .i64 x1.f0).wf = true) ∧ ((Lit.int .i64 x1.f1).wf = true)) (g2 : (Lit.int .i64 x2).wf = true) (g3 : (Lit.int .i64 x3).wf = true) : ∃ k, weirgatelaw05_ClockPeriodsMatchSpec.f k x0.f0 x0.f1 x1.f0 x1.f1 x2 x3 = some true := by
  have w2 := wf_iff g2
  obtain ⟨m, hm⟩ : ∃ m : Nat, 60 ≤ m := ⟨60, by omega⟩
  refine ⟨m + 5, ?_⟩
  unfold weirgatelaw05_ClockPeriodsMatchSpec.f
  rw [valid_eq, valid_eq, rvalid_eq, rvalid_eq]
  simp only [Option.bind_some, bne_self_eq_false, if_false, Bool.false_eq_true]
  simp only [weirgatelaw05_ClockPeriodsMatchSpec.j0, if_false, Bool.false_eq_true]
  by_cases hv : VP x0.f0 x0.f1
  case neg =>
    rw [if_neg (by simpa using hv)]
    simp only [weirgatelaw05_ClockPeriodsMatchSpec.j1, if_true]
    rw [sanity_at (m + 3) (by omega)]; rfl
  rw [if_pos (decide_eq_true hv)]
  simp only [weirgatelaw05_ClockPeriodsMatchSpec.j1]
  by_cases hv2 : VP x1.f0 x1.f1
  case neg =>
    rw [if_pos (by rw [decide_eq_false hv2]; rfl), sanity_at (m + 3) (by omega)]; rfl
  rw [if_neg (by rw [decide_eq_true hv2]; simp), meet_eq, rmeet_eq (m + 2)]
  have hh : weirgateref05_Hull.f x0.f0 x0.f1 x1.f0 x1.f1 = some (mn x0.f0 x1.f0, mx x0.f1 x1.f1) := by
    unfold weirgateref05_Hull.f mn mx
    by_cases a : x1.f0 < x0.f0 <;> by_cases b : x1.f1 > x0.f1
    · rw [if_pos a, if_pos b, if_pos a, if_pos (by omega)]
    · rw [if_pos a, if_neg b, if_pos a, if_neg (by omega)]
    · rw [if_neg a, if_pos b, if_neg a, if_pos (by omega)]
    · rw [if_neg a, if_neg b, if_neg a, if_neg (by omega)]
  rw [hh]
  simp only [Option.bind_some, clock_Hull.f, bne_self_eq_false, BEq.rfl, Bool.not_true, Bool.or_false, Bool.false_eq_true, if_false]
  have h3 : ∀ b, b = false → weirgatelaw05_ClockPeriodsMatchSpec.j3 (m + 2) x3 b x0.f0 x0.f1 = some true := by
    intro b hb
    subst hb
    simp only [weirgatelaw05_ClockPeriodsMatchSpec.j3, Bool.false_eq_true, if_false]
    rw [sanity_at (m + 1) (by omega)]
    simp [clock_Before.f, weirgateref05_Before.f, clock_From.f, weirgateref05_From.f]
  simp only [weirgatelaw05_ClockPeriodsMatchSpec.j2, Bool.false_eq_true, if_false]
  obtain ⟨p0, p1, p2⟩ := hv
  by_cases q1 : x2 ≥ 0
  · rw [if_pos q1]
    by_cases q2 : x2 ≤ 1099511627776
    · rw [if_pos q2]
      unfold clock_Widen.f weirgateref05_Widen.f weirgateref05_clip.f
      rw [w64 (a := x0.f0 - x2) (by omega) (by omega), w64 (a := x0.f1 + x2) (by omega) (by omega)]
      simp only [Option.bind_some]
      have c1 : (if x0.f0 - x2 < 0 then some (0 : Int) else if x0.f0 - x2 > 1099511627776 then some 1099511627776 else some (x0.f0 - x2)) = some (mx (x0.f0 - x2) 0) := by
        unfold mx
        by_cases a : x0.f0 - x2 < 0
        · rw [if_pos a, if_pos a]
        · rw [if_neg a, if_neg (by omega), if_neg a]
      have c2 : (if x0.f1 + x2 < 0 then some (0 : Int) else if x0.f1 + x2 > 1099511627776 then some 1099511627776 else some (x0.f1 + x2)) = some (mn (x0.f1 + x2) 1099511627776) := by
        unfold mn
        rw [if_neg (by omega)]
        by_cases a : x0.f1 + x2 > 1099511627776
        · rw [if_pos a, if_pos (by omega)]
        · rw [if_neg a, if_neg (by omega)]
      rw [c1, c2]
      simp only [Option.bind_some, BEq.rfl, Bool.not_true, Bool.or_false]
      exact h3 _ rfl
    · rw [if_neg q2]; exact h3 _ rfl
  · rw [if_neg q1]; exact h3 _ rfl
end Go.Proofs.Ytijeiemdhpkklaa.Pure
