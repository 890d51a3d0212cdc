/- The statement ClockOnlyGoesOn over numbers and lists alone. -/
import Derived.Test.YtijeiemdhpkklaaPP0
import Derived.Test.YtijeiemdhpkklaaPP15
import Derived.Test.YtijeiemdhpkklaaPureC
namespace Go.Proofs.Ytijeiemdhpkklaa.Pure
open Go.RowKit Go.Proofs.Ytijeiemdhpkklaa.PP Go.Proofs.Ytijeiemdhpkklaa.PureC Go.Proofs.YtijeiemdhpkklaaW.PrintWords Go.Proofs.YtijeiemdhpkklaaW.PrintLast
theorem ClockOnlyGoesOn (x0 : S25) (x1 : Int) (x2 : Int) (x3 : S23) (g0 : ((Lit.int .i64 x0.f0).wf = true) ∧ ((((Lit.int .i64 x0.f1.f0).wf = true) ∧ ((Lit.int .i64 x0.f1.f1).wf = true)) ∧ ((Lit.int .i64 x0.f2).wf = true))) (g1 : (Lit.int .i64 x1).wf = true) (g2 : (Lit.int .i64 x2).wf = true) (g3 : ((Lit.int .i64 x3.f0).wf = true) ∧ ((Lit.int .i64 x3.f1).wf = true)) : ∃ k, weirgatelaw05_ClockOnlyGoesOn.f k x0.f0 x0.f1.f0 x0.f1.f1 x0.f2 x1 x2 x3.f0 x3.f1 = some true := by
  have w1 := wf_iff g1
  have w2 := wf_iff g2
  obtain ⟨m, hm⟩ : ∃ m : Nat, 60 ≤ m := ⟨60, by omega⟩
  refine ⟨m + 5, ?_⟩
  unfold weirgatelaw05_ClockOnlyGoesOn.f
  rw [rcheck_eq]
  simp only [Option.bind_some]
  by_cases hv : VC x0.f0 x0.f1.f0 x0.f1.f1 x0.f2
  · simp only [if_pos hv, if_true]
    simp only [weirgatelaw05_ClockOnlyGoesOn.j0]
    by_cases h12 : x1 > x2
    · rw [if_pos (decide_eq_true h12), sanity_at (m + 4) (by omega)]; rfl
    rw [if_neg (by simpa using h12), read_at (m + 4) (by omega) hv w1, read_at (m + 4) (by omega) hv w2]
    simp only [Option.bind_some]
    simp only [weirgatelaw05_ClockOnlyGoesOn.j1]
    by_cases e1 : (RD x0.f0 x0.f1.f0 x0.f1.f1 x0.f2 x1).2.2 = 0
    case neg => rw [if_neg e1]; simp only [if_true]; rw [sanity_at (m + 3) (by omega)]; rfl
    rw [if_pos e1]
    by_cases e2 : (RD x0.f0 x0.f1.f0 x0.f1.f1 x0.f2 x2).2.2 = 0
    case neg => rw [if_pos (by simpa using e2), sanity_at (m + 3) (by omega)]; rfl
    rw [if_neg (by simpa using e2)]
    obtain ⟨a1, b1, c1⟩ := RD_err e1
    obtain ⟨a2, b2, c2⟩ := RD_err e2
    have r2 := RD_ok hv a2 c2
    rw [RD_ok hv a1 c1, r2]
    have hv' := hv
    obtain ⟨v0, v1, v2, v3, v4⟩ := hv'
    have lm := lo_mono (loc := x0.f0) (lo := x0.f1.f0) v3 (show x1 ≤ x2 by omega)
    have hm' := hi_mono (loc := x0.f0) (hi := x0.f1.f1) v4 (show x1 ≤ x2 by omega)
    have lh := lo_hi hv a1
    have lh2 := lo_hi hv a2
    rw [if_neg (by show ¬ (lo' x0.f0 x0.f1.f0 x0.f2 x1 > lo' x0.f0 x0.f1.f0 x0.f2 x2); omega), if_neg (by show ¬ (hi' x0.f0 x0.f1.f1 x0.f2 x1 > hi' x0.f0 x0.f1.f1 x0.f2 x2); omega)]
    simp only [weirgatelaw05_ClockOnlyGoesOn.j2]
    rw [if_neg (by simp; omega), sync_at (m + 2) (by omega) _ _ hv w2]
    simp only [Option.bind_some]
    unfold SY
    rw [r2]
    by_cases hp : VP x3.f0 x3.f1
    · rw [if_pos hp]
      simp only [if_true]
      by_cases hm2 : mx (lo' x0.f0 x0.f1.f0 x0.f2 x2) x3.f0 > mn (hi' x0.f0 x0.f1.f1 x0.f2 x2) x3.f1
      · rw [if_pos hm2]
        simp only [show ((9 : Int) = 0) = False by simp, if_false]
        rw [sanity_at (m + 2) (by omega)]; rfl
      · rw [if_neg hm2]
        simp only [if_true]
        have hvs : VC x2 (mx (lo' x0.f0 x0.f1.f0 x0.f2 x2) x3.f0) (mn (hi' x0.f0 x0.f1.f1 x0.f2 x2) x3.f1) x0.f2 := by
          refine ⟨b2, c2, ⟨?_, by omega, ?_⟩, v3, v4⟩
          · unfold mx; split <;> omega
          · unfold mn; split <;> omega
        rw [read_at (m + 2) (by omega) hvs w2, sanity_at (m + 2) (by omega), RD_ok hvs (Int.le_refl _) c2]
        simp only [Option.bind_some, if_true]
        have hz := RD_zero hvs
        obtain ⟨hz1, hz2⟩ := hz
        rw [hz1, hz2]
        have k1 : mx (lo' x0.f0 x0.f1.f0 x0.f2 x2) x3.f0 ≥ lo' x0.f0 x0.f1.f0 x0.f2 x2 := by unfold mx; split <;> omega
        have k2 : mn (hi' x0.f0 x0.f1.f1 x0.f2 x2) x3.f1 ≤ hi' x0.f0 x0.f1.f1 x0.f2 x2 := by unfold mn; split <;> omega
        obtain ⟨_, _, ⟨u1, u2, u3⟩, _, _⟩ := hvs
        generalize mx (lo' x0.f0 x0.f1.f0 x0.f2 x2) x3.f0 = A at *
        generalize mn (hi' x0.f0 x0.f1.f1 x0.f2 x2) x3.f1 = B at *
        have k3 : mn (B + 1) 1099511627776 ≤ B + 1 ∧ B ≤ mn (B + 1) 1099511627776 := by unfold mn; split <;> omega
        generalize mn (B + 1) 1099511627776 = C at *
        rw [w64 (a := C - A) (by omega) (by omega), w64 (a := hi' x0.f0 x0.f1.f1 x0.f2 x2 - lo' x0.f0 x0.f1.f0 x0.f2 x2) (by omega) (by omega), w64 (by omega) (by omega)]
        simp only [Option.some.injEq, decide_eq_true_eq]
        omega
    · rw [if_neg hp]
      simp only [show ((1 : Int) = 0) = False by simp, if_false]
      rw [sanity_at (m + 2) (by omega)]; rfl
  · simp only [if_neg hv, show ((1 : Int) = 0) = False by simp, if_false]
    simp only [weirgatelaw05_ClockOnlyGoesOn.j0, if_true]
    rw [sanity_at (m + 4) (by omega)]
    rfl
end Go.Proofs.Ytijeiemdhpkklaa.Pure
