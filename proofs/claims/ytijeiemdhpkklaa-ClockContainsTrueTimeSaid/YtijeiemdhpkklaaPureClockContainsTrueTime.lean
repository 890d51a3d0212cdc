/- The statement ClockContainsTrueTime over numbers and lists alone. -/
import Derived.Test.YtijeiemdhpkklaaPP0
import Derived.Test.YtijeiemdhpkklaaPP14
import Derived.Test.YtijeiemdhpkklaaPureC
import Derived.Test.YtijeiemdhpkklaaPureSh
namespace Go.Proofs.Ytijeiemdhpkklaa.Pure
open Go.RowKit Go.Proofs.Ytijeiemdhpkklaa.PP Go.Proofs.Ytijeiemdhpkklaa.PureC Go.Proofs.YtijeiemdhpkklaaW.PrintWords Go.Proofs.YtijeiemdhpkklaaW.PrintLast
set_option linter.unusedVariables false

theorem SW_ok {base t : Int} {l : List S70} (hr : ∀ p ∈ l, 0 ≤ p.f0 ∧ -100000 ≤ p.f1 ∧ p.f1 ≤ 100000) (h : (SW base l t).2 = 0) : 0 ≤ base ∧ base ≤ 1099511627776 ∧ 0 ≤ t ∧ t ≤ 1099511627776 ∧ SW base l t = (base + PS l t / 1000000, 0) ∧ base + PS l t / 1000000 ≤ 2199023255552 := by
  unfold SW at *
  split at h
  · simp at h
  · split at h
    · simp at h
    · rename_i c1 c2
      rw [if_neg c1, if_neg c2]
      exact ⟨by omega, by omega, by omega, by omega, rfl, by omega⟩
/-- A reading contains the true instant. -/
theorem read_contains {base s t lo hi D : Int} {l : List S70} (hr : rightB l D = true) (hD0 : 0 ≤ D) (hD1 : D ≤ 100000) (hv : VC (base + PS l s / 1000000) lo hi D) (hs0 : 0 ≤ s) (hst : s ≤ t) (ht : t ≤ 1099511627776) (hlo : lo ≤ s) (hhi : s ≤ hi) :
    base + PS l s / 1000000 ≤ base + PS l t / 1000000 ∧ lo' (base + PS l s / 1000000) lo D (base + PS l t / 1000000) ≤ t ∧ t ≤ hi' (base + PS l s / 1000000) hi D (base + PS l t / 1000000) := by
  obtain ⟨d1, d2⟩ := PS_drift l D hD0 (okp_of hr).1 s t hs0 hst
  have b1 := PS_bound l (okp_of (rightB_mono hr (show D ≤ 100000 by omega))).1 s hs0
  have k0 : 0 ≤ (t - s) * (1000000 - D) := Int.mul_nonneg (by omega) (by omega)
  generalize PS l s = p at *
  generalize PS l t = q at *
  have e1 : base + q / 1000000 - (base + p / 1000000) = q / 1000000 - p / 1000000 := by omega
  refine ⟨by omega, ?_, ?_⟩
  · unfold lo'
    rw [e1]
    have hY : 0 < 1000000 + D := by omega
    have := cdiv_le (X := mx (q / 1000000 - p / 1000000 - 1) 0 * 1000000) (M := t - s) hY (by
      have k1 : 0 ≤ (t - s) * (1000000 + D) := Int.mul_nonneg (by omega) (by omega)
      unfold mx
      split <;> omega)
    unfold mn
    split <;> omega
  · unfold hi'
    rw [e1]
    have hY : 0 < 1000000 - D := by omega
    have p2 := Int.lt_ediv_add_one_mul_self ((q / 1000000 - p / 1000000 + 1) * 1000000) hY
    have := mul_lt_cancel (a := t - s) (b := (q / 1000000 - p / 1000000 + 1) * 1000000 / (1000000 - D) + 1) hY (by omega)
    unfold mn
    split <;> omega
theorem bind_of {α β : Type} {x : Option α} {v : α} {f : α → Option β} {r : Option β} (h : x = some v) (k : f v = r) : x.bind f = r := by rw [h]; exact k
theorem rd_in {l : List Int} {i : Nat} {a b : Int} (h : ∀ y ∈ l, a ≤ y ∧ y ≤ b) (hi : i < l.length) : a ≤ rd l (i : Int) ∧ rd l (i : Int) ≤ b := by
  have : rd l (i : Int) = l[i] := by unfold rd; simp [hi]
  rw [this]
  exact h _ (List.getElem_mem hi)
set_option maxHeartbeats 1000000 in
theorem follow_all (base : Int) (l : List S70) (D : Int) (steps widths : List Int) (hr : rightB l D = true) (hD0 : 0 ≤ D) (hD1 : D ≤ 100000) (hb0 : 0 ≤ base) (hb1 : base ≤ 1099511627776)
    (hst : ∀ y ∈ steps, 0 ≤ y ∧ y ≤ 4294967295) (hwd : ∀ y ∈ widths, 0 ≤ y ∧ y ≤ 65535) (hls : steps.length ≤ 100) (hlw : widths.length ≤ 9223372036854775807) :
    ∀ (d i : Nat), i + d = steps.length → ∀ k, 4 * d + 1 ≤ k → ∀ (t s loc lo hi : Int), VC loc lo hi D → 0 ≤ s → s ≤ t → t ≤ 1099511627776 → loc = base + PS l s / 1000000 → lo ≤ s → s ≤ hi →
    weirgatelaw05_follow.l0 k base l t steps widths (i : Int) loc lo hi D = some true := by
  have hr1 := rightB_mono hr (show D ≤ 100000 by omega)
  have hl := (okp_of hr).2
  intro d
  induction d with
  | zero =>
    intro i hi' k hk t s loc lo hi hv hs0 hst' ht hloc h1 h2
    obtain ⟨k, rfl⟩ : ∃ m, k = m + 1 := ⟨k - 1, by omega⟩
    simp only [weirgatelaw05_follow.l0]
    rw [if_neg (by omega)]
  | succ d ih =>
    intro i hi2 k hk t s loc lo hi hv hs0 hst' ht hloc h1 h2
    obtain ⟨k, rfl⟩ : ∃ m, k = m + 4 := ⟨k - 4, by omega⟩
    have hw1 : wrap64 ((i : Int) + 1) = ((i + 1 : Nat) : Int) := by unfold wrap64; omega
    obtain ⟨y0, y1⟩ := rd_in hst (show i < steps.length by omega)
    simp only [weirgatelaw05_follow.l0]
    refine (if_pos (show (i : Int) < (steps.length : Int) by omega)).trans ?_
    refine (if_pos (Int.natCast_nonneg i)).trans ?_
    obtain ⟨u, hu⟩ : ∃ u, t + rd steps (i : Int) = u := ⟨_, rfl⟩
    have hu1 : t ≤ u := by omega
    have hu2 : wrap64 (t + wrap64 (rd steps (i : Int))) = u := by rw [w64 (a := rd steps (i : Int)) (by omega) (by omega), w64 (a := t + rd steps (i : Int)) (by omega) (by omega), hu]
    rw [hu2]
    refine bind_of (show_eq base l u (by omega)) ?_
    by_cases c1 : u > 1099511627776
    · refine (if_pos c1).trans ?_
      simp only [weirgatelaw05_follow.j1]
      rfl
    refine (if_neg c1).trans ?_
    simp only [weirgatelaw05_follow.j1]
    by_cases c2 : (SW base l u).2 = 0
    case neg => exact if_pos (by simpa using c2)
    refine (if_neg (by simpa using c2)).trans ?_
    obtain ⟨_, _, t0, t1, e1, e2⟩ := SW_ok (okp_of hr1).1 c2
    rw [e1]
    subst hloc
    obtain ⟨r0, r1, r2⟩ := read_contains (base := base) (l := l) (t := u) hr hD0 hD1 hv hs0 (by omega) (by omega) h1 h2
    have hvv := hv
    obtain ⟨v0, v1, v2, v3, v4⟩ := hvv
    have lh := lo_hi hv r0
    refine bind_of ((read_at _ (by omega) hv (by omega)).trans (congrArg some (RD_ok hv r0 e2))) ?_
    refine (if_pos rfl).trans ?_
    refine (if_neg (show ¬ u < lo' (base + PS l s / 1000000) lo D (base + PS l u / 1000000) by omega)).trans ?_
    have e3 : decide (u > hi' (base + PS l s / 1000000) hi D (base + PS l u / 1000000)) = false := decide_eq_false (by omega)
    rw [e3]
    simp only [weirgatelaw05_follow.j2, Bool.false_eq_true, if_false]
    have hnext : weirgatelaw05_follow.l0 k base l u steps widths (wrap64 ((i : Int) + 1)) (base + PS l s / 1000000) lo hi D = some true := by
      rw [hw1]
      exact ih (i + 1) (by omega) k (by omega) u s _ lo hi hv hs0 (by omega) (by omega) rfl h1 h2
    by_cases c3 : (i : Int) < (widths.length : Int)
    case neg =>
      refine (if_neg c3).trans ?_
      simp only [weirgatelaw05_follow.j3, Bool.false_eq_true, if_false]
      exact hnext
    refine (if_pos c3).trans ?_
    refine (if_pos (Int.natCast_nonneg i)).trans ?_
    simp only [weirgatelaw05_follow.j3]
    by_cases c4 : (Int.tmod (rd widths (i : Int)) 2 == 1) = true
    case neg => exact (if_neg c4).trans hnext
    refine (if_pos c4).trans ?_
    refine (if_pos (Int.natCast_nonneg i)).trans ?_
    refine (if_pos c3).trans ?_
    obtain ⟨z0, z1⟩ := rd_in hwd (Int.ofNat_lt.mp c3)
    rw [w64 (a := rd widths (i : Int)) (by omega) (by omega)]
    have m1 : 0 ≤ Int.tmod (rd widths (i : Int)) 100 ∧ Int.tmod (rd widths (i : Int)) 100 < 100 := ⟨Int.tmod_nonneg _ z0, Int.tmod_lt_of_pos _ (by omega)⟩
    have m2 : 0 ≤ Int.tmod (rd widths (i : Int)) 300 ∧ Int.tmod (rd widths (i : Int)) 300 < 300 := ⟨Int.tmod_nonneg _ z0, Int.tmod_lt_of_pos _ (by omega)⟩
    generalize Int.tmod (rd widths (i : Int)) 100 = A at *
    generalize Int.tmod (rd widths (i : Int)) 300 = B at *
    rw [w64 (a := u - A) (by omega) (by omega), w64 (a := u + B) (by omega) (by omega)]
    have p1 : 0 ≤ mx (u - A) 0 ∧ mx (u - A) 0 ≤ u := by unfold mx; split <;> omega
    have p2 : u ≤ mn (u + B) 1099511627776 ∧ mn (u + B) 1099511627776 ≤ 1099511627776 := by unfold mn; split <;> omega
    generalize mx (u - A) 0 = P at *
    generalize mn (u + B) 1099511627776 = Q at *
    have hsy := sync_at k (by omega) P Q hv (x := base + PS l u / 1000000) (by omega)
    unfold SY at hsy
    rw [if_pos (show VP P Q from ⟨by omega, by omega, by omega⟩), RD_ok hv r0 e2] at hsy
    simp only [if_true] at hsy
    generalize hA : lo' (base + PS l s / 1000000) lo D (base + PS l u / 1000000) = L at *
    generalize hB : hi' (base + PS l s / 1000000) hi D (base + PS l u / 1000000) = H at *
    have n1 : P ≤ mx L P ∧ L ≤ mx L P ∧ mx L P ≤ u := by unfold mx; split <;> omega
    have n2 : mn H Q ≤ Q ∧ mn H Q ≤ H ∧ u ≤ mn H Q := by unfold mn; split <;> omega
    rw [if_neg (by omega)] at hsy
    refine bind_of hsy ?_
    refine (if_pos rfl).trans ?_
    rw [hw1]
    exact ih (i + 1) (by omega) k (by omega) u u (base + PS l u / 1000000) (mx L P) (mn H Q) ⟨by omega, by omega, ⟨by omega, by omega, by omega⟩, hD0, hD1⟩ (by omega) (Int.le_refl _) (by omega) rfl n1.2.2 n2.2.2

theorem ClockContainsTrueTime (x0 : Int) (x1 : List (S70)) (x2 : Int) (x3 : S23) (x4 : Int) (x5 : List Int) (x6 : List Int) (g0 : (Lit.int .i64 x0).wf = true) (g1 : x1.length ≤ 9223372036854775807 ∧ x1.length * 16 ≤ 140737488351232 ∧ ∀ y1 ∈ x1, ((Lit.int .i64 y1.f0).wf = true) ∧ ((Lit.int .i64 y1.f1).wf = true)) (g2 : (Lit.int .i64 x2).wf = true) (g3 : ((Lit.int .i64 x3.f0).wf = true) ∧ ((Lit.int .i64 x3.f1).wf = true)) (g4 : (Lit.int .i64 x4).wf = true) (g5 : x5.length ≤ 9223372036854775807 ∧ x5.length * 4 ≤ 140737488351232 ∧ ∀ y1 ∈ x5, (Lit.int .u32 y1).wf = true) (g6 : x6.length ≤ 9223372036854775807 ∧ x6.length * 2 ≤ 140737488351232 ∧ ∀ y1 ∈ x6, (Lit.int .u16 y1).wf = true) : ∃ k, weirgatelaw05_ClockContainsTrueTime.f k x0 x1 x2 x3.f0 x3.f1 x4 x5 x6 = some true := by
  have hl : x1.length ≤ 8796093022208 := by omega
  have hw := wf_iff g4
  refine ⟨x1.length + 4 * x5.length + 200, ?_⟩
  obtain ⟨m, hm, hm2⟩ : ∃ m, x1.length + 4 * x5.length + 200 = m + 1 ∧ x1.length + 4 * x5.length + 100 ≤ m := ⟨x1.length + 4 * x5.length + 199, rfl, by omega⟩
  rw [hm]
  unfold weirgatelaw05_ClockContainsTrueTime.f
  rw [rhonest_at x1 x2 hl _ (by omega), rvalid_eq]
  simp only [Option.bind_some]
  have h0 : ∀ b, b = true → weirgatelaw05_ClockContainsTrueTime.j0 (m + 1) x0 x1 x2 x4 x5 x6 b x3.f0 x3.f1 = some true := by
    intro b hb
    subst hb
    simp only [weirgatelaw05_ClockContainsTrueTime.j0, if_true]
    rw [sanity_at m (by omega)]; rfl
  cases hho : HO x1 x2 with
  | false => rw [if_neg (by simp)]; exact h0 _ rfl
  | true =>
  rw [if_pos rfl]
  by_cases hv : VP x3.f0 x3.f1
  case neg => rw [if_neg (by simpa using hv)]; exact h0 _ rfl
  rw [if_pos (decide_eq_true hv)]
  by_cases c1 : x2 < 0
  · rw [if_pos c1]; exact h0 _ rfl
  by_cases c2 : x2 > 100000
  · rw [if_neg c1, if_pos c2]; exact h0 _ rfl
  by_cases c3 : x4 < x3.f0
  · rw [if_neg c1, if_neg c2, if_pos c3]; exact h0 _ rfl
  by_cases c4 : x4 > x3.f1
  · rw [if_neg c1, if_neg c2, if_neg c3, if_pos c4]; exact h0 _ rfl
  rw [if_neg c1, if_neg c2, if_neg c3, if_neg c4]
  by_cases c5 : (x5.length : Int) > 100
  · exact h0 _ (decide_eq_true c5)
  have hvp := hv
  obtain ⟨p0, p1, p2⟩ := hvp
  have hr : rightB x1 x2 = true := by
    unfold HO at hho
    simp only [Bool.and_eq_true, Bool.or_eq_true, decide_eq_true_eq] at hho
    obtain ⟨q1, (q2 | q2) | q2⟩ := hho
    · obtain rfl : x2 = 100000 := by omega
      exact q1
    · have : x1 = [] := List.eq_nil_of_length_eq_zero q2
      subst this
      rfl
    · exact q2.2
  simp only [weirgatelaw05_ClockContainsTrueTime.j0]
  rw [if_neg (by simpa using c5), show_eq x0 x1 x4 hl]
  simp only [Option.bind_some]
  by_cases c6 : (SW x0 x1 x4).2 = 0
  case neg => rw [if_neg c6, sanity_at m (by omega)]; rfl
  rw [if_pos c6, new_eq, sanity_at m (by omega)]
  obtain ⟨b0, b1, t0, t1, e1, e2⟩ := SW_ok (okp_of (rightB_mono hr (show x2 ≤ 100000 by omega))).1 c6
  have hvc : VC (x0 + PS x1 x4 / 1000000) x3.f0 x3.f1 x2 := by
    have := PS_bound x1 (okp_of (rightB_mono hr (show x2 ≤ 100000 by omega))).1 x4 t0
    exact ⟨by omega, e2, hv, by omega, by omega⟩
  rw [e1, if_pos hvc]
  simp only [Option.bind_some, if_true]
  have hf := follow_all x0 x1 x2 x5 x6 hr (by omega) (by omega) b0 b1 (fun y hy => by have := g5.2.2 y hy; change (decide (0 ≤ y) && decide (y ≤ 4294967295)) = true at this; simpa using this) (fun y hy => by have := g6.2.2 y hy; change (decide (0 ≤ y) && decide (y ≤ 65535)) = true at this; simpa using this) (by omega) (by omega)
    x5.length 0 (by omega) m (by omega) x4 x4 (x0 + PS x1 x4 / 1000000) x3.f0 x3.f1 hvc t0 (Int.le_refl _) t1 rfl (by omega) (by omega)
  unfold weirgatelaw05_follow.f
  rw [show ((0 : Nat) : Int) = 0 from rfl] at hf
  rw [hf]
  rfl
end Go.Proofs.Ytijeiemdhpkklaa.Pure
