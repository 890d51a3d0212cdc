/- The statement ClockLastsAsSpecified over numbers and lists alone. -/
import Derived.Test.YtijeiemdhpkklaaPP0
import Derived.Test.YtijeiemdhpkklaaPP11
import Derived.Test.YtijeiemdhpkklaaPureC
namespace Go.Proofs.Ytijeiemdhpkklaa.Pure
open Go.RowKit Go.Proofs.Ytijeiemdhpkklaa.PP Go.Proofs.Ytijeiemdhpkklaa.PureC Go.Proofs.YtijeiemdhpkklaaW.PrintWords Go.Proofs.YtijeiemdhpkklaaW.PrintLast
set_option linter.unusedVariables false

/-- Of a predicate that stays true: the halving finds where it begins. -/
theorem bs_spec (p : Int → Bool) : ∀ (k : Nat) (lo hi : Int), lo ≤ hi → hi - lo < 2 ^ k → (∀ i j, lo ≤ i → i ≤ j → j < hi → p i = true → p j = true) →
    lo ≤ bs p k lo hi ∧ bs p k lo hi ≤ hi ∧ (∀ i, lo ≤ i → i < bs p k lo hi → p i = false) ∧ (∀ i, bs p k lo hi ≤ i → i < hi → p i = true)
  | 0, lo, hi, h, hs, _ => by
    simp at hs
    have : lo = hi := by omega
    subst this
    exact ⟨Int.le_refl _, Int.le_refl _, fun i h1 h2 => by unfold bs at h2; omega, fun i h1 h2 => by unfold bs at h1; omega⟩
  | k + 1, lo, hi, h, hs, hp => by
    have hs2 : hi - lo < 2 * 2 ^ k := by rw [Int.pow_succ] at hs; omega
    by_cases hlt : lo < hi
    · by_cases c : p ((lo + hi) / 2) = true
      · have ih := bs_spec p k lo ((lo + hi) / 2) (by omega) (by omega) (fun i j a b d => hp i j a b (by omega))
        have e : bs p (k + 1) lo hi = bs p k lo ((lo + hi) / 2) := by show (if lo < hi then _ else _) = _; rw [if_pos hlt, if_pos c]
        rw [e]
        refine ⟨ih.1, by omega, ih.2.2.1, fun i h1 h2 => ?_⟩
        by_cases hi2 : i < (lo + hi) / 2
        · exact ih.2.2.2 i h1 hi2
        · exact hp ((lo + hi) / 2) i (by omega) (by omega) h2 c
      · have ih := bs_spec p k ((lo + hi) / 2 + 1) hi (by omega) (by omega) (fun i j a b d => hp i j (by omega) b d)
        have e : bs p (k + 1) lo hi = bs p k ((lo + hi) / 2 + 1) hi := by show (if lo < hi then _ else _) = _; rw [if_pos hlt, if_neg c]
        rw [e]
        refine ⟨by omega, ih.2.1, fun i h1 h2 => ?_, ih.2.2.2⟩
        by_cases hi2 : (lo + hi) / 2 + 1 ≤ i
        · exact ih.2.2.1 i hi2 h2
        · cases hpi : p i with
          | false => rfl
          | true => exact absurd (hp i ((lo + hi) / 2) h1 (by omega) (by omega) hpi) c
    · have e : bs p (k + 1) lo hi = lo := by show (if lo < hi then _ else _) = _; rw [if_neg hlt]
      rw [e]
      exact ⟨Int.le_refl _, h, fun i h1 h2 => by omega, fun i h1 h2 => by omega⟩

theorem until_is {loc lo hi d : Int} (t : Int) (hv : VC loc lo hi d) : ∃ N, 0 ≤ N ∧ N ≤ 2199023255553 - loc ∧ (∀ i, 0 ≤ i → i < N → hi' loc hi d (loc + i) < t) ∧ (∀ i, N ≤ i → i < 2199023255553 - loc → ¬ hi' loc hi d (loc + i) < t) ∧
    clock_Until.f loc lo hi d t = some (if N = 0 then -1 else loc + N - 1) := by
  have hv' := hv
  obtain ⟨v0, v1, v2, v3, v4⟩ := hv'
  have hl : ∀ i, 0 ≤ i → i < 2199023255553 - loc → clock_Until.late loc lo hi d t i = !decide (hi' loc hi d (loc + i) < t) := by
    intro i h0 h1
    unfold clock_Until.late
    rw [read_at 1 (by omega) hv (by omega), RD_ok hv (by omega) (by omega)]
  have hs := bs_spec (clock_Until.late loc lo hi d t) 64 0 (2199023255553 - loc) (by omega) (by omega) (fun i j a b e hp => by
    rw [hl i a (by omega)] at hp
    rw [hl j (by omega) e]
    have := hi_mono (loc := loc) (hi := hi) v4 (show loc + i ≤ loc + j by omega)
    simp at hp ⊢
    omega)
  refine ⟨bs (clock_Until.late loc lo hi d t) 64 0 (2199023255553 - loc), hs.1, hs.2.1, fun i h0 h1 => ?_, fun i h0 h1 => ?_, ?_⟩
  · have := hs.2.2.1 i h0 h1
    rw [hl i h0 (by omega)] at this
    simpa using this
  · have := hs.2.2.2 i h0 h1
    rw [hl i (by omega) h1] at this
    simpa using this
  · unfold clock_Until.f
    rw [if_pos ⟨v0, v1, v3, v4⟩]

theorem early_is (k : Nat) (h : 1 ≤ k) {loc lo hi d x : Int} (t : Int) (hv : VC loc lo hi d) (h0 : loc ≤ x) (h1 : x ≤ 2199023255552) : weirgateref05_early.f k loc lo hi d x t = some (decide (hi' loc hi d x < t)) := by
  unfold weirgateref05_early.f
  have hv' := hv
  obtain ⟨v0, v1, v2, v3, v4⟩ := hv'
  rw [rread_at k h hv (by omega), RD_ok hv h0 h1]
  simp [weirgateref05_Before.f]

theorem runtil_loop {loc lo hi d : Int} (t : Int) (hv : VC loc lo hi d) (N : Int) (hN0 : 0 ≤ N) (hN1 : N ≤ 2199023255553 - loc) (hb1 : ∀ i, 0 ≤ i → i < N → hi' loc hi d (loc + i) < t) (hb2 : ∀ i, N ≤ i → i < 2199023255553 - loc → ¬ hi' loc hi d (loc + i) < t) :
    ∀ (j : Nat) (k : Nat) (low high : Int), j + 2 ≤ k → loc - 1 ≤ low → low ≤ loc + N - 1 → loc + N ≤ high → high ≤ 2199023255553 → high - low ≤ 2 ^ j →
    weirgateref05_Until.l0 k t low high loc lo hi d = some (if N = 0 then -1 else loc + N - 1) := by
  have hv' := hv
  obtain ⟨v0, v1, v2, v3, v4⟩ := hv'
  intro j
  induction j with
  | zero =>
    intro k low high hk h1 h2 h3 h4 h5
    obtain ⟨k, rfl⟩ : ∃ m, k = m + 1 := ⟨k - 1, by omega⟩
    simp at h5
    simp only [weirgateref05_Until.l0]
    rw [w64 (a := high - low) (by omega) (by omega), if_neg (by omega)]
    by_cases c : low < loc
    · rw [if_pos c, if_pos (by omega)]
    · rw [if_neg c, if_neg (by omega)]; congr 1; omega
  | succ j ih =>
    intro k low high hk h1 h2 h3 h4 h5
    obtain ⟨k, rfl⟩ : ∃ m, k = m + 1 := ⟨k - 1, by omega⟩
    have h6 : high - low ≤ 2 * 2 ^ j := by rw [Int.pow_succ] at h5; omega
    have h7 : (1 : Int) ≤ 2 ^ j := by have := Int.pow_pos (n := 2) (m := j) (by omega); omega
    simp only [weirgateref05_Until.l0]
    rw [w64 (a := high - low) (by omega) (by omega)]
    by_cases c : high - low > 1
    · rw [if_pos c, w64 (a := low + high) (by omega) (by omega)]
      have e : wrap64 (Int.tdiv (low + high) 2) = (low + high) / 2 := by
        rw [tdiv_e (by omega), w64 (by omega) (by omega)]
      rw [e, early_is k (by omega) t hv (by omega) (by omega)]
      simp only [Option.bind_some, decide_eq_true_eq]
      have hx : hi' loc hi d ((low + high) / 2) = hi' loc hi d (loc + ((low + high) / 2 - loc)) := by congr 1; omega
      by_cases c2 : hi' loc hi d ((low + high) / 2) < t
      · rw [if_pos c2]
        refine ih k _ _ (by omega) (by omega) ?_ h3 h4 (by omega)
        rcases Int.lt_or_le ((low + high) / 2) (loc + N) with g | g
        · omega
        · exact absurd (hx ▸ c2) (hb2 _ (by omega) (by omega))
      · rw [if_neg c2]
        refine ih k _ _ (by omega) (by omega) h2 ?_ (by omega) (by omega)
        rcases Int.lt_or_le ((low + high) / 2) (loc + N) with g | g
        · exact absurd (hx ▸ hb1 _ (by omega) (by omega)) c2
        · omega
    · rw [if_neg c]
      by_cases c : low < loc
      · rw [if_pos c, if_pos (by omega)]
      · rw [if_neg c, if_neg (by omega)]; congr 1; omega
theorem runtil_is (k : Nat) {loc lo hi d : Int} (t : Int) (hk : 55 ≤ k) (hv : VC loc lo hi d) (ht0 : 0 ≤ t) (ht1 : t ≤ 1099511627776) (N : Int) (hN0 : 0 ≤ N) (hN1 : N ≤ 2199023255553 - loc) (hb1 : ∀ i, 0 ≤ i → i < N → hi' loc hi d (loc + i) < t) (hb2 : ∀ i, N ≤ i → i < 2199023255553 - loc → ¬ hi' loc hi d (loc + i) < t) :
    weirgateref05_Until.f k loc lo hi d t = some (if N = 0 then -1 else loc + N - 1) := by
  have hv' := hv
  obtain ⟨v0, v1, v2, v3, v4⟩ := hv'
  unfold weirgateref05_Until.f
  rw [w64 (by omega) (by omega)]
  exact runtil_loop t hv N hN0 hN1 hb1 hb2 50 k (loc - 1) 2199023255553 (by omega) (by omega) (by omega) (by omega) (by omega) (by omega)

theorem ClockLastsAsSpecified (x0 : S25) (x1 : Int) (x2 : Int) (g0 : ((Lit.int .i64 x0.f0).wf = true) ∧ ((((Lit.int .i64 x0.f1.f0).wf = true) ∧ ((Lit.int .i64 x0.f1.f1).wf = true)) ∧ ((Lit.int .i64 x0.f2).wf = true))) (g1 : (Lit.int .i64 x1).wf = true) (g2 : (Lit.int .i64 x2).wf = true) : ∃ k, weirgatelaw05_ClockLastsAsSpecified.f k x0.f0 x0.f1.f0 x0.f1.f1 x0.f2 x1 x2 = some true := by
  have w1 := wf_iff g1
  obtain ⟨m, hm⟩ : ∃ m : Nat, 60 ≤ m := ⟨60, by omega⟩
  refine ⟨m + 5, ?_⟩
  unfold weirgatelaw05_ClockLastsAsSpecified.f
  rw [instant_eq, rcheck_eq]
  simp only [Option.bind_some]
  have h0 : ∀ b, b = true → weirgatelaw05_ClockLastsAsSpecified.j0 (m + 5) x1 x2 b x0.f0 x0.f1.f0 x0.f1.f1 x0.f2 = some true := by
    intro b hb
    subst hb
    simp only [weirgatelaw05_ClockLastsAsSpecified.j0, if_true]
    rw [sanity_at (m + 4) (by omega)]; rfl
  by_cases hv : VC x0.f0 x0.f1.f0 x0.f1.f1 x0.f2
  case neg => simp only [if_neg hv, show ((1 : Int) = 0) = False by simp, if_false]; exact h0 _ rfl
  simp only [if_pos hv, if_true]
  by_cases ht : 0 ≤ x2 ∧ x2 ≤ 1099511627776
  case neg => exact h0 _ (by rw [decide_eq_false ht]; rfl)
  obtain ⟨N, hN0, hN1, hb1, hb2, hu⟩ := until_is x2 hv
  have hru := runtil_is (m + 4) x2 (by omega) hv ht.1 ht.2 N hN0 hN1 hb1 hb2
  have hru3 := runtil_is (m + 3) x2 (by omega) hv ht.1 ht.2 N hN0 hN1 hb1 hb2
  have hv' := hv
  obtain ⟨v0, v1, v2, v3, v4⟩ := hv'
  obtain ⟨U, hU⟩ : ∃ U, (if N = 0 then (-1 : Int) else x0.f0 + N - 1) = U := ⟨_, rfl⟩
  rw [hU] at hu hru hru3
  have hUc : (N = 0 ∧ U = -1) ∨ (0 < N ∧ U = x0.f0 + N - 1) := by
    by_cases n0 : N = 0
    · rw [if_pos n0] at hU; exact .inl ⟨n0, hU.symm⟩
    · rw [if_neg n0] at hU; exact .inr ⟨by omega, hU.symm⟩
  simp only [weirgatelaw05_ClockLastsAsSpecified.j0]
  rw [if_neg (by rw [decide_eq_true ht]; simp), hu, hru]
  simp only [Option.bind_some, if_true]
  have hw : ∃ W, clock_Worth.f x0.f0 x0.f1.f0 x0.f1.f1 x0.f2 x1 x2 = some W ∧ weirgateref05_Worth.f (m + 4) x0.f0 x0.f1.f0 x0.f1.f1 x0.f2 x1 x2 = some W := by
    unfold clock_Worth.f weirgateref05_Worth.f
    by_cases c1 : x1 < x0.f0
    · rw [if_pos c1, if_pos c1]; exact ⟨0, rfl, by simp [weirgateref05_Worth.j0]⟩
    by_cases c2 : x1 > 2199023255552
    · rw [if_neg c1, if_neg c1, if_pos c2]; exact ⟨0, rfl, by simp [weirgateref05_Worth.j0, c2]⟩
    rw [if_neg c1, if_neg c1, if_neg c2, hu]
    simp only [weirgateref05_Worth.j0]
    rw [if_neg (by simpa using c2), hru3]
    simp only [Option.bind_some]
    refine ⟨_, rfl, ?_⟩
    rw [w64 (a := U + 1) (by omega) (by omega), w64 (a := U + 1 - x1) (by omega) (by omega)]
    unfold mx
    by_cases c3 : U + 1 - x1 < 0
    · rw [if_pos c3, if_pos c3]
    · rw [if_neg c3, if_neg c3]
  obtain ⟨W, hw1, hw2⟩ := hw
  rw [hw1, hw2]
  simp only [Option.bind_some, bne_self_eq_false]
  simp only [weirgatelaw05_ClockLastsAsSpecified.j1, Bool.false_eq_true, if_false]
  have hnx : mx (wrap64 (U + 1)) x0.f0 = x0.f0 + N := by
    rw [w64 (a := U + 1) (by omega) (by omega)]
    unfold mx
    split <;> omega
  rw [hnx, read_at (m + 3) (by omega) hv (by omega)]
  simp only [Option.bind_some]
  have hlast : (weirgatelaw05_sanity.f (m + 3)).bind (fun t263 => if t263 = true then (if (RD x0.f0 x0.f1.f0 x0.f1.f1 x0.f2 (x0.f0 + N)).2.2 = 0 then ((clock_Before.f (RD x0.f0 x0.f1.f0 x0.f1.f1 x0.f2 (x0.f0 + N)).1 (RD x0.f0 x0.f1.f0 x0.f1.f1 x0.f2 (x0.f0 + N)).2.1 x2).bind fun t264 => (some (!t264))) else (some true)) else (some false)) = some true := by
    rw [sanity_at (m + 3) (by omega)]
    simp only [Option.bind_some, if_true]
    by_cases e : (RD x0.f0 x0.f1.f0 x0.f1.f1 x0.f2 (x0.f0 + N)).2.2 = 0
    · rw [if_pos e]
      obtain ⟨a1, b1, c1⟩ := RD_err e
      rw [RD_ok hv a1 c1]
      have := hb2 N (Int.le_refl _) (by omega)
      simp [clock_Before.f]
      omega
    · rw [if_neg e]
  by_cases c : U ≥ 0
  · rw [if_pos c]
    have hn : 0 < N ∧ U = x0.f0 + N - 1 := by omega
    rw [read_at (m + 3) (by omega) hv (by omega), RD_ok hv (by omega) (by omega)]
    simp only [Option.bind_some, if_true, clock_Before.f]
    have := hb1 (N - 1) (by omega) (by omega)
    rw [decide_eq_true (show hi' x0.f0 x0.f1.f1 x0.f2 U < x2 by rw [show U = x0.f0 + (N - 1) by omega]; exact this)]
    simp only [weirgatelaw05_ClockLastsAsSpecified.j2, Bool.not_true, Bool.false_eq_true, if_false]
    rw [sanity_at (m + 2) (by omega)]
    rw [sanity_at (m + 3) (by omega)] at hlast
    exact hlast
  · rw [if_neg c]
    exact hlast
end Go.Proofs.Ytijeiemdhpkklaa.Pure
