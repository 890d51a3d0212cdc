import Derived.Test.YtijeiemdhpkklaaPP0
import Derived.Test.YtijeiemdhpkklaaPP3
import Derived.Test.YtijeiemdhpkklaaPP6
import Derived.Test.YtijeiemdhpkklaaPP7
import Derived.Test.YtijeiemdhpkklaaPP8
namespace Go.Proofs.Ytijeiemdhpkklaa.PureC
open Go.RowKit Go.Proofs.Ytijeiemdhpkklaa.PP Go.Proofs.YtijeiemdhpkklaaW.PrintWords Go.Proofs.YtijeiemdhpkklaaW.PrintLast

theorem sanity_true : weirgatelaw05_sanity.f 60 = some true := by kernel_rfl
theorem sanity_at (k : Nat) (h : 60 ≤ k) : weirgatelaw05_sanity.f k = some true := at_rounds (fun k => weirgatelaw05_sanity.mono k) h sanity_true
theorem wf_iff {a : Int} (h : (Lit.int .i64 a).wf = true) : -9223372036854775808 ≤ a ∧ a ≤ 9223372036854775807 := by
  change (decide (-9223372036854775808 ≤ a) && decide (a ≤ 9223372036854775807)) = true at h
  simpa using h
theorem w64 {a : Int} (h0 : -9223372036854775808 ≤ a) (h1 : a ≤ 9223372036854775807) : wrap64 a = a := by unfold wrap64; omega

/-- A period is valid. -/
abbrev VP (lo hi : Int) : Prop := 0 ≤ lo ∧ lo ≤ hi ∧ hi ≤ 1099511627776
/-- A clock is right. -/
abbrev VC (loc lo hi d : Int) : Prop := 0 ≤ loc ∧ loc ≤ 2199023255552 ∧ VP lo hi ∧ 0 ≤ d ∧ d ≤ 100000

theorem valid_eq (lo hi : Int) : clock_Valid.f lo hi = some (decide (VP lo hi)) := by
  unfold clock_Valid.f VP
  by_cases h0 : lo ≥ 0 <;> by_cases h1 : lo ≤ hi <;> by_cases h2 : hi ≤ 1099511627776 <;> simp [h0, h1, h2] <;> omega
theorem instant_eq (a : Int) : weirgateref05_Instant.f a = some (decide (0 ≤ a ∧ a ≤ 1099511627776)) := by
  unfold weirgateref05_Instant.f
  by_cases h0 : a ≥ 0 <;> by_cases h1 : a ≤ 1099511627776 <;> simp [h0, h1] <;> omega
theorem rvalid_eq (lo hi : Int) : weirgateref05_Valid.f lo hi = some (decide (VP lo hi)) := by
  unfold weirgateref05_Valid.f VP
  rw [instant_eq, instant_eq]
  simp only [Option.bind_some]
  by_cases h0 : (0 ≤ lo ∧ lo ≤ 1099511627776) <;> by_cases h1 : (0 ≤ hi ∧ hi ≤ 1099511627776) <;> simp only [h0, h1, decide_true, decide_false, if_true, Option.some.injEq, decide_eq_decide] <;> simp <;> omega
theorem check_eq (loc lo hi d : Int) : clock_Check.f loc lo hi d = some (if VC loc lo hi d then 0 else 1) := by
  unfold clock_Check.f
  rw [valid_eq]
  simp only [Option.bind_some]
  unfold VC
  by_cases h0 : loc < 0
  · rw [if_pos h0, if_neg (by omega)]
  by_cases h1 : loc > 2199023255552
  · rw [if_neg h0, if_pos h1, if_neg (by omega)]
  rw [if_neg h0, if_neg h1]
  by_cases h2 : VP lo hi
  · rw [if_pos (decide_eq_true h2)]
    by_cases h3 : d < 0
    · rw [if_pos h3, if_neg (by omega)]
    by_cases h4 : d > 100000
    · rw [if_neg h3, if_pos h4, if_neg (by omega)]
    rw [if_neg h3, if_neg h4, if_pos ⟨by omega, by omega, h2, by omega, by omega⟩]
  · rw [if_neg (by simpa using h2), if_neg (fun h => h2 h.2.2.1)]
theorem rcheck_eq (loc lo hi d : Int) : weirgateref05_Check.f loc lo hi d = some (if VC loc lo hi d then 0 else 1) := by
  rw [← check_eq]
  unfold weirgateref05_Check.f clock_Check.f
  rw [valid_eq, rvalid_eq]
theorem new_eq (loc lo hi d : Int) : clock_New.f loc lo hi d = some (if VC loc lo hi d then (loc, lo, hi, d, 0) else (0, 0, 0, 0, 1)) := by
  unfold clock_New.f
  rw [check_eq]
  simp only [Option.bind_some]
  by_cases h : VC loc lo hi d <;> simp [h]

/-- The least integer that is not less than X / Y. -/
def cdiv (X Y : Int) : Int := (X + Y - 1) / Y
theorem cdiv_spec {X Y : Int} (hY : 0 < Y) : X ≤ cdiv X Y * Y ∧ cdiv X Y * Y < X + Y := by
  unfold cdiv
  have h1 := Int.ediv_mul_le (X + Y - 1) (show Y ≠ 0 by omega)
  have h2 := Int.lt_ediv_add_one_mul_self (X + Y - 1) hY
  rw [Int.add_mul] at h2
  omega
theorem mul_lt_cancel {a b Y : Int} (hY : 0 < Y) (h : a * Y < b * Y) : a < b := Int.lt_of_mul_lt_mul_right h (Int.le_of_lt hY)
theorem cdiv_unique {X Y q : Int} (hY : 0 < Y) (h0 : X ≤ q * Y) (h1 : q * Y < X + Y) : cdiv X Y = q := by
  have hs := cdiv_spec (X := X) hY
  have a := mul_lt_cancel (a := cdiv X Y) (b := q + 1) hY (by rw [Int.add_mul]; omega)
  have b := mul_lt_cancel (a := q) (b := cdiv X Y + 1) hY (by rw [Int.add_mul]; omega)
  omega
theorem cdiv_le {X Y M : Int} (hY : 0 < Y) (h : X ≤ M * Y) : cdiv X Y ≤ M := by
  have hs := cdiv_spec (X := X) hY
  have := mul_lt_cancel (a := cdiv X Y) (b := M + 1) hY (by rw [Int.add_mul]; omega)
  omega
theorem cdiv_nonneg {X Y : Int} (hY : 0 < Y) (h : 0 ≤ X) : 0 ≤ cdiv X Y := by
  have hs := cdiv_spec (X := X) hY
  have := mul_lt_cancel (a := -1) (b := cdiv X Y) hY (by omega)
  omega

/-- What a reading says. -/
def lo' (loc lo d x : Int) : Int := mn (lo + cdiv (mx (x - loc - 1) 0 * 1000000) (1000000 + d)) 1099511627776
def hi' (loc hi d x : Int) : Int := mn (hi + (x - loc + 1) * 1000000 / (1000000 - d)) 1099511627776
def RD (loc lo hi d x : Int) : Int × Int × Int := if x < 0 ∨ x > 2199023255552 then (0, 0, 1) else if x < loc then (0, 0, 9) else (lo' loc lo d x, hi' loc hi d x, 0)

theorem hq_bound {n d : Int} (hn0 : 0 ≤ n) (hn : n ≤ 2199023255553) (hd0 : 0 ≤ d) (hd : d ≤ 100000) : 0 ≤ n * 1000000 / (1000000 - d) ∧ n * 1000000 / (1000000 - d) ≤ 4398046511106 := by
  have hY : 0 < 1000000 - d := by omega
  refine ⟨Int.ediv_nonneg (by omega) (by omega), ?_⟩
  have := Int.ediv_mul_le (n * 1000000) (show (1000000 - d) ≠ 0 by omega)
  have h := mul_lt_cancel (a := n * 1000000 / (1000000 - d)) (b := 4398046511107) hY (by
    have : 4398046511107 * 900000 ≤ 4398046511107 * (1000000 - d) := Int.mul_le_mul_of_nonneg_left (by omega) (by omega)
    omega)
  omega

theorem tdiv_e {a b : Int} (h : 0 ≤ a) : Int.tdiv a b = a / b := Int.tdiv_eq_ediv_of_nonneg h

theorem mx_eq (a b : Int) : mx a b = if a < b then b else a := rfl
theorem mn_eq (a b : Int) : mn a b = if b < a then b else a := rfl
theorem mx0 {a : Int} : 0 ≤ mx a 0 ∧ a ≤ mx a 0 ∧ (mx a 0 = a ∨ mx a 0 = 0) := by unfold mx; split <;> omega

theorem read_eq (k : Nat) {loc lo hi d x : Int} (hv : VC loc lo hi d) (hx : -9223372036854775808 ≤ x ∧ x ≤ 9223372036854775807) : clock_Read.f (k + 1) loc lo hi d x = some (RD loc lo hi d x) := by
  obtain ⟨h0, h1, ⟨h2, h3, h4⟩, h5, h6⟩ := hv
  unfold clock_Read.f RD
  by_cases c0 : x < 0
  · rw [if_pos c0, if_pos (.inl c0)]; simp [clock_Read.j0]
  by_cases c1 : x > 2199023255552
  · rw [if_neg c0, if_pos (.inr c1)]; simp [clock_Read.j0, c1]
  rw [if_neg c0, if_neg (by omega), decide_eq_false c1]
  simp only [clock_Read.j0]
  rw [if_neg (by simp)]
  by_cases c2 : x < loc
  · rw [if_pos c2, if_pos c2]
  rw [if_neg c2, if_neg c2]
  have e1 : wrap64 (1000000 + d) = 1000000 + d := w64 (by omega) (by omega)
  have e2 : wrap64 (1000000 - d) = 1000000 - d := w64 (by omega) (by omega)
  have e3 : wrap64 (x - loc) = x - loc := w64 (by omega) (by omega)
  have e4 : wrap64 (x - loc - 1) = x - loc - 1 := w64 (by omega) (by omega)
  have e5 : wrap64 (x - loc + 1) = x - loc + 1 := w64 (by omega) (by omega)
  have m := mx0 (a := x - loc - 1)
  have e6 : wrap64 (mx (x - loc - 1) 0 * 1000000) = mx (x - loc - 1) 0 * 1000000 := w64 (by omega) (by omega)
  have e7 : wrap64 (mx (x - loc - 1) 0 * 1000000 + (1000000 + d)) = mx (x - loc - 1) 0 * 1000000 + (1000000 + d) := w64 (by omega) (by omega)
  have e8 : wrap64 (mx (x - loc - 1) 0 * 1000000 + (1000000 + d) - 1) = mx (x - loc - 1) 0 * 1000000 + (1000000 + d) - 1 := w64 (by omega) (by omega)
  have e9 : wrap64 ((x - loc + 1) * 1000000) = (x - loc + 1) * 1000000 := w64 (by omega) (by omega)
  have hY : 0 < 1000000 + d := by omega
  have q0 := cdiv_nonneg (X := mx (x - loc - 1) 0 * 1000000) hY (by omega)
  have q1 := cdiv_le (X := mx (x - loc - 1) 0 * 1000000) (M := 2199023255552) hY (by
    have : 2199023255552 * 1000000 ≤ 2199023255552 * (1000000 + d) := Int.mul_le_mul_of_nonneg_left (by omega) (by omega)
    omega)
  have hb := hq_bound (n := x - loc + 1) (by omega) (by omega) h5 h6
  have t1 : Int.tdiv (mx (x - loc - 1) 0 * 1000000 + (1000000 + d) - 1) (1000000 + d) = cdiv (mx (x - loc - 1) 0 * 1000000) (1000000 + d) := by rw [tdiv_e (by omega)]; rfl
  have t2 : Int.tdiv ((x - loc + 1) * 1000000) (1000000 - d) = (x - loc + 1) * 1000000 / (1000000 - d) := tdiv_e (by omega)
  have f1 : wrap64 (cdiv (mx (x - loc - 1) 0 * 1000000) (1000000 + d)) = cdiv (mx (x - loc - 1) 0 * 1000000) (1000000 + d) := w64 (by omega) (by omega)
  have f2 : wrap64 ((x - loc + 1) * 1000000 / (1000000 - d)) = (x - loc + 1) * 1000000 / (1000000 - d) := w64 (by omega) (by omega)
  have f3 : wrap64 (lo + cdiv (mx (x - loc - 1) 0 * 1000000) (1000000 + d)) = lo + cdiv (mx (x - loc - 1) 0 * 1000000) (1000000 + d) := w64 (by omega) (by omega)
  have f4 : wrap64 (hi + (x - loc + 1) * 1000000 / (1000000 - d)) = hi + (x - loc + 1) * 1000000 / (1000000 - d) := w64 (by omega) (by omega)
  simp only [e1, e2, e3, e4, e5, e6, e7, e8, e9, t1, t2, f1, f2, f3, f4]
  rw [if_neg (by omega), if_neg (by omega)]
  rfl

theorem clip_eq {a : Int} (h : 0 ≤ a) : weirgateref05_clip.f a = some (mn a 1099511627776) := by
  unfold weirgateref05_clip.f mn
  rw [if_neg (by omega)]
  by_cases c : a > 1099511627776
  · rw [if_pos c, if_pos (by omega)]
  · rw [if_neg c, if_neg (by omega)]

theorem rread_eq (k : Nat) {loc lo hi d x : Int} (hv : VC loc lo hi d) (hx : -9223372036854775808 ≤ x ∧ x ≤ 9223372036854775807) : weirgateref05_Read.f (k + 1) loc lo hi d x = some (RD loc lo hi d x) := by
  obtain ⟨h0, h1, ⟨h2, h3, h4⟩, h5, h6⟩ := hv
  unfold weirgateref05_Read.f RD
  by_cases c0 : x < 0
  · rw [if_pos c0, if_pos (.inl c0)]; simp [weirgateref05_Read.j0]
  by_cases c1 : x > 2199023255552
  · rw [if_neg c0, if_pos (.inr c1)]; simp [weirgateref05_Read.j0, c1]
  rw [if_neg c0, if_neg (by omega), decide_eq_false c1]
  simp only [weirgateref05_Read.j0]
  rw [if_neg (by simp)]
  have e1 : wrap64 (1000000 + d) = 1000000 + d := w64 (by omega) (by omega)
  have e2 : wrap64 (1000000 - d) = 1000000 - d := w64 (by omega) (by omega)
  have e3 : wrap64 (x - loc) = x - loc := w64 (by omega) (by omega)
  have e4 : wrap64 (x - loc - 1) = x - loc - 1 := w64 (by omega) (by omega)
  have e5 : wrap64 (x - loc + 1) = x - loc + 1 := w64 (by omega) (by omega)
  simp only [e3]
  by_cases c2 : x < loc
  · rw [if_pos (by omega), if_pos c2]
  rw [if_neg (by omega), if_neg c2]
  have e9 : wrap64 ((x - loc + 1) * 1000000) = (x - loc + 1) * 1000000 := w64 (by omega) (by omega)
  have hY : 0 < 1000000 + d := by omega
  have hb := hq_bound (n := x - loc + 1) (by omega) (by omega) h5 h6
  have t2 : Int.tdiv ((x - loc + 1) * 1000000) (1000000 - d) = (x - loc + 1) * 1000000 / (1000000 - d) := tdiv_e (by omega)
  have f2 : wrap64 ((x - loc + 1) * 1000000 / (1000000 - d)) = (x - loc + 1) * 1000000 / (1000000 - d) := w64 (by omega) (by omega)
  have f4 : wrap64 (hi + (x - loc + 1) * 1000000 / (1000000 - d)) = hi + (x - loc + 1) * 1000000 / (1000000 - d) := w64 (by omega) (by omega)
  have g2 := clip_eq (a := hi + (x - loc + 1) * 1000000 / (1000000 - d)) (by omega)
  by_cases c3 : x - loc > 0
  · rw [if_pos c3]
    have m : mx (x - loc - 1) 0 = x - loc - 1 := by unfold mx; rw [if_neg (by omega)]
    have e6 : wrap64 ((x - loc - 1) * 1000000) = (x - loc - 1) * 1000000 := w64 (by omega) (by omega)
    have t1 : Int.tdiv ((x - loc - 1) * 1000000) (1000000 + d) = (x - loc - 1) * 1000000 / (1000000 + d) := tdiv_e (by omega)
    have p1 := Int.ediv_mul_le ((x - loc - 1) * 1000000) (show (1000000 + d) ≠ 0 by omega)
    have p2 := Int.lt_ediv_add_one_mul_self ((x - loc - 1) * 1000000) hY
    have p3 : 0 ≤ (x - loc - 1) * 1000000 / (1000000 + d) := Int.ediv_nonneg (by omega) (by omega)
    have p4 : (x - loc - 1) * 1000000 / (1000000 + d) ≤ 2199023255552 := by
      have := mul_lt_cancel (a := (x - loc - 1) * 1000000 / (1000000 + d)) (b := 2199023255553) hY (by
        have : 2199023255553 * 1000000 ≤ 2199023255553 * (1000000 + d) := Int.mul_le_mul_of_nonneg_left (by omega) (by omega)
        omega)
      omega
    have p5 : 0 ≤ (x - loc - 1) * 1000000 / (1000000 + d) * (1000000 + d) := Int.mul_nonneg p3 (by omega)
    have cu := fun q a b => cdiv_unique (X := (x - loc - 1) * 1000000) (q := q) hY a b
    unfold lo' hi'
    rw [m]
    generalize hq : (x - loc - 1) * 1000000 / (1000000 + d) = q at *
    rw [Int.add_mul] at p2
    have f1 : wrap64 q = q := w64 (by omega) (by omega)
    have f5 : wrap64 (q * (1000000 + d)) = q * (1000000 + d) := w64 (by omega) (by omega)
    have f6 : wrap64 (q + 1) = q + 1 := w64 (by omega) (by omega)
    have f7 : wrap64 (lo + (q + 1)) = lo + (q + 1) := w64 (by omega) (by omega)
    have f8 : wrap64 (lo + q) = lo + q := w64 (by omega) (by omega)
    simp only [e1, e2, e4, e5, e6, e9, t1, t2, f1, f2, f4, f5, f6, f7, f8]
    rw [if_neg (by omega)]
    by_cases c4 : q * (1000000 + d) < (x - loc - 1) * 1000000
    · rw [if_pos c4, if_neg (by omega), clip_eq (a := lo + (q + 1)) (by omega), g2, cu (q + 1) (by rw [Int.add_mul]; omega) (by rw [Int.add_mul]; omega)]
      rfl
    · rw [if_neg c4, if_neg (by omega), clip_eq (a := lo + q) (by omega), g2, cu q (by omega) (by omega)]
      rfl
  · rw [if_neg c3]
    have m : mx (x - loc - 1) 0 = 0 := by unfold mx; rw [if_pos (by omega)]
    have cz : cdiv 0 (1000000 + d) = 0 := cdiv_unique hY (by omega) (by omega)
    have f7 : wrap64 lo = lo := w64 (by omega) (by omega)
    simp only [e2, e5, e9, t2, f2, f4, f7]
    rw [if_neg (by omega), clip_eq (a := lo) (by omega), g2]
    unfold lo' hi'
    rw [m, Int.zero_mul, cz, Int.add_zero]
    rfl

theorem meet_eq (a b c d : Int) : clock_Meet.f a b c d = some (if mx a c > mn b d then (0, 0, false) else (mx a c, mn b d, true)) := by
  unfold clock_Meet.f
  split <;> rfl
theorem rmeet_eq (k : Nat) (a b c d : Int) : weirgateref05_Meet.f (k + 1) a b c d = some (if mx a c > mn b d then (0, 0, false) else (mx a c, mn b d, true)) := by
  unfold weirgateref05_Meet.f mx mn
  by_cases h0 : c > a
  · rw [if_pos h0]
    simp only [weirgateref05_Meet.j0]
    rw [if_pos (show a < c by omega)]
    by_cases h1 : d < b
    · rw [if_pos h1, if_pos h1]; split <;> rfl
    · rw [if_neg h1, if_neg h1]; split <;> rfl
  · rw [if_neg h0]
    simp only [weirgateref05_Meet.j0]
    rw [if_neg (show ¬ a < c by omega)]
    by_cases h1 : d < b
    · rw [if_pos h1, if_pos h1]; split <;> rfl
    · rw [if_neg h1, if_neg h1]; split <;> rfl

theorem read_at (k : Nat) (h : 1 ≤ k) {loc lo hi d x : Int} (hv : VC loc lo hi d) (hx : -9223372036854775808 ≤ x ∧ x ≤ 9223372036854775807) : clock_Read.f k loc lo hi d x = some (RD loc lo hi d x) := by
  obtain ⟨k, rfl⟩ : ∃ m, k = m + 1 := ⟨k - 1, by omega⟩
  exact read_eq k hv hx
theorem rread_at (k : Nat) (h : 1 ≤ k) {loc lo hi d x : Int} (hv : VC loc lo hi d) (hx : -9223372036854775808 ≤ x ∧ x ≤ 9223372036854775807) : weirgateref05_Read.f k loc lo hi d x = some (RD loc lo hi d x) := by
  obtain ⟨k, rfl⟩ : ∃ m, k = m + 1 := ⟨k - 1, by omega⟩
  exact rread_eq k hv hx

/-- What Sync says. -/
def SY (loc lo hi d x p q : Int) : Int × Int × Int × Int × Int :=
  if VP p q then
    if (RD loc lo hi d x).2.2 = 0 then
      if mx (RD loc lo hi d x).1 p > mn (RD loc lo hi d x).2.1 q then (0, 0, 0, 0, 9) else (x, mx (RD loc lo hi d x).1 p, mn (RD loc lo hi d x).2.1 q, d, 0)
    else (0, 0, 0, 0, (RD loc lo hi d x).2.2)
  else (0, 0, 0, 0, 1)
theorem sync_eq (k : Nat) {loc lo hi d x : Int} (p q : Int) (hv : VC loc lo hi d) (hx : -9223372036854775808 ≤ x ∧ x ≤ 9223372036854775807) : clock_Sync.f (k + 1) loc lo hi d x p q = some (SY loc lo hi d x p q) := by
  unfold clock_Sync.f SY
  rw [valid_eq, read_eq k hv hx]
  simp only [Option.bind_some]
  generalize RD loc lo hi d x = r
  rw [meet_eq]
  simp only [Option.bind_some]
  by_cases h0 : VP p q
  · rw [if_pos (decide_eq_true h0), if_pos h0]
    by_cases h1 : r.2.2 = 0
    · rw [if_pos h1, if_pos h1]
      by_cases h2 : mx r.1 p > mn r.2.1 q
      · rw [if_pos h2, if_pos h2]; rfl
      · rw [if_neg h2, if_neg h2]; rfl
    · rw [if_neg h1, if_neg h1]
  · rw [if_neg (by simpa using h0), if_neg h0]
theorem rsync_eq (k : Nat) {loc lo hi d x : Int} (p q : Int) (hv : VC loc lo hi d) (hx : -9223372036854775808 ≤ x ∧ x ≤ 9223372036854775807) : weirgateref05_Sync.f (k + 1) loc lo hi d x p q = some (SY loc lo hi d x p q) := by
  rw [← sync_eq k p q hv hx]
  unfold weirgateref05_Sync.f clock_Sync.f
  rw [valid_eq, rvalid_eq, read_eq k hv hx, rread_eq k hv hx]
  simp only [Option.bind_some, meet_eq, rmeet_eq]
theorem sync_at (k : Nat) (h : 1 ≤ k) {loc lo hi d x : Int} (p q : Int) (hv : VC loc lo hi d) (hx : -9223372036854775808 ≤ x ∧ x ≤ 9223372036854775807) : clock_Sync.f k loc lo hi d x p q = some (SY loc lo hi d x p q) := by
  obtain ⟨k, rfl⟩ : ∃ m, k = m + 1 := ⟨k - 1, by omega⟩
  exact sync_eq k p q hv hx
theorem rsync_at (k : Nat) (h : 1 ≤ k) {loc lo hi d x : Int} (p q : Int) (hv : VC loc lo hi d) (hx : -9223372036854775808 ≤ x ∧ x ≤ 9223372036854775807) : weirgateref05_Sync.f k loc lo hi d x p q = some (SY loc lo hi d x p q) := by
  obtain ⟨k, rfl⟩ : ∃ m, k = m + 1 := ⟨k - 1, by omega⟩
  exact rsync_eq k p q hv hx
/-- A right clock's readings: the period is in order, and grows. -/
theorem RD_ok {loc lo hi d x : Int} (hv : VC loc lo hi d) (h0 : loc ≤ x) (h1 : x ≤ 2199023255552) : RD loc lo hi d x = (lo' loc lo d x, hi' loc hi d x, 0) := by
  obtain ⟨a, b, c, e, f⟩ := hv
  unfold RD
  rw [if_neg (by omega), if_neg (by omega)]
theorem RD_err {loc lo hi d x : Int} (h : (RD loc lo hi d x).2.2 = 0) : loc ≤ x ∧ 0 ≤ x ∧ x ≤ 2199023255552 := by
  unfold RD at h
  split at h
  · simp at h
  · split at h
    · simp at h
    · omega
theorem cdiv_mono {X X' Y : Int} (hY : 0 < Y) (h : X ≤ X') : cdiv X Y ≤ cdiv X' Y := by
  have a := cdiv_spec (X := X) hY
  have b := cdiv_spec (X := X') hY
  have := mul_lt_cancel (a := cdiv X Y) (b := cdiv X' Y + 1) hY (by rw [Int.add_mul]; omega)
  omega
theorem lo_mono {loc lo d x y : Int} (hd : 0 ≤ d) (h : x ≤ y) : lo' loc lo d x ≤ lo' loc lo d y := by
  unfold lo'
  have hY : 0 < 1000000 + d := by omega
  have m : mx (x - loc - 1) 0 * 1000000 ≤ mx (y - loc - 1) 0 * 1000000 := by unfold mx; split <;> split <;> omega
  have := cdiv_mono hY m
  unfold mn
  split <;> split <;> omega
theorem hi_mono {loc hi d x y : Int} (hd : d ≤ 100000) (h : x ≤ y) : hi' loc hi d x ≤ hi' loc hi d y := by
  unfold hi'
  have := Int.ediv_le_ediv (show 0 < 1000000 - d by omega) (show (x - loc + 1) * 1000000 ≤ (y - loc + 1) * 1000000 by omega)
  unfold mn
  split <;> split <;> omega
theorem lo_hi {loc lo hi d x : Int} (hv : VC loc lo hi d) (h0 : loc ≤ x) : lo ≤ lo' loc lo d x ∧ lo' loc lo d x ≤ hi' loc hi d x ∧ hi' loc hi d x ≤ 1099511627776 := by
  obtain ⟨a, b, c, e, f⟩ := hv
  have hY : 0 < 1000000 + d := by omega
  have m := mx0 (a := x - loc - 1)
  have q := cdiv_nonneg (X := mx (x - loc - 1) 0 * 1000000) hY (by omega)
  have q2 := cdiv_le (X := mx (x - loc - 1) 0 * 1000000) (M := x - loc) hY (by
    have : (x - loc) * 1000000 ≤ (x - loc) * (1000000 + d) := Int.mul_le_mul_of_nonneg_left (by omega) (by omega)
    omega)
  have q3 : x - loc + 1 ≤ (x - loc + 1) * 1000000 / (1000000 - d) := by
    have p2 := Int.lt_ediv_add_one_mul_self ((x - loc + 1) * 1000000) (show 0 < 1000000 - d by omega)
    have := mul_lt_cancel (a := x - loc + 1) (b := (x - loc + 1) * 1000000 / (1000000 - d) + 1) (show 0 < 1000000 - d by omega) (by
      have : (x - loc + 1) * (1000000 - d) ≤ (x - loc + 1) * 1000000 := Int.mul_le_mul_of_nonneg_left (by omega) (by omega)
      omega)
    omega
  unfold lo' hi' mn
  split <;> split <;> omega
theorem RD_zero {loc lo hi d : Int} (hv : VC loc lo hi d) : lo' loc lo d loc = lo ∧ hi' loc hi d loc = mn (hi + 1) 1099511627776 := by
  obtain ⟨a, b, ⟨c, e, f⟩, g, h⟩ := hv
  unfold lo' hi'
  have m : mx (loc - loc - 1) 0 = 0 := by unfold mx; rw [if_pos (by omega)]
  have cz : cdiv 0 (1000000 + d) = 0 := cdiv_unique (by omega) (by omega) (by omega)
  have q : (loc - loc + 1) * 1000000 / (1000000 - d) = 1 := by
    rw [show (loc - loc + 1) * 1000000 = 1000000 by omega]
    exact Int.le_antisymm (by
      have p1 := Int.ediv_mul_le 1000000 (show (1000000 - d) ≠ 0 by omega)
      have := mul_lt_cancel (a := 1000000 / (1000000 - d)) (b := 2) (show 0 < 1000000 - d by omega) (by omega)
      omega) (by
      have p2 := Int.lt_ediv_add_one_mul_self 1000000 (show 0 < 1000000 - d by omega)
      have := mul_lt_cancel (a := 1) (b := 1000000 / (1000000 - d) + 1) (show 0 < 1000000 - d by omega) (by omega)
      omega)
  rw [m, Int.zero_mul, cz, q]
  refine ⟨?_, rfl⟩
  unfold mn
  rw [if_neg (by omega)]
  omega
end Go.Proofs.Ytijeiemdhpkklaa.PureC
