/- Readings of a true clock: what Show, Honest and the specification's say. -/
import Derived.Test.YtijeiemdhpkklaaPP0
import Derived.Test.YtijeiemdhpkklaaPP12
import Derived.Test.YtijeiemdhpkklaaPP16
import Derived.Test.YtijeiemdhpkklaaPureC
import Derived.Test.YtijeiemdhpkklaaGShow
namespace Go.Proofs.Ytijeiemdhpkklaa.PureC
open Go.RowKit Go.Proofs.Ytijeiemdhpkklaa.PP Go.Proofs.YtijeiemdhpkklaaW.PrintWords Go.Proofs.YtijeiemdhpkklaaW.PrintLast
set_option linter.unusedVariables false

theorem rright_ev (l : List S70) (D : Int) (h0 : -1000000000 ≤ D) (h1 : D ≤ 1000000000) (hl : l.length ≤ 8796093022208) : ∀ (d i : Nat), i + d = l.length → ∀ k, d + 1 ≤ k →
    weirgateref05_Right.l0 k l D (i : Int) = some ((l.drop i).all (okp D)) := by
  have hn : wrap64 (-D) = -D := w64 (by omega) (by omega)
  intro d
  induction d with
  | zero =>
    intro i hi k hk
    obtain ⟨k, rfl⟩ : ∃ m, k = m + 1 := ⟨k - 1, by omega⟩
    simp only [weirgateref05_Right.l0]
    rw [if_neg (by omega), List.drop_of_length_le (by omega)]
    rfl
  | succ d ih =>
    intro i hi k hk
    obtain ⟨k, rfl⟩ : ∃ m, k = m + 1 := ⟨k - 1, by omega⟩
    have hlt : i < l.length := by omega
    have hrd : rd_T70 l (i : Int) = l[i] := by unfold rd_T70; simp [hlt]
    have hw : wrap64 ((i : Int) + 1) = ((i + 1 : Nat) : Int) := by unfold wrap64; omega
    have hd : l.drop i = l[i] :: l.drop (i + 1) := List.drop_eq_getElem_cons hlt
    have hk' := ih (i + 1) (by omega) k (by omega)
    simp only [weirgateref05_Right.l0, hrd, hn, hw]
    rw [if_pos (by omega), if_pos (by omega), hd, List.all_cons, instant_eq]
    generalize l[i] = p at *
    unfold okp at *
    simp only [Option.bind_some]
    by_cases c1 : 0 ≤ p.f0 ∧ p.f0 ≤ 1099511627776
    case neg => rw [decide_eq_false c1]; simp; omega
    rw [if_pos (decide_eq_true c1)]
    by_cases c3 : p.f1 > D
    · rw [if_pos c3]; simp [show ¬ (p.f1 ≤ D) by omega]
    rw [if_neg c3]
    by_cases c4 : p.f1 < -D
    · rw [if_pos c4]; simp [show ¬ (-D ≤ p.f1) by omega]
    rw [if_neg c4, hk']
    simp [c1.1, c1.2, show p.f1 ≤ D by omega, show -D ≤ p.f1 by omega]
theorem rright_at (l : List S70) (D : Int) (h0 : -1000000000 ≤ D) (h1 : D ≤ 1000000000) (hl : l.length ≤ 8796093022208) (k : Nat) (hk : l.length + 1 ≤ k) : weirgateref05_Right.f k l D = some (rightB l D) := by
  unfold weirgateref05_Right.f rightB
  by_cases c : (l.length : Int) > 100
  · rw [if_pos c, decide_eq_false (show ¬ l.length ≤ 100 by omega)]; simp
  · rw [if_neg c, decide_eq_true (show l.length ≤ 100 by omega)]
    have := rright_ev l D h0 h1 hl l.length 0 (by omega) k hk
    simpa using this

/-- What has passed. -/
def PS : List S70 → Int → Int
  | [], t => t * 1000000
  | p :: r, t => mn p.f0 t * (1000000 + p.f1) + PS r (t - mn p.f0 t)
theorem mn_b {a t : Int} (h0 : 0 ≤ a) (h1 : 0 ≤ t) : 0 ≤ mn a t ∧ mn a t ≤ t := by unfold mn; split <;> omega
theorem PS_bound (l : List S70) (h : ∀ p ∈ l, 0 ≤ p.f0 ∧ -100000 ≤ p.f1 ∧ p.f1 ≤ 100000) : ∀ t, 0 ≤ t → 0 ≤ PS l t ∧ PS l t ≤ t * 1100000 := by
  induction l with
  | nil => intro t ht; simp only [PS]; omega
  | cons p r ih =>
    intro t ht
    obtain ⟨a, b, c⟩ := h p (by simp)
    have m := mn_b a ht
    have i := ih (fun q hq => h q (by simp [hq])) (t - mn p.f0 t) (by omega)
    simp only [PS]
    generalize mn p.f0 t = u at *
    have e1 : 0 ≤ u * (1000000 + p.f1) := Int.mul_nonneg m.1 (by omega)
    have e2 : u * (1000000 + p.f1) ≤ u * 1100000 := Int.mul_le_mul_of_nonneg_left (by omega) m.1
    have e3 : (t - u) * 1100000 = t * 1100000 - u * 1100000 := Int.sub_mul ..
    omega
theorem fold_PS (l : List S70) (h : ∀ p ∈ l, 0 ≤ p.f0 ∧ -100000 ≤ p.f1 ∧ p.f1 ≤ 100000) : ∀ (t s : Int), 0 ≤ t → 0 ≤ s → s + t * 1100000 ≤ 4611686018427387904 → (pl l t).foldl stepP s = s + PS l t := by
  induction l with
  | nil =>
    intro t s ht hs hb
    simp only [pl, List.foldl_cons, List.foldl_nil, PS, stepP]
    rw [w64 (a := 1000000 + 0) (by omega) (by omega), Int.add_zero, w64 (a := t * 1000000) (by omega) (by omega), w64 (by omega) (by omega)]
  | cons p r ih =>
    intro t s ht hs hb
    obtain ⟨a, b, c⟩ := h p (by simp)
    have m := mn_b a ht
    simp only [pl, List.foldl_cons, PS, stepP]
    have i := ih (fun q hq => h q (by simp [hq])) (t - mn p.f0 t)
    generalize mn p.f0 t = u at *
    have e1 : 0 ≤ u * (1000000 + p.f1) := Int.mul_nonneg m.1 (by omega)
    have e2 : u * (1000000 + p.f1) ≤ u * 1100000 := Int.mul_le_mul_of_nonneg_left (by omega) m.1
    have e3 : (t - u) * 1100000 = t * 1100000 - u * 1100000 := Int.sub_mul ..
    rw [w64 (a := 1000000 + p.f1) (by omega) (by omega), w64 (a := u * (1000000 + p.f1)) (by omega) (by omega), w64 (a := s + u * (1000000 + p.f1)) (by omega) (by omega), i _ (by omega) (by omega) (by omega)]
    omega
theorem PS_drift (l : List S70) (D : Int) (hD : 0 ≤ D) (h : ∀ p ∈ l, 0 ≤ p.f0 ∧ -D ≤ p.f1 ∧ p.f1 ≤ D) : ∀ s t, 0 ≤ s → s ≤ t → (t - s) * (1000000 - D) ≤ PS l t - PS l s ∧ PS l t - PS l s ≤ (t - s) * (1000000 + D) := by
  induction l with
  | nil =>
    intro s t hs ht
    simp only [PS]
    rw [← Int.sub_mul]
    exact ⟨Int.mul_le_mul_of_nonneg_left (by omega) (by omega), Int.mul_le_mul_of_nonneg_left (by omega) (by omega)⟩
  | cons p r ih =>
    intro s t hs ht
    obtain ⟨a, b, c⟩ := h p (by simp)
    have m1 := mn_b a (show 0 ≤ s by omega)
    have m2 : mn p.f0 s ≤ mn p.f0 t ∧ mn p.f0 t - mn p.f0 s ≤ t - s := by unfold mn; split <;> split <;> omega
    have i := ih (fun q hq => h q (by simp [hq])) (s - mn p.f0 s) (t - mn p.f0 t) (by omega) (by omega)
    simp only [PS]
    generalize mn p.f0 t = u at *
    generalize mn p.f0 s = v at *
    have e1 : (u - v) * (1000000 - D) ≤ (u - v) * (1000000 + p.f1) := Int.mul_le_mul_of_nonneg_left (by omega) (by omega)
    have e2 : (u - v) * (1000000 + p.f1) ≤ (u - v) * (1000000 + D) := Int.mul_le_mul_of_nonneg_left (by omega) (by omega)
    have e3 : (u - v) * (1000000 + p.f1) = u * (1000000 + p.f1) - v * (1000000 + p.f1) := Int.sub_mul ..
    have e4 : (t - u - (s - v)) * (1000000 - D) = (t - s) * (1000000 - D) - (u - v) * (1000000 - D) := by rw [← Int.sub_mul]; congr 1; omega
    have e5 : (t - u - (s - v)) * (1000000 + D) = (t - s) * (1000000 + D) - (u - v) * (1000000 + D) := by rw [← Int.sub_mul]; congr 1; omega
    omega

theorem okp_of {l : List S70} {D : Int} (h : rightB l D = true) : (∀ p ∈ l, 0 ≤ p.f0 ∧ -D ≤ p.f1 ∧ p.f1 ≤ D) ∧ l.length ≤ 100 := by
  unfold rightB at h
  simp only [Bool.and_eq_true, List.all_eq_true, decide_eq_true_eq] at h
  refine ⟨fun p hp => ?_, h.2⟩
  have := h.1 p hp
  unfold okp at this
  simp only [Bool.and_eq_true, decide_eq_true_eq] at this
  omega

/-- What a true clock shows. -/
def SW (base : Int) (l : List S70) (t : Int) : Int × Int :=
  if base < 0 ∨ base > 1099511627776 ∨ t < 0 ∨ t > 1099511627776 ∨ rightB l 100000 = false then (0, 1)
  else if base + PS l t / 1000000 > 2199023255552 then (0, 2) else (base + PS l t / 1000000, 0)
theorem show_eq (base : Int) (l : List S70) (t : Int) (hl : l.length ≤ 8796093022208) : clock_Show.f base l t = some (SW base l t) := by
  unfold clock_Show.f SW
  rw [if_pos hl]
  by_cases c : base < 0 ∨ base > 1099511627776 ∨ t < 0 ∨ t > 1099511627776 ∨ rightB l 100000 = false
  · rw [if_pos c, if_pos c]
  rw [if_neg c, if_neg c]
  have hr : rightB l 100000 = true := by
    cases h : rightB l 100000 with
    | true => rfl
    | false => exact absurd (.inr (.inr (.inr (.inr h)))) c
  have hb := PS_bound l (okp_of hr).1 t (by omega)
  have hf : sumP (pl l t) = PS l t := by
    unfold sumP
    rw [fold_PS l (okp_of hr).1 t 0 (by omega) (by omega) (by omega)]
    omega
  rw [hf, tdiv_e hb.1, w64 (a := PS l t / 1000000) (by omega) (by omega), w64 (a := base + PS l t / 1000000) (by omega) (by omega)]
  split <;> rfl
def finS (base v : Int) : Option (Int × Int) := if wrap64 (base + wrap64 (Int.tdiv v 1000000)) > 2199023255552 then some (0, 2) else some (wrap64 (base + wrap64 (Int.tdiv v 1000000)), 0)
theorem rshow_loop (base : Int) (l : List S70) (hr : ∀ p ∈ l, 0 ≤ p.f0 ∧ -100000 ≤ p.f1 ∧ p.f1 ≤ 100000) (hl : l.length ≤ 100) : ∀ (d i : Nat), i + d = l.length → ∀ (k : Nat) (t s : Int), d + 1 ≤ k → 0 ≤ t → t ≤ 1099511627776 →
    weirgateref05_Show.l0 k base l t s (i : Int) = finS base ((pl (l.drop i) t).foldl stepP s) := by
  intro d
  induction d with
  | zero =>
    intro i hi k t s hk ht0 ht1
    obtain ⟨k, rfl⟩ : ∃ m, k = m + 1 := ⟨k - 1, by omega⟩
    simp only [weirgateref05_Show.l0]
    rw [if_neg (by omega), List.drop_of_length_le (by omega)]
    simp only [pl, List.foldl_cons, List.foldl_nil, stepP]
    rw [w64 (a := 1000000 + 0) (by omega) (by omega), Int.add_zero]
    rfl
  | succ d ih =>
    intro i hi k t s hk ht0 ht1
    obtain ⟨k, rfl⟩ : ∃ m, k = m + 1 := ⟨k - 1, by omega⟩
    have hlt : i < l.length := by omega
    have hrd : rd_T70 l (i : Int) = l[i] := by unfold rd_T70; simp [hlt]
    have hw : wrap64 ((i : Int) + 1) = ((i + 1 : Nat) : Int) := by unfold wrap64; omega
    have hd : l.drop i = l[i] :: l.drop (i + 1) := List.drop_eq_getElem_cons hlt
    have hp := hr l[i] (List.getElem_mem hlt)
    simp only [weirgateref05_Show.l0, hrd, hw]
    rw [if_pos (by omega), if_pos (by omega), hd]
    simp only [pl, List.foldl_cons, stepP]
    generalize l[i] = p at *
    by_cases c : p.f0 > t
    · rw [if_pos c, ih (i + 1) (by omega) k 0 _ (by omega) (by omega) (by omega), show mn p.f0 t = t from by unfold mn; rw [if_pos (by omega)], Int.sub_self]
    · rw [if_neg c, w64 (a := t - p.f0) (by omega) (by omega), ih (i + 1) (by omega) k (t - p.f0) _ (by omega) (by omega) (by omega), show mn p.f0 t = p.f0 from by unfold mn; rw [if_neg (by omega)]]
theorem rshow_at (base : Int) (l : List S70) (t : Int) (hl : l.length ≤ 8796093022208) (k : Nat) (hk : l.length + 3 ≤ k) : weirgateref05_Show.f k base l t = some (SW base l t) := by
  rw [← show_eq base l t hl]
  unfold weirgateref05_Show.f clock_Show.f
  rw [rright_at l 100000 (by omega) (by omega) hl k (by omega), instant_eq, instant_eq, if_pos hl]
  simp only [Option.bind_some]
  obtain ⟨k, rfl⟩ : ∃ m, k = m + 1 := ⟨k - 1, by omega⟩
  have h1 : ∀ b, b = true → weirgateref05_Show.j0 (k + 1) base l t b = some (0, 1) := by intro b hb; subst hb; simp [weirgateref05_Show.j0]
  by_cases c1 : 0 ≤ base ∧ base ≤ 1099511627776
  case neg => rw [if_neg (by simpa using c1), h1 _ rfl, if_pos (by omega)]
  rw [if_pos (decide_eq_true c1)]
  by_cases c2 : 0 ≤ t ∧ t ≤ 1099511627776
  case neg => rw [if_neg (by simpa using c2), h1 _ rfl, if_pos (by omega)]
  rw [if_pos (decide_eq_true c2)]
  cases c3 : rightB l 100000 with
  | false => rw [show (!false) = true from rfl, h1 _ rfl, if_pos (.inr (.inr (.inr (.inr rfl))))]
  | true =>
    rw [if_neg (by simp; omega)]
    simp only [weirgateref05_Show.j0, Bool.not_true, Bool.false_eq_true, if_false]
    have := rshow_loop base l (okp_of c3).1 (okp_of c3).2 l.length 0 (by omega) k t 0 (by omega) c2.1 c2.2
    simp only [Int.ofNat_zero, Int.natCast_zero, List.drop_zero] at this
    exact this
/-- Whether paces are within a drift. -/
def HO (l : List S70) (D : Int) : Bool := rightB l 100000 && (decide (D ≥ 100000) || decide (l.length = 0) || (decide (D ≥ 0) && rightB l D))
theorem right_at (l : List S70) (D : Int) (h0 : -1000000000 ≤ D) (h1 : D ≤ 1000000000) (hl : l.length ≤ 8796093022208) : ∃ K, ∀ k, K ≤ k → clock_right.f k l D = some (rightB l D) := by
  obtain ⟨k, hk⟩ := right_rounds l D h0 h1 hl
  exact ⟨k, fun k' h => at_rounds (fun k => clock_right.mono l D k) h hk⟩
theorem honest_ev (l : List S70) (D : Int) (hl : l.length ≤ 8796093022208) : ∃ K, ∀ k, K ≤ k → clock_Honest.f k l D = some (HO l D) := by
  obtain ⟨K1, h1⟩ := right_at l 100000 (by omega) (by omega) hl
  obtain ⟨K2, h2⟩ : ∃ K, ∀ k, K ≤ k → (0 ≤ D → D ≤ 100000 → clock_right.f k l D = some (rightB l D)) := by
    by_cases c : 0 ≤ D ∧ D ≤ 100000
    · obtain ⟨K, h⟩ := right_at l D (by omega) (by omega) hl
      exact ⟨K, fun k hk _ _ => h k hk⟩
    · exact ⟨0, fun k hk a b => absurd ⟨a, b⟩ c⟩
  refine ⟨K1 + K2, fun k hk => ?_⟩
  unfold clock_Honest.f HO
  rw [h1 k (by omega)]
  simp only [Option.bind_some]
  cases c3 : rightB l 100000 with
  | false => rfl
  | true =>
    rw [if_pos rfl]
    by_cases c1 : D ≥ 100000
    · rw [if_pos c1]; simp [c1]
    rw [if_neg c1]
    by_cases c2 : (l.length : Int) = 0
    · rw [if_pos c2]; simp [show l.length = 0 by omega]
    rw [if_neg c2]
    by_cases c4 : D ≥ 0
    · rw [if_pos c4, h2 k (by omega) c4 (by omega)]
      have hne : l ≠ [] := fun h => c2 (by rw [h]; rfl)
      simp [c4, c1, hne]
    · rw [if_neg c4]
      have hne : l ≠ [] := fun h => c2 (by rw [h]; rfl)
      simp [c4, c1, hne]
theorem rightB_mono {l : List S70} {D E : Int} (h : rightB l D = true) (hDE : D ≤ E) : rightB l E = true := by
  unfold rightB at *
  simp only [Bool.and_eq_true, List.all_eq_true, decide_eq_true_eq] at *
  refine ⟨fun p hp => ?_, h.2⟩
  have := h.1 p hp
  unfold okp at *
  simp only [Bool.and_eq_true, decide_eq_true_eq] at *
  omega
theorem beq_len (l : List S70) : ((l.length : Int) == 0) = decide (l.length = 0) := by
  cases l with
  | nil => rfl
  | cons a r => simp; omega
theorem rhonest_at (l : List S70) (D : Int) (hl : l.length ≤ 8796093022208) (k : Nat) (hk : l.length + 1 ≤ k) : weirgateref05_Honest.f k l D = some (HO l D) := by
  unfold weirgateref05_Honest.f HO
  rw [rright_at l 100000 (by omega) (by omega) hl k hk]
  simp only [Option.bind_some]
  by_cases c0 : D < 0
  · rw [if_pos c0]
    cases c3 : rightB l 100000 with
    | false => simp
    | true =>
      simp [show ¬ (100000 ≤ D) by omega, show ¬ (0 ≤ D) by omega]
      rw [beq_len]
      simp
  · rw [if_neg c0]
    cases c3 : rightB l 100000 with
    | false => simp
    | true =>
      rw [if_pos rfl]
      by_cases c1 : D > 100000
      · rw [if_pos c1]; simp [show 100000 ≤ D by omega]
      · rw [if_neg c1, rright_at l D (by omega) (by omega) hl k hk]
        simp only [Option.bind_some, Bool.true_and, Option.some.injEq]
        by_cases c2 : D = 100000
        · subst c2; simp [c3]
        · by_cases c4 : l.length = 0
          · have : l = [] := List.eq_nil_of_length_eq_zero c4
            subst this
            simp [rightB]
          · have hne : l ≠ [] := fun h => c4 (by rw [h]; rfl)
            simp [show ¬ (100000 ≤ D) by omega, show 0 ≤ D by omega, hne]
end Go.Proofs.Ytijeiemdhpkklaa.PureC
