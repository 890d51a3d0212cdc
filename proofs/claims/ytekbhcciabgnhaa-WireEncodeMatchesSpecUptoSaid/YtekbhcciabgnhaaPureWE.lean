import Derived.Test.YtekbhcciabgnhaaPP0
import Derived.Test.YtekbhcciabgnhaaPP1
import Derived.Test.YtekbhcciabgnhaaPP3
import Derived.Test.YtekbhcciabgnhaaPP7
import Derived.Test.YtekbhcciabgnhaaPP9
import Derived.Test.YtekbhcciabgnhaaPureWB
set_option linter.unusedVariables false
namespace Go.Proofs.Ytekbhcciabgnhaa.PureW
open Go.RowKit Go.Proofs.Ytekbhcciabgnhaa.PP Go.Proofs.YtekbhcciabgnhaaW.PrintWords Go.Proofs.YtekbhcciabgnhaaW.PrintLast

/-! ### The encoding of an integer, as printed -/
theorem int_l0 (z : Nat) : ∀ (k : Nat) (acc : List Int), (vb z).length ≤ k → acc.length + (vb z).length ≤ 140737488355328 → wire_Int.l0 k (z : Int) acc = some (acc ++ vb z) := by
  induction z using Nat.strongRecOn with
  | _ z ih =>
    intro k acc hk hl
    have hp := vb_pos z
    obtain ⟨k, rfl⟩ : ∃ m, k = m + 1 := ⟨k - 1, by omega⟩
    simp only [wire_Int.l0]
    by_cases h : z < 128
    · rw [vb_lt h] at hl ⊢
      simp only [List.length_singleton] at hl
      rw [if_neg (by omega), if_pos (by omega), show (z : Int) % 256 = z by omega]
    · rw [vb_ge h] at hk hl ⊢
      simp only [List.length_cons] at hk hl
      rw [if_pos (by omega), if_pos (by omega), or128, show (z : Int) / 128 = ((z / 128 : Nat) : Int) by omega, ih (z / 128) (by omega) k _ (by omega) (by simp; omega)]
      simp
theorem int_eq {n : Int} (h : W64 n) {k : Nat} (hk : 10 ≤ k) : wire_Int.f k n = some (VI n) := by
  have h10 := VI_le h
  unfold wire_Int.f
  rw [xor_zz h, int_l0 (zz n) k [] (by unfold VI at h10; omega) (by unfold VI at h10; simp; omega)]
  rfl
theorem rint_l0 (z : Nat) : ∀ (k : Nat) (acc : List Int), z < 2 ^ 64 → (vb z).length ≤ k → acc.length + (vb z).length ≤ 140737488355328 → weirgateref01_Int.l0 k (z : Int) acc = some (acc ++ vb z) := by
  induction z using Nat.strongRecOn with
  | _ z ih =>
    intro k acc hz hk hl
    have hp := vb_pos z
    obtain ⟨k, rfl⟩ : ∃ m, k = m + 1 := ⟨k - 1, by omega⟩
    simp only [weirgateref01_Int.l0]
    by_cases h : z < 128
    · rw [vb_lt h] at hl ⊢
      simp only [List.length_singleton] at hl
      rw [if_neg (by omega), if_pos (by omega), show (z : Int) % 256 = z by omega]
    · rw [vb_ge h] at hk hl ⊢
      simp only [List.length_cons] at hk hl
      have e1 : IntKind.u64.wrap (Int.tdiv (z : Int) 128) = ((z / 128 : Nat) : Int) := by rw [Int.tdiv_eq_ediv_of_nonneg (by omega), IntKind.wrap_u64]; omega
      have e2 : (Int.tmod (z : Int) 128 + 128) % 256 = ((z % 128 + 128 : Nat) : Int) := by rw [Int.tmod_eq_emod_of_nonneg (by omega)]; omega
      rw [if_pos (by omega), if_pos (by omega), e1, e2, ih (z / 128) (by omega) k _ (by omega) (by omega) (by simp; omega)]
      simp
theorem rint_eq {n : Int} (h : W64 n) {k : Nat} (hk : 11 ≤ k) : weirgateref01_Int.f k n = some (VI n) := by
  have h10 := VI_le h
  have hz := zz_lt h
  obtain ⟨k, rfl⟩ : ∃ m, k = m + 1 := ⟨k - 1, by omega⟩
  obtain ⟨h0, h1⟩ := h
  have hv : ((zz n : Nat) : Int) = if n < 0 then 2 * (-1 - n) + 1 else 2 * n := by unfold zz; split <;> omega
  unfold weirgateref01_Int.f
  by_cases c : n < 0
  · rw [if_pos c] at hv
    rw [if_pos c, wrap64_id (by omega) (by omega)]
    have e : IntKind.u64.wrap (IntKind.u64.wrap (IntKind.u64.wrap (-1 - n) * 2) + 1) = ((zz n : Nat) : Int) := by simp only [IntKind.wrap_u64]; omega
    rw [e]
    simp only [weirgateref01_Int.j0]
    rw [rint_l0 (zz n) k [] hz (by unfold VI at h10; omega) (by unfold VI at h10; simp; omega)]
    rfl
  · rw [if_neg c] at hv
    rw [if_neg c]
    have e : IntKind.u64.wrap (IntKind.u64.wrap n * 2) = ((zz n : Nat) : Int) := by simp only [IntKind.wrap_u64]; omega
    rw [e]
    simp only [weirgateref01_Int.j0]
    rw [rint_l0 (zz n) k [] hz (by unfold VI at h10; omega) (by unfold VI at h10; simp; omega)]
    rfl

/-! ### The decoding of an integer, as printed -/
/-- A decoding's three results. -/
def tri {α : Type} (d : α) : Except Int (α × Nat) → α × Int × Int
  | .error e => (d, 0, e)
  | .ok (x, u) => (x, (u : Int), 0)
theorem rd_at {l : List Int} {i : Nat} (h : i < l.length) : rd l (i : Int) = l[i] := by unfold rd; simp [List.getD, h]
theorem drop_at {α : Type} {l : List α} {i : Nat} (h : i < l.length) : l.drop i = l[i] :: l.drop (i + 1) := List.drop_eq_getElem_cons h
theorem pow7 (i : Nat) : 2 ^ (7 * (i + 1)) = 2 ^ (7 * i) * 128 := by rw [Nat.mul_add, Nat.pow_add]
theorem getint_l0 (l : List Int) (hb : Bts l) (hl : l.length ≤ 4611686018427387904) : ∀ (m i k x : Nat), i + m = 9 → 3 * m + 4 ≤ k → x < 2 ^ (7 * i) →
    wire_GetInt.l0 k (x : Int) 0 l (l.length : Int) (i : Int) = match gi i (l.drop i) with
      | .error e => some (0, 0, e)
      | .ok (z, u) => some (uz (x + 2 ^ (7 * i) * z), ((i + u : Nat) : Int), 0) := by
  intro m
  induction m with
  | zero =>
    intro i k x hi hk hx
    obtain ⟨k, rfl⟩ : ∃ m, k = m + 3 := ⟨k - 3, by omega⟩
    obtain rfl : i = 9 := by omega
    simp only [wire_GetInt.l0]
    by_cases hil : 9 < l.length
    · have hc := hb l[9] (List.getElem_mem hil)
      rw [if_pos (by omega), if_pos (by omega), if_pos (by omega), if_pos (show ((9 : Nat) : Int) = 9 from rfl), drop_at hil, rd_at hil]
      simp only [wire_GetInt.j1, gi]
      by_cases c1 : (1 : Int) < l[9]
      · rw [if_pos (by simpa using c1), if_pos (.inl ⟨trivial, c1⟩)]
        simp only [wire_GetInt.j2]
        rw [if_pos (by simpa using c1)]
      · rw [if_neg (by simpa using c1), if_pos (by omega)]
        simp only [wire_GetInt.j2]
        by_cases c2 : l[9] = 0
        · rw [if_pos (by simpa using c2), if_pos (.inr ⟨by omega, c2⟩)]
        · have c0 : ¬ ((True ∧ (1 : Int) < l[9]) ∨ (0 < 9 ∧ l[9] = 0)) := fun h => h.elim (fun h => c1 h.2) (fun h => c2 h.2)
          rw [if_neg (by simpa using c2), if_neg c0, if_pos (show (0 : Int) ≤ wrap64 (7 * ((9 : Nat) : Int)) by rw [wrap64_id (by omega) (by omega)]; omega), if_pos (show l[9] < 128 by omega), if_neg (show ¬ wrap64 (((9 : Nat) : Int) + 1) = 0 by rw [wrap64_id (by omega) (by omega)]; omega), if_pos (show l[9] < 128 by omega)]
          have e := or_shift (x := x) (k := 9) (d := l[9] % 128) hx (by omega) (by omega) (by omega) (by omega)
          rw [and127 hc.1 hc.2]
          have hlt : x + 2 ^ (7 * 9) * (l[9] % 128).toNat < 2 ^ 64 := by
            have : (l[9] % 128).toNat ≤ 1 := by omega
            have := Nat.mul_le_mul_left (2 ^ (7 * 9)) this
            omega
          rw [e, xor_uz hlt, wrap64_id (by omega) (by omega), show (l[9] % 128).toNat = l[9].toNat by omega]
          rfl
    · rw [if_neg (by omega), if_pos trivial, List.drop_of_length_le (by omega)]
      rfl
  | succ m ih =>
    intro i k x hi hk hx
    obtain ⟨k, rfl⟩ : ∃ m, k = m + 3 := ⟨k - 3, by omega⟩
    simp only [wire_GetInt.l0]
    by_cases hil : i < l.length
    · have hc := hb l[i] (List.getElem_mem hil)
      rw [if_pos (by omega), if_pos (by omega), if_pos (by omega), if_neg (by omega), drop_at hil, rd_at hil]
      simp only [wire_GetInt.j1, gi]
      rw [if_neg (by simp)]
      have hj : ∀ b : Bool, (b = true ↔ (i = 9 ∧ 1 < l[i]) ∨ (0 < i ∧ l[i] = 0)) → wire_GetInt.j2 (k + 1) (x : Int) 0 (i : Int) l[i] l (l.length : Int) (i : Int) b = match (if (i = 9 ∧ 1 < l[i]) ∨ (0 < i ∧ l[i] = 0) then Except.error 11 else if l[i] < 128 then Except.ok (l[i].toNat, 1) else match gi (i + 1) (l.drop (i + 1)) with
          | .error e => .error e
          | .ok (z, u) => .ok ((l[i] - 128).toNat + 128 * z, u + 1)) with
          | .error e => some (0, 0, e)
          | .ok (z, u) => some (uz (x + 2 ^ (7 * i) * z), ((i + u : Nat) : Int), 0) := by
        intro b hbb
        simp only [wire_GetInt.j2]
        by_cases c0 : (i = 9 ∧ 1 < l[i]) ∨ (0 < i ∧ l[i] = 0)
        · rw [if_pos (hbb.2 c0), if_pos c0]
        · rw [if_neg (fun h => c0 (hbb.1 h)), if_neg c0, if_pos (by rw [wrap64_id (by omega) (by omega)]; omega)]
          have e := or_shift (x := x) (k := i) (d := l[i] % 128) hx (by omega) (by omega) (by omega) (by omega)
          rw [and127 hc.1 hc.2, e]
          have hp : 2 ^ (7 * i) * 128 ≤ 2 ^ 63 := by rw [← pow7]; exact Nat.pow_le_pow_right (by omega) (by omega)
          have hd : 2 ^ (7 * i) * (l[i] % 128).toNat ≤ 2 ^ (7 * i) * 127 := Nat.mul_le_mul_left _ (by omega)
          by_cases c2 : l[i] < 128
          · rw [if_pos c2, if_pos c2, if_neg (by rw [wrap64_id (by omega) (by omega)]; omega), xor_uz (by omega), wrap64_id (by omega) (by omega), show (l[i] % 128).toNat = l[i].toNat by omega]
            rfl
          · rw [if_neg c2, if_neg c2, wrap64_id (by omega) (by omega), show ((i : Int) + 1) = ((i + 1 : Nat) : Int) by omega, ih (i + 1) k _ (by omega) (by omega) (by rw [pow7]; omega)]
            cases gi (i + 1) (l.drop (i + 1)) with
            | error e => rfl
            | ok p =>
              obtain ⟨z, u⟩ := p
              have e1 : x + 2 ^ (7 * i) * (l[i] % 128).toNat + 2 ^ (7 * (i + 1)) * z = x + 2 ^ (7 * i) * ((l[i] - 128).toNat + 128 * z) := by
                rw [pow7, show (l[i] % 128).toNat = (l[i] - 128).toNat by omega, Nat.mul_add, Nat.mul_assoc]
                omega
              simp only [e1, show i + 1 + u = i + (u + 1) by omega]
      by_cases c1 : 0 < i
      · rw [if_pos (by omega)]
        exact hj _ (by simp; omega)
      · rw [if_neg (by omega)]
        exact hj _ (by simp; omega)
    · rw [if_neg (by omega), if_pos trivial, List.drop_of_length_le (by omega)]
      rfl
theorem getint_eq {l : List Int} (hb : Bts l) (hl : l.length ≤ 4611686018427387904) {k : Nat} (hk : 31 ≤ k) : wire_GetInt.f k l = some (tri 0 (GI l)) := by
  unfold wire_GetInt.f
  have := getint_l0 l hb hl 9 0 k 0 (by omega) (by omega) (by decide)
  rw [show ((0 : Nat) : Int) = 0 from rfl] at this
  rw [this]
  unfold GI
  rw [List.drop_zero]
  cases gi 0 l with
  | error e => rfl
  | ok p => simp [tri]

/-- The number that the first j digits tell. -/
def lp (l : List Int) : Nat → Nat
  | 0 => 0
  | j + 1 => lp l j + 2 ^ (7 * j) * (rd l (j : Int) % 128).toNat
theorem gi_lp (l : List Int) (hb : Bts l) : ∀ (m i z u : Nat), i + m = l.length → i ≤ 9 → gi i (l.drop i) = .ok (z, u) → lp l (i + u) = lp l i + 2 ^ (7 * i) * z ∧ 1 ≤ u ∧ i + u ≤ l.length := by
  intro m
  induction m with
  | zero =>
    intro i z u hi h9 h
    rw [List.drop_of_length_le (by omega)] at h
    simp [gi] at h
  | succ m ih =>
    intro i z u hi h9 h
    have hil : i < l.length := by omega
    have hc := hb l[i] (List.getElem_mem hil)
    rw [drop_at hil] at h
    simp only [gi] at h
    by_cases c0 : (i = 9 ∧ 1 < l[i]) ∨ (0 < i ∧ l[i] = 0)
    · rw [if_pos c0] at h; cases h
    rw [if_neg c0] at h
    by_cases c2 : l[i] < 128
    · rw [if_pos c2] at h
      cases h
      refine ⟨?_, by omega, by omega⟩
      simp only [lp]
      rw [rd_at hil, show (l[i] % 128).toNat = l[i].toNat by omega]
    · rw [if_neg c2] at h
      cases e : gi (i + 1) (l.drop (i + 1)) with
      | error x => rw [e] at h; cases h
      | ok p =>
        obtain ⟨z', u'⟩ := p
        rw [e] at h
        cases h
        obtain ⟨j1, j2, j3⟩ := ih (i + 1) z' u' (by omega) (by omega) e
        refine ⟨?_, by omega, by omega⟩
        rw [show i + (u' + 1) = i + 1 + u' by omega, j1]
        simp only [lp]
        rw [rd_at hil, pow7, show (l[i] % 128).toNat = (l[i] - 128).toNat by omega, Nat.mul_add, Nat.mul_assoc]
        omega
/-- The reference goes back over the digits. -/
theorem rback (l : List Int) (hb : Bts l) (s : Nat) (hs : s < l.length) (hl : l.length ≤ 4611686018427387904) : ∀ (j k z : Nat), j ≤ s + 1 → j + 1 ≤ k → lp l j + 2 ^ (7 * j) * z < 2 ^ 64 →
    weirgateref01_GetInt.l1 k l (s : Int) (z : Int) ((j : Int) - 1) = some (uz (lp l j + 2 ^ (7 * j) * z), ((s + 1 : Nat) : Int), 0) := by
  intro j
  induction j with
  | zero =>
    intro k z hj hk hz
    obtain ⟨k, rfl⟩ : ∃ m, k = m + 1 := ⟨k - 1, by omega⟩
    simp only [lp, Nat.mul_zero, Nat.pow_zero, Nat.one_mul, Nat.zero_add] at hz ⊢
    simp only [weirgateref01_GetInt.l1]
    rw [if_neg (by omega), Int.tmod_eq_emod_of_nonneg (by omega), Int.tdiv_eq_ediv_of_nonneg (by omega), wraps_u64 _ (by omega) (by omega), wrap64_id (a := (z : Int) / 2) (by omega) (by omega), wrap64_id (a := (s : Int) + 1) (by omega) (by omega)]
    unfold uz
    by_cases c : z % 2 = 1
    · rw [if_pos (by omega), if_pos c, wrap64_id (by omega) (by omega)]
      rfl
    · rw [if_neg (by omega), if_neg c]
      rfl
  | succ j ih =>
    intro k z hj hk hz
    obtain ⟨k, rfl⟩ : ∃ m, k = m + 1 := ⟨k - 1, by omega⟩
    have hjl : j < l.length := by omega
    have hc := hb l[j] (List.getElem_mem hjl)
    simp only [weirgateref01_GetInt.l1]
    have e0 : (((j + 1 : Nat) : Int) - 1) = (j : Int) := by omega
    rw [e0, if_pos (by omega), if_pos (by omega), if_pos (by omega), rd_at hjl]
    have hz2 : lp l j + 2 ^ (7 * j) * (z * 128 + (l[j] % 128).toNat) = lp l (j + 1) + 2 ^ (7 * (j + 1)) * z := by
      simp only [lp]
      rw [rd_at hjl, pow7, Nat.mul_add, Nat.mul_assoc, Nat.mul_comm 128 z]
      omega
    have hzz : z * 128 + (l[j] % 128).toNat < 2 ^ 64 := by
      have : z * 128 + (l[j] % 128).toNat ≤ 2 ^ (7 * j) * (z * 128 + (l[j] % 128).toNat) := Nat.le_mul_of_pos_left _ (Nat.two_pow_pos _)
      omega
    have e1 : IntKind.u64.wrap (IntKind.u64.wrap ((z : Int) * 128) + IntKind.u64.wrap (Int.tmod l[j] 128)) = ((z * 128 + (l[j] % 128).toNat : Nat) : Int) := by
      rw [Int.tmod_eq_emod_of_nonneg (by omega)]
      simp only [IntKind.wrap_u64]
      omega
    rw [e1, wrap64_id (by omega) (by omega), ih k _ (by omega) (by omega) (by rw [hz2]; exact hz), hz2]
theorem lp_lt (l : List Int) : ∀ j : Nat, lp l j < 2 ^ (7 * j)
  | 0 => by simp [lp]
  | j + 1 => by
    have := lp_lt l j
    have hd : (rd l (j : Int) % 128).toNat ≤ 127 := by omega
    have := Nat.mul_le_mul_left (2 ^ (7 * j)) hd
    simp only [lp]
    rw [pow7]
    omega
theorem rgetint_j2 (l : List Int) (hb : Bts l) (hl : l.length ≤ 4611686018427387904) (i k : Nat) (hil : i < l.length) (hi : i ≤ 9) (hk : 13 ≤ k) (b : Bool) (hlp : b = false → lp l (i + 1) < 2 ^ 64) :
    weirgateref01_GetInt.j2 k l (i : Int) b = if b = true then some (0, 0, 11) else some (uz (lp l (i + 1)), ((i + 1 : Nat) : Int), 0) := by
  obtain ⟨k, rfl⟩ : ∃ m, k = m + 1 := ⟨k - 1, by omega⟩
  simp only [weirgateref01_GetInt.j2]
  cases b with
  | true => rfl
  | false =>
    have := rback l hb i hil hl (i + 1) k 0 (by omega) (by omega) (by simpa using hlp rfl)
    rw [show (((i + 1 : Nat) : Int) - 1) = (i : Int) by omega] at this
    simp only [Nat.mul_zero, Nat.add_zero] at this
    simpa using this
theorem rgetint_j1 (l : List Int) (hb : Bts l) (hl : l.length ≤ 4611686018427387904) (i k : Nat) (hil : i < l.length) (hi : i ≤ 9) (hk : 14 ≤ k) (hc128 : l[i] < 128) :
    weirgateref01_GetInt.j1 k l (i : Int) = match gi i (l.drop i) with
      | .error e => some (0, 0, e)
      | .ok (z, u) => some (uz (lp l (i + u)), ((i + u : Nat) : Int), 0) := by
  obtain ⟨k, rfl⟩ : ∃ m, k = m + 1 := ⟨k - 1, by omega⟩
  have hc := hb l[i] (List.getElem_mem hil)
  have hj : ∀ b : Bool, (b = true ↔ (i = 9 ∧ 1 < l[i]) ∨ (0 < i ∧ l[i] = 0)) → weirgateref01_GetInt.j2 k l (i : Int) b = match gi i (l.drop i) with
      | .error e => some (0, 0, e)
      | .ok (z, u) => some (uz (lp l (i + u)), ((i + u : Nat) : Int), 0) := by
    intro b hb2
    rw [rgetint_j2 l hb hl i k hil hi (by omega) b ?_, drop_at hil]
    · simp only [gi]
      by_cases c0 : (i = 9 ∧ 1 < l[i]) ∨ (0 < i ∧ l[i] = 0)
      · rw [if_pos (hb2.2 c0), if_pos c0]
      · rw [if_neg (fun h => c0 (hb2.1 h)), if_neg c0, if_pos hc128]
    · intro hbf
      have c0 : ¬ ((i = 9 ∧ 1 < l[i]) ∨ (0 < i ∧ l[i] = 0)) := fun h => by rw [hb2.2 h] at hbf; cases hbf
      have h1 := lp_lt l i
      simp only [lp]
      rw [rd_at hil, show (l[i] % 128).toNat = l[i].toNat by omega]
      by_cases h9 : i = 9
      · subst h9
        have : (l[9]).toNat ≤ 1 := by omega
        have := Nat.mul_le_mul_left (2 ^ (7 * 9)) this
        omega
      · have hp : 2 ^ (7 * i) * 128 ≤ 2 ^ 63 := by rw [← pow7]; exact Nat.pow_le_pow_right (by omega) (by omega)
        have : (l[i]).toNat ≤ 127 := by omega
        have := Nat.mul_le_mul_left (2 ^ (7 * i)) this
        omega
  simp only [weirgateref01_GetInt.j1]
  rw [if_neg (by omega), if_neg (by omega), rd_at hil]
  by_cases c9 : i = 9
  · rw [if_pos (show (i : Int) = 9 by omega), if_pos (by omega), if_pos (by omega)]
    by_cases c1 : l[i] > 1
    · rw [if_pos c1]
      exact hj true (by simp; omega)
    · rw [if_neg c1, if_pos (by omega)]
      exact hj _ (by simp; omega)
  · rw [if_neg (show ¬ (i : Int) = 9 by omega)]
    by_cases c1 : i > 0
    · rw [if_pos (by omega), if_pos (by omega), if_pos (by omega)]
      exact hj _ (by simp; omega)
    · rw [if_neg (by omega)]
      exact hj _ (by simp; omega)
theorem rgetint_l0 (l : List Int) (hb : Bts l) (hl : l.length ≤ 4611686018427387904) : ∀ (m i k : Nat), i + m = 9 → i ≤ l.length → m + 16 ≤ k →
    weirgateref01_GetInt.l0 k l (i : Int) = match gi i (l.drop i) with
      | .error e => some (0, 0, e)
      | .ok (z, u) => some (uz (lp l (i + u)), ((i + u : Nat) : Int), 0) := by
  intro m
  induction m with
  | zero =>
    intro i k hi hil0 hk
    obtain ⟨k, rfl⟩ : ∃ m, k = m + 3 := ⟨k - 3, by omega⟩
    obtain rfl : i = 9 := by omega
    simp only [weirgateref01_GetInt.l0]
    by_cases hil : 9 < l.length
    · have hc := hb l[9] (List.getElem_mem hil)
      rw [if_pos (by omega), if_pos (by omega), if_pos (by omega), rd_at hil]
      by_cases c : l[9] ≥ 128
      · rw [if_pos c, drop_at hil, wrap64_id (by omega) (by omega)]
        simp only [gi]
        rw [if_pos (show (True ∧ (1 : Int) < l[9]) ∨ (0 < 9 ∧ l[9] = 0) from .inl ⟨trivial, by omega⟩)]
        by_cases h10 : ((9 : Nat) : Int) + 1 < (l.length : Int)
        · rw [if_pos h10, if_neg (by omega)]
          simp only [weirgateref01_GetInt.j1]
          rw [if_pos (by omega)]
        · rw [if_neg h10]
          simp only [weirgateref01_GetInt.j1]
          rw [if_pos (by omega)]
      · rw [if_neg c]
        exact rgetint_j1 l hb hl 9 _ hil (by omega) (by omega) (by omega)
    · rw [if_neg (by omega), List.drop_of_length_le (by omega)]
      simp only [weirgateref01_GetInt.j1, gi]
      rw [if_neg (by omega), if_pos (by omega)]
  | succ m ih =>
    intro i k hi hil0 hk
    obtain ⟨k, rfl⟩ : ∃ m, k = m + 1 := ⟨k - 1, by omega⟩
    simp only [weirgateref01_GetInt.l0]
    by_cases hil : i < l.length
    · have hc := hb l[i] (List.getElem_mem hil)
      rw [if_pos (by omega), if_pos (by omega), if_pos (by omega), rd_at hil]
      by_cases c : l[i] ≥ 128
      · rw [if_pos c, drop_at hil, wrap64_id (by omega) (by omega), show ((i : Int) + 1) = ((i + 1 : Nat) : Int) by omega, ih (i + 1) k (by omega) (by omega) (by omega)]
        simp only [gi]
        rw [if_neg (show ¬ ((i = 9 ∧ 1 < l[i]) ∨ (0 < i ∧ l[i] = 0)) by omega), if_neg (by omega)]
        cases gi (i + 1) (l.drop (i + 1)) with
        | error e => rfl
        | ok p =>
          obtain ⟨z, u⟩ := p
          simp only [show i + 1 + u = i + (u + 1) by omega]
      · rw [if_neg c]
        exact rgetint_j1 l hb hl i k hil (by omega) (by omega) (by omega)
    · obtain ⟨k, rfl⟩ : ∃ m, k = m + 1 := ⟨k - 1, by omega⟩
      rw [if_neg (by omega), List.drop_of_length_le (by omega)]
      simp only [weirgateref01_GetInt.j1, gi]
      rw [if_neg (by omega), if_pos (by omega)]
theorem rgetint_eq {l : List Int} (hb : Bts l) (hl : l.length ≤ 4611686018427387904) {k : Nat} (hk : 25 ≤ k) : weirgateref01_GetInt.f k l = some (tri 0 (GI l)) := by
  unfold weirgateref01_GetInt.f
  have := rgetint_l0 l hb hl 9 0 k (by omega) (by omega) (by omega)
  rw [show ((0 : Nat) : Int) = 0 from rfl] at this
  rw [this]
  unfold GI
  rw [List.drop_zero]
  cases e : gi 0 l with
  | error e => rfl
  | ok p =>
    obtain ⟨z, u⟩ := p
    obtain ⟨h1, _, _⟩ := gi_lp l hb l.length 0 z u (by omega) (by omega) e
    rw [Nat.zero_add] at h1
    simp [h1, tri, lp]
end Go.Proofs.Ytekbhcciabgnhaa.PureW
