import Derived.Test.YtekbhcciabgnhaaPP0
-- NEEDS
import Derived.Laws.BytesArg
set_option linter.unusedVariables false
namespace Go.Proofs.Ytekbhcciabgnhaa.PureW
open Go.RowKit Go.Proofs.YtekbhcciabgnhaaW.PrintWords Go.Proofs.YtekbhcciabgnhaaW.PrintLast

/-- The bytes of a number. -/
def vb (z : Nat) : List Int := if z < 128 then [(z : Int)] else ((z % 128 + 128 : Nat) : Int) :: vb (z / 128)
termination_by z
decreasing_by omega
theorem vb_lt {z : Nat} (h : z < 128) : vb z = [(z : Int)] := by rw [vb, if_pos h]
theorem vb_ge {z : Nat} (h : ¬ z < 128) : vb z = ((z % 128 + 128 : Nat) : Int) :: vb (z / 128) := by rw [vb, if_neg h]
theorem vb_pos (z : Nat) : 0 < (vb z).length := by rw [vb]; split <;> simp
theorem vb_byte (z : Nat) : ∀ c ∈ vb z, 0 ≤ c ∧ c < 256 := by
  induction z using Nat.strongRecOn with
  | _ z ih =>
    by_cases h : z < 128
    · rw [vb_lt h]
      intro c hc
      obtain rfl := List.mem_singleton.1 hc
      omega
    · rw [vb_ge h]
      intro c hc
      rcases List.mem_cons.1 hc with rfl | hc
      · omega
      · exact ih _ (by omega) c hc

def zz (n : Int) : Nat := if n < 0 then (2 * (-1 - n) + 1).toNat else (2 * n).toNat
def uz (z : Nat) : Int := if z % 2 = 1 then -1 - ((z / 2 : Nat) : Int) else ((z / 2 : Nat) : Int)
theorem uz_zz (n : Int) : uz (zz n) = n := by unfold uz zz; split <;> split <;> omega
theorem zz_uz (z : Nat) : zz (uz z) = z := by unfold uz zz; split <;> split <;> omega
/-- A number of 64 bits. -/
abbrev W64 (n : Int) : Prop := -9223372036854775808 ≤ n ∧ n ≤ 9223372036854775807
theorem zz_lt {n : Int} (h : W64 n) : zz n < 2 ^ 64 := by obtain ⟨h0, h1⟩ := h; unfold zz; split <;> omega
theorem uz_wf {z : Nat} (h : z < 2 ^ 64) : W64 (uz z) := by unfold uz W64; split <;> omega
theorem lim_succ {k : Nat} (h : k ≤ 8) : 2 ^ (64 - 7 * k) = 128 * 2 ^ (64 - 7 * (k + 1)) := by
  have e : 64 - 7 * k = (64 - 7 * (k + 1)) + 7 := by omega
  rw [e, Nat.pow_add, Nat.mul_comm]

/-- Decoding a number, from its digit k on. -/
def gi : Nat → List Int → Except Int (Nat × Nat)
  | _, [] => .error 10
  | k, c :: r => if (k = 9 ∧ 1 < c) ∨ (0 < k ∧ c = 0) then .error 11 else if c < 128 then .ok (c.toNat, 1) else
    match gi (k + 1) r with
    | .error e => .error e
    | .ok (z, u) => .ok ((c - 128).toNat + 128 * z, u + 1)

theorem k_le8 {z k : Nat} (hk : k ≤ 9) (hz : z < 2 ^ (64 - 7 * k)) (h : ¬ z < 128) : k ≤ 8 := by
  by_cases h9 : k = 9
  · subst h9
    have : z < 2 ^ 1 := hz
    omega
  · omega
theorem gi_vb (t : List Int) (z : Nat) : ∀ k : Nat, k ≤ 9 → z < 2 ^ (64 - 7 * k) → (k = 0 ∨ z ≠ 0) → gi k (vb z ++ t) = .ok (z, (vb z).length) := by
  induction z using Nat.strongRecOn with
  | _ z ih =>
    intro k hk hz h0
    by_cases h : z < 128
    · rw [vb_lt h]
      simp only [List.cons_append, List.nil_append, gi]
      rw [if_neg ?_, if_pos (by omega)]
      · simp
      · rintro (⟨rfl, h1⟩ | ⟨h1, h2⟩)
        · have : z < 2 ^ 1 := hz
          omega
        · omega
    · have hk8 := k_le8 hk hz h
      rw [lim_succ hk8] at hz
      rw [vb_ge h]
      simp only [List.cons_append, gi]
      rw [if_neg (by omega), if_neg (by omega), ih (z / 128) (by omega) (k + 1) (by omega) (by omega) (.inr (by omega))]
      simp only [List.length_cons]
      rw [show (((z % 128 + 128 : Nat) : Int) - 128).toNat + 128 * (z / 128) = z by omega]
theorem gi_cut (z : Nat) : ∀ k i : Nat, k ≤ 9 → z < 2 ^ (64 - 7 * k) → i < (vb z).length → gi k ((vb z).take i) = .error 10 := by
  induction z using Nat.strongRecOn with
  | _ z ih =>
    intro k i hk hz hi
    cases i with
    | zero => simp [gi]
    | succ i =>
      by_cases h : z < 128
      · rw [vb_lt h] at hi
        simp at hi
      · have hk8 := k_le8 hk hz h
        rw [lim_succ hk8] at hz
        rw [vb_ge h] at hi ⊢
        simp only [List.length_cons] at hi
        simp only [List.take_succ_cons, gi]
        rw [if_neg (by omega), if_neg (by omega), ih (z / 128) (by omega) (k + 1) i (by omega) (by omega) (by omega)]
theorem gi_can : ∀ (l : List Int) (k z u : Nat), (∀ c ∈ l, 0 ≤ c ∧ c < 256) → k ≤ 9 → gi k l = .ok (z, u) → z < 2 ^ (64 - 7 * k) ∧ (k = 0 ∨ z ≠ 0) ∧ 1 ≤ u ∧ u ≤ l.length ∧ vb z = l.take u ∧ u + k ≤ 10
  | [], k, z, u, hb, hk, h => by simp [gi] at h
  | c :: r, k, z, u, hb, hk, h => by
    have hc := hb c (by simp)
    simp only [gi] at h
    by_cases c1 : (k = 9 ∧ 1 < c) ∨ (0 < k ∧ c = 0)
    · rw [if_pos c1] at h; cases h
    rw [if_neg c1] at h
    have c1a : ¬ (k = 9 ∧ 1 < c) := fun h => c1 (.inl h)
    have c1b : ¬ (0 < k ∧ c = 0) := fun h => c1 (.inr h)
    by_cases c2 : c < 128
    · rw [if_pos c2] at h
      cases h
      refine ⟨?_, by omega, by omega, by simp, ?_, by omega⟩
      · by_cases h9 : k = 9
        · subst h9
          show _ < 2 ^ 1
          omega
        · have : 2 ^ 7 ≤ 2 ^ (64 - 7 * k) := Nat.pow_le_pow_right (by omega) (by omega)
          omega
      · rw [vb_lt (by omega)]
        simp [Int.toNat_of_nonneg hc.1]
    · rw [if_neg c2] at h
      have hk8 : k ≤ 8 := by omega
      cases e : gi (k + 1) r with
      | error x => rw [e] at h; cases h
      | ok p =>
        obtain ⟨z', u'⟩ := p
        rw [e] at h
        cases h
        obtain ⟨i1, i2, i3, i4, i5, i6⟩ := gi_can r (k + 1) z' u' (fun y hy => hb y (by simp [hy])) (by omega) e
        have hz' : z' ≠ 0 := by omega
        refine ⟨by rw [lim_succ hk8]; omega, by omega, by omega, by simp; omega, ?_, by omega⟩
        rw [vb_ge (by omega), show ((c - 128).toNat + 128 * z') / 128 = z' by omega, i5, List.take_succ_cons]
        congr 1
        omega

/-- The encoding of an integer, and its decoding. -/
def VI (n : Int) : List Int := vb (zz n)
def GI (l : List Int) : Except Int (Int × Nat) := match gi 0 l with
  | .error e => .error e
  | .ok (z, u) => .ok (uz z, u)
abbrev Bts (l : List Int) : Prop := ∀ c ∈ l, 0 ≤ c ∧ c < 256
theorem VI_byte (n : Int) : Bts (VI n) := vb_byte _
theorem VI_pos (n : Int) : 1 ≤ (VI n).length := vb_pos _
theorem GI_VI {n : Int} (h : W64 n) (t : List Int) : GI (VI n ++ t) = .ok (n, (VI n).length) := by
  unfold GI VI
  rw [gi_vb t _ 0 (by omega) (zz_lt h) (.inl rfl)]
  simp only [uz_zz]
theorem GI_cut {n : Int} (h : W64 n) {i : Nat} (hi : i < (VI n).length) : GI ((VI n).take i) = .error 10 := by
  unfold GI
  unfold VI at hi ⊢
  rw [gi_cut _ 0 i (by omega) (zz_lt h) hi]
theorem GI_can {l : List Int} (hl : Bts l) {n : Int} {u : Nat} (h : GI l = .ok (n, u)) : W64 n ∧ 1 ≤ u ∧ u ≤ l.length ∧ VI n = l.take u ∧ u ≤ 10 := by
  unfold GI at h
  cases e : gi 0 l with
  | error x => rw [e] at h; cases h
  | ok p =>
    obtain ⟨z, u'⟩ := p
    rw [e] at h
    cases h
    obtain ⟨i1, _, i3, i4, i5, i6⟩ := gi_can l 0 z _ hl (by omega) e
    exact ⟨uz_wf i1, i3, i4, by unfold VI; rw [zz_uz]; exact i5, by omega⟩
theorem VI_le {n : Int} (h : W64 n) : (VI n).length ≤ 10 := by
  have := GI_VI h []
  rw [List.append_nil] at this
  obtain ⟨_, _, _, _, h5⟩ := GI_can (VI_byte n) this
  exact h5
theorem VI_inj {m n : Int} (hm : W64 m) (hn : W64 n) (h : VI m = VI n) : m = n := by
  have a := GI_VI hm []
  have b := GI_VI hn []
  rw [h] at a
  rw [a] at b
  cases b
  rfl
/-- Neither of two encodings is a proper prefix of the other one. -/
theorem VI_prefix {m n : Int} (hm : W64 m) (hn : W64 n) (k : Nat) (h1 : (VI m).length ≤ k) (h : (VI n).take k = VI m) : m = n := by
  by_cases hk : k < (VI n).length
  · have a := GI_cut hn hk
    rw [h] at a
    have b := GI_VI hm []
    rw [List.append_nil, a] at b
    cases b
  · rw [List.take_of_length_le (by omega)] at h
    exact VI_inj hm hn h.symm

theorem len_mono (z : Nat) : ∀ w : Nat, z / 2 ≤ w / 2 → (vb z).length ≤ (vb w).length := by
  induction z using Nat.strongRecOn with
  | _ z ih =>
    intro w h
    by_cases hz : z < 128
    · rw [vb_lt hz]
      exact vb_pos w
    · rw [vb_ge hz, vb_ge (show ¬ w < 128 by omega)]
      simp only [List.length_cons]
      have := ih (z / 128) (by omega) (w / 128) (by omega)
      omega
theorem len_one (z : Nat) : (vb z).length = 1 ↔ z < 128 := by
  by_cases hz : z < 128
  · simp [vb_lt hz, hz]
  · have := vb_pos (z / 128)
    simp only [vb_ge hz, List.length_cons, hz, iff_false]
    omega

/-! ### Lengths, strings, lists -/
/-- Decoding a length. -/
def GN (least : Nat) (l : List Int) : Except Int (Nat × Nat) := match GI l with
  | .error e => .error e
  | .ok (n, u) => if n < 0 then .error 11 else if ((l.length - u) / least : Nat) < n then .error 10 else .ok (n.toNat, u)
theorem W64_len {n : Nat} (h : n ≤ 9223372036854775807) : W64 (n : Int) := ⟨by omega, by omega⟩
theorem GN_VI {least n : Nat} (hn : n ≤ 9223372036854775807) (hl : 0 < least) (t : List Int) (h : n * least ≤ t.length) : GN least (VI n ++ t) = .ok (n, (VI n).length) := by
  unfold GN
  rw [GI_VI (W64_len hn)]
  simp only [List.length_append]
  rw [if_neg (by omega), if_neg]
  · simp
  · have : n ≤ (((VI n).length + t.length - (VI n).length) / least : Nat) := by
      rw [Nat.le_div_iff_mul_le hl]
      omega
    omega
theorem GN_short {least n : Nat} (hn : n ≤ 9223372036854775807) (hl : 0 < least) (t : List Int) (h : t.length < n * least) : GN least (VI n ++ t) = .error 10 := by
  unfold GN
  rw [GI_VI (W64_len hn)]
  simp only [List.length_append]
  rw [if_neg (by omega), if_pos]
  have : (((VI n).length + t.length - (VI n).length) / least : Nat) < n := by
    rw [Nat.div_lt_iff_lt_mul hl]
    omega
  omega
theorem GN_cut {least n : Nat} (hn : n ≤ 9223372036854775807) {i : Nat} (hi : i < (VI n).length) : GN least ((VI n).take i) = .error 10 := by
  unfold GN
  rw [GI_cut (W64_len hn) hi]
theorem GN_can {least : Nat} {l : List Int} (hb : Bts l) (hl : 0 < least) {n u : Nat} (h : GN least l = .ok (n, u)) : VI n = l.take u ∧ 1 ≤ u ∧ u ≤ l.length ∧ n * least ≤ l.length - u ∧ W64 n := by
  unfold GN at h
  cases e : GI l with
  | error x => rw [e] at h; cases h
  | ok p =>
    obtain ⟨m, u'⟩ := p
    rw [e] at h
    simp only at h
    obtain ⟨i1, i2, i3, i4, i5⟩ := GI_can hb e
    by_cases c1 : m < 0
    · rw [if_pos c1] at h; cases h
    rw [if_neg c1] at h
    by_cases c2 : (((l.length - u') / least : Nat) : Int) < m
    · rw [if_pos c2] at h; cases h
    rw [if_neg c2] at h
    cases h
    have hm : ((m.toNat : Nat) : Int) = m := by omega
    refine ⟨by rw [hm]; exact i4, i2, i3, ?_, by rw [hm]; exact i1⟩
    have : m.toNat ≤ (l.length - u) / least := by omega
    exact (Nat.le_div_iff_mul_le hl).1 this

/-- An encoding and a decoding that fit. 'V': what can be encoded. -/
structure Codec {α : Type} (V : α → Prop) (E : α → List Int) (D : List Int → Except Int (α × Nat)) (least : Nat) : Prop where
  bytes : ∀ x, V x → Bts (E x)
  least_le : ∀ x, V x → least ≤ (E x).length
  trip : ∀ x t, V x → D (E x ++ t) = .ok (x, (E x).length)
  can : ∀ l x u, Bts l → least ≤ l.length → D l = .ok (x, u) → V x ∧ u ≤ l.length ∧ E x = l.take u

def EL {α : Type} (E : α → List Int) (xs : List α) : List Int := VI xs.length ++ xs.flatMap E
def dls {α : Type} (D : List Int → Except Int (α × Nat)) : Nat → List Int → Except Int (List α × Nat)
  | 0, _ => .ok ([], 0)
  | n + 1, l => match D l with
    | .error e => .error e
    | .ok (x, u) => match dls D n (l.drop u) with
      | .error e => .error e
      | .ok (xs, v) => .ok (x :: xs, u + v)
def GL {α : Type} (D : List Int → Except Int (α × Nat)) (least : Nat) (l : List Int) : Except Int (List α × Nat) := match GN least l with
  | .error e => .error e
  | .ok (n, a) => match dls D n (l.drop a) with
    | .error e => .error e
    | .ok (xs, v) => .ok (xs, a + v)
section
variable {α : Type} {V : α → Prop} {E : α → List Int} {D : List Int → Except Int (α × Nat)} {least : Nat}
theorem flat_len (c : Codec V E D least) : ∀ xs : List α, (∀ x ∈ xs, V x) → xs.length * least ≤ (xs.flatMap E).length
  | [], _ => by simp
  | x :: r, h => by
    have a := c.least_le x (h x (by simp))
    have b := flat_len c r fun y hy => h y (by simp [hy])
    simp only [List.flatMap_cons, List.length_append, List.length_cons, Nat.add_mul, Nat.one_mul]
    omega
theorem flat_bytes (c : Codec V E D least) (xs : List α) (h : ∀ x ∈ xs, V x) : Bts (xs.flatMap E) := by
  intro y hy
  obtain ⟨x, hx, hy⟩ := List.mem_flatMap.1 hy
  exact c.bytes x (h x hx) y hy
theorem dls_trip (c : Codec V E D least) (t : List Int) : ∀ xs : List α, (∀ x ∈ xs, V x) → dls D xs.length (xs.flatMap E ++ t) = .ok (xs, (xs.flatMap E).length)
  | [], _ => rfl
  | x :: r, h => by
    simp only [List.flatMap_cons, List.append_assoc, List.length_cons, dls]
    rw [c.trip x _ (h x (by simp))]
    simp only [List.drop_left]
    rw [dls_trip c t r fun y hy => h y (by simp [hy])]
    simp
theorem GL_trip (c : Codec V E D least) (hl : 0 < least) (xs : List α) (hn : xs.length ≤ 9223372036854775807) (h : ∀ x ∈ xs, V x) (t : List Int) : GL D least (EL E xs ++ t) = .ok (xs, (EL E xs).length) := by
  unfold GL EL
  rw [List.append_assoc, GN_VI hn hl _ (by rw [List.length_append]; have := flat_len c xs h; omega)]
  simp only [List.drop_left]
  rw [dls_trip c t xs h]
  simp
theorem dls_can (c : Codec V E D least) (hl : 0 < least) : ∀ (n : Nat) (l : List Int) (xs : List α) (v : Nat), Bts l → (least = 1 ∨ n * least ≤ l.length ∧ ∀ x, (E x).length = least) → (least = 1 → ∀ e, D [] ≠ .ok e) → dls D n l = .ok (xs, v) → (∀ x ∈ xs, V x) ∧ xs.length = n ∧ v ≤ l.length ∧ xs.flatMap E = l.take v
  | 0, l, xs, v, _, _, _, h => by
    simp only [dls] at h
    cases h
    simp
  | n + 1, l, xs, v, hb, hz, h0, h => by
    simp only [dls] at h
    cases e : D l with
    | error x => rw [e] at h; cases h
    | ok p =>
      obtain ⟨x, u⟩ := p
      rw [e] at h
      simp only at h
      have hll : least ≤ l.length := by
        rcases hz with hz | hz
        · cases l with
          | nil => exact absurd e (h0 hz _)
          | cons c r => simp; omega
        · have := hz.1
          rw [Nat.add_mul] at this
          omega
      obtain ⟨i1, i2, i3⟩ := c.can l x u hb hll e
      cases e2 : dls D n (l.drop u) with
      | error x => rw [e2] at h; cases h
      | ok q =>
        obtain ⟨ys, v'⟩ := q
        rw [e2] at h
        cases h
        obtain ⟨j1, j2, j3, j4⟩ := dls_can c hl n (l.drop u) ys v' (fun y hy => hb y (List.mem_of_mem_drop hy)) (by
          rcases hz with hz | ⟨hz, hy⟩
          · exact .inl hz
          · refine .inr ⟨?_, hy⟩
            have hu : u = least := by
              have := congrArg List.length i3
              rw [hy, List.length_take] at this
              omega
            rw [Nat.add_mul] at hz
            rw [List.length_drop]
            omega) h0 e2
        rw [List.length_drop] at j3
        refine ⟨fun y hy => ?_, by simp [j2], by omega, ?_⟩
        · rcases List.mem_cons.1 hy with rfl | hy
          · exact i1
          · exact j1 y hy
        · rw [List.flatMap_cons, i3, j4, List.take_add]
theorem GL_can (c : Codec V E D least) (hl : 0 < least) (hz : least = 1 ∨ ∀ x, (E x).length = least) (h0 : least = 1 → ∀ e, D [] ≠ .ok e) {l : List Int} (hb : Bts l) {xs : List α} {u : Nat} (h : GL D least l = .ok (xs, u)) : (∀ x ∈ xs, V x) ∧ xs.length ≤ 9223372036854775807 ∧ u ≤ l.length ∧ EL E xs = l.take u := by
  unfold GL at h
  cases e : GN least l with
  | error x => rw [e] at h; cases h
  | ok p =>
    obtain ⟨n, a⟩ := p
    rw [e] at h
    simp only at h
    obtain ⟨i1, i2, i3, i4, i5⟩ := GN_can hb hl e
    cases e2 : dls D n (l.drop a) with
    | error x => rw [e2] at h; cases h
    | ok q =>
      obtain ⟨ys, v⟩ := q
      rw [e2] at h
      cases h
      obtain ⟨j1, j2, j3, j4⟩ := dls_can c hl n (l.drop a) _ v (fun y hy => hb y (List.mem_of_mem_drop hy)) (hz.imp id fun h => ⟨by rw [List.length_drop]; exact i4, h⟩) h0 e2
      rw [List.length_drop] at j3
      refine ⟨j1, by have := i5.2; omega, by omega, ?_⟩
      unfold EL
      rw [j2, i1, j4, List.take_add]
/-- A proper prefix of the encodings of the elements ends too early. -/
theorem dls_cut (c : Codec V E D 1) (hcut : ∀ x i, V x → i < (E x).length → D ((E x).take i) = .error 10) : ∀ (xs : List α) (i : Nat), (∀ x ∈ xs, V x) → i < (xs.flatMap E).length → dls D xs.length ((xs.flatMap E).take i) = .error 10
  | [], i, _, hi => by simp at hi
  | x :: r, i, h, hi => by
    simp only [List.flatMap_cons, List.length_cons, dls] at hi ⊢
    rw [List.length_append] at hi
    by_cases hx : i < (E x).length
    · rw [List.take_append_of_le_length (by omega), hcut x i (h x (by simp)) hx]
    · rw [List.take_append, List.take_of_length_le (by omega), c.trip x _ (h x (by simp))]
      simp only [List.drop_left]
      rw [dls_cut c hcut r (i - (E x).length) (fun y hy => h y (by simp [hy])) (by omega)]
theorem GL_cut (c : Codec V E D 1) (hcut : ∀ x i, V x → i < (E x).length → D ((E x).take i) = .error 10) (xs : List α) (hn : xs.length ≤ 9223372036854775807) (h : ∀ x ∈ xs, V x) {i : Nat} (hi : i < (EL E xs).length) : GL D 1 ((EL E xs).take i) = .error 10 := by
  unfold GL
  unfold EL at hi ⊢
  rw [List.length_append] at hi
  by_cases hx : i < (VI xs.length).length
  · rw [List.take_append_of_le_length (by omega), GN_cut hn hx]
  · rw [List.take_append, List.take_of_length_le (by omega)]
    have hlen : ((xs.flatMap E).take (i - (VI xs.length).length)).length = i - (VI xs.length).length := by rw [List.length_take]; omega
    by_cases hs : i - (VI xs.length).length < xs.length * 1
    · rw [GN_short hn (by omega) _ (by omega)]
    · rw [GN_VI hn (by omega) _ (by omega)]
      simp only [List.drop_left]
      rw [dls_cut c hcut xs _ h (by omega)]
theorem GL_cut_fixed (hl : 0 < least) (hE : ∀ x, (E x).length = least) (xs : List α) (hn : xs.length ≤ 9223372036854775807) {i : Nat} (hi : i < (EL E xs).length) : GL D least ((EL E xs).take i) = .error 10 := by
  unfold GL
  unfold EL at hi ⊢
  rw [List.length_append] at hi
  have hf : (xs.flatMap E).length = xs.length * least := by
    clear hi hn
    induction xs with
    | nil => simp
    | cons x r ih => simp only [List.flatMap_cons, List.length_append, List.length_cons, Nat.add_mul, Nat.one_mul, hE, ih]; omega
  by_cases hx : i < (VI xs.length).length
  · rw [List.take_append_of_le_length (by omega), GN_cut hn hx]
  · rw [List.take_append, List.take_of_length_le (by omega)]
    rw [GN_short hn hl _ (by rw [List.length_take]; omega)]
end

/-! ### Byte strings -/
theorem str_bytes (s : ByteArray) : strOfNums (bytesOf s) = s := by
  obtain ⟨a⟩ := s
  unfold strOfNums bytesOf
  simp only [List.map_map]
  have : ((fun n : Int => UInt8.ofNat n.toNat) ∘ fun b : UInt8 => (b.toNat : Int)) = id := by
    funext b
    simp
  rw [this]
  simp
theorem bytes_str {l : List Int} (h : Bts l) : bytesOf (strOfNums l) = l := by
  unfold strOfNums bytesOf
  simp only [List.map_map]
  have e : ∀ c ∈ l, ((fun b : UInt8 => (b.toNat : Int)) ∘ fun n : Int => UInt8.ofNat n.toNat) c = id c := by
    intro c hc
    have := h c hc
    show ((UInt8.ofNat c.toNat).toNat : Int) = c
    rw [UInt8.toNat_ofNat', Nat.mod_eq_of_lt (by omega)]
    omega
  rw [List.map_congr_left e, List.map_id]
theorem str_size (l : List Int) : (strOfNums l).size = l.length := by
  unfold strOfNums
  show (List.map _ l).toArray.size = _
  simp
theorem bytesOf_byte (s : ByteArray) : Bts (bytesOf s) := by
  intro c hc
  obtain ⟨b, _, rfl⟩ := List.mem_map.1 hc
  have := b.toNat_lt
  omega
def EB (s : ByteArray) : List Int := VI s.size ++ bytesOf s
def GB (l : List Int) : Except Int (ByteArray × Nat) := match GN 1 l with
  | .error e => .error e
  | .ok (n, u) => .ok (strOfNums ((l.drop u).take n), u + n)
theorem GB_EB {s : ByteArray} (h : s.size ≤ 9223372036854775807) (t : List Int) : GB (EB s ++ t) = .ok (s, (EB s).length) := by
  unfold GB EB
  rw [List.append_assoc, GN_VI h (by omega) _ (by rw [List.length_append, bytesOf_length]; omega)]
  simp only [List.drop_left]
  rw [← bytesOf_length, List.take_left, str_bytes]
  simp only [List.length_append]
theorem GB_cut {s : ByteArray} (h : s.size ≤ 9223372036854775807) {i : Nat} (hi : i < (EB s).length) : GB ((EB s).take i) = .error 10 := by
  unfold GB
  unfold EB at hi ⊢
  rw [List.length_append, bytesOf_length] at hi
  by_cases hx : i < (VI s.size).length
  · rw [List.take_append_of_le_length (by omega), GN_cut h hx]
  · rw [List.take_append, List.take_of_length_le (by omega), GN_short h (by omega) _ (by rw [List.length_take]; omega)]
theorem GB_can {l : List Int} (hb : Bts l) {s : ByteArray} {u : Nat} (h : GB l = .ok (s, u)) : s.size ≤ 9223372036854775807 ∧ 1 ≤ u ∧ u ≤ l.length ∧ EB s = l.take u := by
  unfold GB at h
  cases e : GN 1 l with
  | error x => rw [e] at h; cases h
  | ok p =>
    obtain ⟨n, a⟩ := p
    rw [e] at h
    cases h
    obtain ⟨i1, i2, i3, i4, i5⟩ := GN_can hb (by omega) e
    have hlen : ((l.drop a).take n).length = n := by rw [List.length_take, List.length_drop]; omega
    refine ⟨by rw [str_size, hlen]; have := i5.2; omega, by omega, by omega, ?_⟩
    unfold EB
    rw [str_size, hlen, i1, bytes_str (fun y hy => hb y (List.mem_of_mem_drop (List.mem_of_mem_take hy))), List.take_add]
theorem int_codec : Codec W64 VI GI 1 :=
  ⟨fun x _ => VI_byte x, fun x _ => VI_pos x, fun _ t h => GI_VI h t, fun _ _ _ hb _ h => by obtain ⟨i1, _, i3, i4, _⟩ := GI_can hb h; exact ⟨i1, i3, i4⟩⟩
theorem str_codec : Codec (fun s : ByteArray => s.size ≤ 9223372036854775807) EB GB 1 :=
  ⟨fun x _ c hc => (List.mem_append.1 hc).elim (VI_byte _ c) (bytesOf_byte _ c), fun x _ => by unfold EB; have := VI_pos x.size; rw [List.length_append]; omega, fun _ t h => GB_EB h t, fun _ _ _ hb _ h => by obtain ⟨i1, _, i3, i4⟩ := GB_can hb h; exact ⟨i1, i3, i4⟩⟩
theorem GI_nil (e : Int × Nat) : GI [] ≠ .ok e := by unfold GI gi; simp
theorem GB_nil (e : ByteArray × Nat) : GB [] ≠ .ok e := by unfold GB GN GI gi; simp
end Go.Proofs.Ytekbhcciabgnhaa.PureW
