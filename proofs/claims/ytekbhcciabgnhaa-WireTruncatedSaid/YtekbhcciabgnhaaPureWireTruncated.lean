/- The statement WireTruncated over numbers and lists alone. -/
import Derived.Test.YtekbhcciabgnhaaPP0
import Derived.Test.YtekbhcciabgnhaaPP14
import Derived.Test.YtekbhcciabgnhaaPureWS
set_option linter.unusedVariables false
namespace Go.Proofs.Ytekbhcciabgnhaa.Pure
open Go.RowKit Go.Proofs.Ytekbhcciabgnhaa.PP Go.Proofs.Ytekbhcciabgnhaa.PureW Go.Proofs.YtekbhcciabgnhaaW.PrintWords Go.Proofs.YtekbhcciabgnhaaW.PrintLast Go.Proofs.YtekbhcciabgnhaaW.PrintMore
theorem trunc_l1 (c : Nat) (hc : c ≤ 4) (b : List Int) (y : List (List Int)) (n : Int)
    (h0 : c = 0 → ∀ i k, i < b.length → i < 500 → 3000 ≤ k → ∃ p q, wire_GetInt.f k (b.take i) = some (p, q, 10))
    (h1 : c = 1 → ∀ i k, i < b.length → i < 500 → 3000 ≤ k → ∃ p q, wire_GetBytes.f k (b.take i) = some (p, q, 10))
    (h2 : c = 2 → ∀ i k, i < b.length → i < 500 → 3000 ≤ k → ∃ p q, wire_GetInts.f k (b.take i) = some (p, q, 10))
    (h3 : c = 3 → ∀ i k, i < b.length → i < 500 → 3000 ≤ k → ∃ p q, wire_GetStrings.f k (b.take i) = some (p, q, 10))
    (h4 : c = 4 → ∀ i k, i < b.length → i < 500 → 3000 ≤ k → ∃ p q, wire_GetDigests.f k (b.take i) = some (p, q, 10)) :
    ∀ (r i k : Nat), i + r = min b.length 500 → 3000 ≤ k → weirgatelaw01_WireTruncated.l1 (r + (k + 1)) (c : Int) b y n (c : Int) ((min b.length 500 : Nat) : Int) (i : Int) = weirgatelaw01_WireTruncated.l0 k y n ((c + 1 : Nat) : Int) := by
  intro r
  induction r with
  | zero =>
    intro i k hi hk
    rw [Nat.zero_add]
    simp only [weirgatelaw01_WireTruncated.l1]
    rw [if_neg (by omega), show ((c : Int) + 1) = ((c + 1 : Nat) : Int) by omega, wrap64_id (by omega) (by omega)]
  | succ r ih =>
    intro i k hi hk
    have next := ih (i + 1) k (by omega) hk
    have ew : wrap64 ((i : Int) + 1) = ((i + 1 : Nat) : Int) := by rw [wrap64_id (by omega) (by omega)]; omega
    have hil : i < b.length := by omega
    rw [show r + 1 + (k + 1) = (r + (k + 1)) + 1 by omega]
    obtain ⟨K, hK⟩ : ∃ K, r + (k + 1) = K := ⟨_, rfl⟩
    rw [hK] at next ⊢
    simp only [weirgatelaw01_WireTruncated.l1]
    rw [if_pos (show (i : Int) < ((min b.length 500 : Nat) : Int) by omega), Int.toNat_natCast, ew, next]
    by_cases c0 : c = 0
    · obtain ⟨p, q, e⟩ := h0 c0 i K hil (by omega) (by omega)
      rw [if_pos (show (c : Int) = 0 by omega), if_pos (by omega), if_pos (by omega), e]
      simp only [Option.bind_some]
      rw [if_pos trivial]
    rw [if_neg (show ¬ (c : Int) = 0 by omega)]
    by_cases c1 : c = 1
    · obtain ⟨p, q, e⟩ := h1 c1 i K hil (by omega) (by omega)
      rw [if_pos (show (c : Int) = 1 by omega), if_pos (by omega), if_pos (by omega), e]
      simp only [Option.bind_some]
      rw [if_pos trivial]
    rw [if_neg (show ¬ (c : Int) = 1 by omega)]
    by_cases c2 : c = 2
    · obtain ⟨p, q, e⟩ := h2 c2 i K hil (by omega) (by omega)
      rw [if_pos (show (c : Int) = 2 by omega), if_pos (by omega), if_pos (by omega), e]
      simp only [Option.bind_some]
      rw [if_pos trivial]
    rw [if_neg (show ¬ (c : Int) = 2 by omega)]
    by_cases c3 : c = 3
    · obtain ⟨p, q, e⟩ := h3 c3 i K hil (by omega) (by omega)
      rw [if_pos (show (c : Int) = 3 by omega), if_pos (by omega), if_pos (by omega), e]
      simp only [Option.bind_some]
      rw [if_pos trivial]
    rw [if_neg (show ¬ (c : Int) = 3 by omega)]
    obtain ⟨p, q, e⟩ := h4 (by omega) i K hil (by omega) (by omega)
    rw [if_pos (by omega), if_pos (by omega), e]
    simp only [Option.bind_some]
    rw [if_pos trivial]
theorem trunc_l0 (c : Nat) (hc : c ≤ 4) (b : List Int) (y : List (List Int)) (hy : y.length = 5) (hb : rd_L4 y (c : Int) = b)
    (h0 : c = 0 → ∀ i k, i < b.length → i < 500 → 3000 ≤ k → ∃ p q, wire_GetInt.f k (b.take i) = some (p, q, 10))
    (h1 : c = 1 → ∀ i k, i < b.length → i < 500 → 3000 ≤ k → ∃ p q, wire_GetBytes.f k (b.take i) = some (p, q, 10))
    (h2 : c = 2 → ∀ i k, i < b.length → i < 500 → 3000 ≤ k → ∃ p q, wire_GetInts.f k (b.take i) = some (p, q, 10))
    (h3 : c = 3 → ∀ i k, i < b.length → i < 500 → 3000 ≤ k → ∃ p q, wire_GetStrings.f k (b.take i) = some (p, q, 10))
    (h4 : c = 4 → ∀ i k, i < b.length → i < 500 → 3000 ≤ k → ∃ p q, wire_GetDigests.f k (b.take i) = some (p, q, 10)) (k : Nat) (hk : 3000 ≤ k) :
    ∃ k', k < k' ∧ weirgatelaw01_WireTruncated.l0 k' y (y.length : Int) (c : Int) = weirgatelaw01_WireTruncated.l0 k y (y.length : Int) ((c + 1 : Nat) : Int) := by
  refine ⟨min b.length 500 + (k + 1) + 1, by omega, ?_⟩
  simp only [weirgatelaw01_WireTruncated.l0]
  have hmn : mn (b.length : Int) 500 = ((min b.length 500 : Nat) : Int) := by unfold mn; split <;> omega
  rw [if_pos (by omega), if_pos (by omega), if_pos (by omega), hb, hmn]
  exact trunc_l1 c hc b y _ h0 h1 h2 h3 h4 (min b.length 500) 0 k (by omega) hk
theorem WireTruncated (x0 : Int) (x1 : ByteArray) (x2 : List Int) (x3 : List ByteArray) (x4 : List (S57)) (g0 : (Lit.int .i64 x0).wf = true) (g1 : x1.size ≤ 140737488351232) (g2 : x2.length ≤ 9223372036854775807 ∧ x2.length * 8 ≤ 140737488351232 ∧ ∀ y1 ∈ x2, (Lit.int .i64 y1).wf = true) (g3 : x3.length ≤ 9223372036854775807 ∧ x3.length * 16 ≤ 140737488351232 ∧ ∀ y1 ∈ x3, y1.size ≤ 140737488351232) (g4 : x4.length ≤ 9223372036854775807 ∧ x4.length * 16 ≤ 140737488351232 ∧ ∀ y1 ∈ x4, ((Lit.int .u8 y1.f0).wf = true) ∧ (((Lit.int .u8 y1.f1).wf = true) ∧ (((Lit.int .u8 y1.f2).wf = true) ∧ (((Lit.int .u8 y1.f3).wf = true) ∧ (((Lit.int .u8 y1.f4).wf = true) ∧ (((Lit.int .u8 y1.f5).wf = true) ∧ (((Lit.int .u8 y1.f6).wf = true) ∧ (((Lit.int .u8 y1.f7).wf = true) ∧ (((Lit.int .u8 y1.f8).wf = true) ∧ (((Lit.int .u8 y1.f9).wf = true) ∧ (((Lit.int .u8 y1.f10).wf = true) ∧ (((Lit.int .u8 y1.f11).wf = true) ∧ (((Lit.int .u8 y1.f12).wf = true) ∧ (((Lit.int .u8 y1.f13).wf = true) ∧ (((Lit.int .u8 y1.f14).wf = true) ∧ ((Lit.int .u8 y1.f15).wf = true)))))))))))))))) : ∃ k, weirgatelaw01_WireTruncated.f k x0 x1 x2 x3 x4 = some true := by
  have w0 := wf_i64 g0
  have hw : ∀ x ∈ x2, W64 x := fun x hx => wf_i64 (g2.2.2 x hx)
  have hbd : ∀ x ∈ x4, Bts (dl x) := by
    intro x hx c hc
    obtain ⟨q0, q1, q2, q3, q4, q5, q6, q7, q8, q9, q10, q11, q12, q13, q14, q15⟩ := g4.2.2 x hx
    simp only [dl, List.mem_cons, List.not_mem_nil, or_false] at hc
    rcases hc with rfl | rfl | rfl | rfl | rfl | rfl | rfl | rfl | rfl | rfl | rfl | rfl | rfl | rfl | rfl | rfl <;> exact wf_u8 (by assumption)
  have hs2 : ∀ x ∈ x3, x.size ≤ 140737488351232 := g3.2.2
  have hs3 : ∀ x ∈ x3, x.size ≤ 9223372036854775807 := fun x hx => by have := g3.2.2 x hx; omega
  have hj : ∀ m, 100 ≤ m → weirgatelaw01_WireTruncated.j0 (m + 1) x0 x1 x2 x3 x4 true = some true := by
    intro m hm
    simp only [weirgatelaw01_WireTruncated.j0]
    rw [if_pos trivial, sanity_at (by omega)]
    rfl
  have e0 : wrap64 ((wrap64 ((x1.size : Int) + (wrap64 (10 * (x2.length : Int))))) + (wrap64 (16 * (x4.length : Int)))) = (x1.size : Int) + 10 * (x2.length : Int) + 16 * (x4.length : Int) := by
    rw [wrap64_id (a := 10 * (x2.length : Int)) (by omega) (by omega), wrap64_id (a := (x1.size : Int) + 10 * (x2.length : Int)) (by omega) (by omega), wrap64_id (a := 16 * (x4.length : Int)) (by omega) (by omega), wrap64_id (by omega) (by omega)]
  by_cases h : (x1.size : Int) + 10 * (x2.length : Int) + 16 * (x4.length : Int) > 400
  · refine ⟨200, ?_⟩
    unfold weirgatelaw01_WireTruncated.f
    rw [e0, if_pos h, hj 199 (by omega)]
  by_cases h2 : (x3.length : Int) > 40
  · refine ⟨200, ?_⟩
    unfold weirgatelaw01_WireTruncated.f
    rw [e0, if_neg h, if_pos h2, hj 199 (by omega)]
  have ht := tot_le hs2
  have ht2 : x3.length * 140737488351232 ≤ 40 * 140737488351232 := Nat.mul_le_mul_right _ (by omega)
  by_cases h3 : x3.length + tot x3 ≤ 2000
  case neg =>
    refine ⟨200, ?_⟩
    unfold weirgatelaw01_WireTruncated.f
    rw [e0, if_neg h, if_neg h2, few_eq (by omega) (by omega) (by omega)]
    simp only [Option.bind_some]
    rw [decide_eq_false h3, Bool.not_false, hj 199 (by omega)]
  have f1 := flat_VI hw
  have f2 := flat_EB hs3
  have f3 := flat_dl x4
  have n0 := EB_len (s := x1) (by omega)
  have n1 := (EL_len (E := VI) g2.1).1
  have n2 := (EL_len (E := EB) g3.1).1
  have n3 := (EL_len (E := dl) g4.1).1
  have nV := VI_le w0
  have bV := VI_byte x0
  have bE0 : Bts (EB x1) := str_codec.bytes x1 (by omega)
  have bE1 : Bts (EL VI x2) := fun c hc => (List.mem_append.1 hc).elim (VI_byte _ c) (flat_bytes int_codec x2 hw c)
  have bE2 : Bts (EL EB x3) := fun c hc => (List.mem_append.1 hc).elim (VI_byte _ c) (flat_bytes str_codec x3 hs3 c)
  have bE3 : Bts (EL dl x4) := fun c hc => (List.mem_append.1 hc).elim (VI_byte _ c) (flat_bytes dig_codec x4 hbd c)
  have tl : ∀ (l : List Int) (i : Nat), i < 500 → (l.take i).length ≤ 500 := fun l i hi => by rw [List.length_take]; omega
  let y : List (List Int) := [VI x0, EB x1, EL VI x2, EL EB x3, EL dl x4]
  have s5 : weirgatelaw01_WireTruncated.l0 3001 y (y.length : Int) ((5 : Nat) : Int) = some true := by
    show weirgatelaw01_WireTruncated.l0 (3000 + 1) y 5 5 = some true
    simp only [weirgatelaw01_WireTruncated.l0]
    rw [if_neg (by decide), sanity_at (by omega)]
    rfl
  obtain ⟨k4, hk4, s4⟩ := trunc_l0 4 (by omega) (EL dl x4) y rfl rfl (fun h => by cases h) (fun h => by cases h) (fun h => by cases h) (fun h => by cases h) (fun _ i k hi h5 hk => by
    have q := tl (EL dl x4) i h5
    exact ⟨_, _, by rw [wire_GetDigests_eq (Bts_take bE3 i) (by unfold LB; omega) (by omega), GL_cut_fixed (by omega) dl_len x4 g4.1 hi]; rfl⟩) 3001 (by omega)
  obtain ⟨k3, hk3, s3⟩ := trunc_l0 3 (by omega) (EL EB x3) y rfl rfl (fun h => by cases h) (fun h => by cases h) (fun h => by cases h) (fun _ i k hi h5 hk => by
    have q := tl (EL EB x3) i h5
    exact ⟨_, _, by rw [wire_GetStrings_eq (Bts_take bE2 i) (by unfold LB; omega) (by omega), GL_cut str_codec (fun x i hx hi => GB_cut hx hi) x3 g3.1 hs3 hi]; rfl⟩) (fun h => by cases h) k4 (by omega)
  obtain ⟨k2, hk2, s2⟩ := trunc_l0 2 (by omega) (EL VI x2) y rfl rfl (fun h => by cases h) (fun h => by cases h) (fun _ i k hi h5 hk => by
    have q := tl (EL VI x2) i h5
    exact ⟨_, _, by rw [wire_GetInts_eq (Bts_take bE1 i) (by unfold LB; omega) (by omega), GL_cut int_codec (fun x i hx hi => GI_cut hx hi) x2 g2.1 hw hi]; rfl⟩) (fun h => by cases h) (fun h => by cases h) k3 (by omega)
  obtain ⟨k1, hk1, s1⟩ := trunc_l0 1 (by omega) (EB x1) y rfl rfl (fun h => by cases h) (fun _ i k hi h5 hk => by
    have q := tl (EB x1) i h5
    exact ⟨_, _, by rw [wire_GetBytes_eq (Bts_take bE0 i) (by unfold LB; omega) (by omega), GB_cut (by omega) hi]; rfl⟩) (fun h => by cases h) (fun h => by cases h) (fun h => by cases h) k2 (by omega)
  obtain ⟨k0, hk0, s0⟩ := trunc_l0 0 (by omega) (VI x0) y rfl rfl (fun _ i k hi h5 hk => by
    have q := tl (VI x0) i h5
    exact ⟨_, _, by rw [getint_eq (Bts_take bV i) (by omega) (by omega), GI_cut w0 hi]; rfl⟩) (fun h => by cases h) (fun h => by cases h) (fun h => by cases h) (fun h => by cases h) k1 (by omega)
  refine ⟨k0 + 1, ?_⟩
  unfold weirgatelaw01_WireTruncated.f
  rw [e0, if_neg h, if_neg h2, few_eq (by omega) (by omega) (by omega)]
  simp only [Option.bind_some]
  rw [decide_eq_true h3, Bool.not_true]
  simp only [weirgatelaw01_WireTruncated.j0]
  rw [if_neg (by decide), int_eq w0 (by omega)]
  simp only [Option.bind_some]
  rw [wire_Bytes_eq g1 (by omega)]
  simp only [Option.bind_some]
  rw [wire_Ints_eq hw (by omega) (by omega) (by omega)]
  simp only [Option.bind_some]
  rw [wire_Strings_eq hs2 (by omega) (by omega) (by omega)]
  simp only [Option.bind_some]
  rw [wire_Digests_eq (fun _ _ => trivial) (by omega) (by omega) (by omega)]
  simp only [Option.bind_some]
  show weirgatelaw01_WireTruncated.l0 k0 y (y.length : Int) ((0 : Nat) : Int) = some true
  rw [s0, s1, s2, s3, s4, s5]
end Go.Proofs.Ytekbhcciabgnhaa.Pure
