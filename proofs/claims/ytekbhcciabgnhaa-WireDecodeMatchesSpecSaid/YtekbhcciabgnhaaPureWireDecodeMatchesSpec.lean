/- The statement WireDecodeMatchesSpec over numbers and lists alone. -/
import Derived.Test.YtekbhcciabgnhaaPP0
import Derived.Test.YtekbhcciabgnhaaPP11
import Derived.Test.YtekbhcciabgnhaaPureWS
set_option linter.unusedVariables false
namespace Go.Proofs.Ytekbhcciabgnhaa.Pure
open Go.RowKit Go.Proofs.Ytekbhcciabgnhaa.PP Go.Proofs.Ytekbhcciabgnhaa.PureW Go.Proofs.YtekbhcciabgnhaaW.PrintWords Go.Proofs.YtekbhcciabgnhaaW.PrintLast Go.Proofs.YtekbhcciabgnhaaW.PrintMore
theorem len_of_GL {α : Type} {V : α → Prop} {E : α → List Int} {D : List Int → Except Int (α × Nat)} {least : Nat} (c : Codec V E D least) (hl : 0 < least) (hz : least = 1 ∨ ∀ x, (E x).length = least) (h0 : least = 1 → ∀ e, D [] ≠ .ok e) {l : List Int} (hb : Bts l) : (tri [] (GL D least l)).1.length ≤ l.length := by
  cases e : GL D least l with
  | error x => simp [tri]
  | ok p =>
    obtain ⟨xs, u⟩ := p
    obtain ⟨i1, i2, i3, i4⟩ := GL_can c hl hz h0 hb e
    have h1 := flat_len c xs i1
    have h2 := (EL_len (E := E) i2).2
    have h3 := congrArg List.length i4
    rw [List.length_take] at h3
    have h4 : xs.length ≤ xs.length * least := Nat.le_mul_of_pos_right _ hl
    simp only [tri]
    omega
theorem WireDecodeMatchesSpec (x0 : List Int) (g0 : x0.length ≤ 9223372036854775807 ∧ x0.length * 1 ≤ 140737488351232 ∧ ∀ y1 ∈ x0, (Lit.int .u8 y1).wf = true) : ∃ k, weirgatelaw01_WireDecodeMatchesSpec.f k x0 = some true := by
  have hb : Bts x0 := fun c hc => wf_u8 (g0.2.2 c hc)
  obtain ⟨m, hm⟩ : ∃ m : Nat, 3000 ≤ m := ⟨3000, by omega⟩
  refine ⟨m + 5, ?_⟩
  unfold weirgatelaw01_WireDecodeMatchesSpec.f
  by_cases h : (x0.length : Int) > 2000
  · rw [if_pos h, sanity_at (by omega)]
    rfl
  have hl : LB x0 := by unfold LB; omega
  have n1 := len_of_GL int_codec (by omega) (.inl rfl) (fun _ => GI_nil) hb
  have n2 := len_of_GL str_codec (by omega) (.inl rfl) (fun _ => GB_nil) hb
  rw [if_neg h, getint_eq hb (by omega) (by omega), rgetint_eq hb (by omega) (by omega)]
  simp only [Option.bind_some]
  rw [if_pos trivial, if_pos trivial, bne_self_eq_false]
  simp only [weirgatelaw01_WireDecodeMatchesSpec.j0]
  rw [if_neg (by decide), wire_GetBytes_eq hb hl (by omega), weirgateref01_GetBytes_eq hb hl (by omega)]
  simp only [Option.bind_some]
  rw [if_pos trivial, if_pos trivial, bne_self_eq_false]
  simp only [weirgatelaw01_WireDecodeMatchesSpec.j1]
  rw [if_neg (by decide), wire_GetInts_eq hb hl (by omega), weirgateref01_GetInts_eq hb hl (by omega)]
  simp only [Option.bind_some]
  rw [sameInts_refl (by omega) (by omega)]
  simp only [Option.bind_some]
  rw [if_pos trivial, if_pos trivial, bne_self_eq_false]
  simp only [weirgatelaw01_WireDecodeMatchesSpec.j2]
  rw [if_neg (by decide), wire_GetStrings_eq hb hl (by omega), weirgateref01_GetStrings_eq hb hl (by omega)]
  simp only [Option.bind_some]
  rw [sameTexts_refl (by omega) (by omega)]
  simp only [Option.bind_some]
  rw [if_pos trivial, if_pos trivial, bne_self_eq_false]
  simp only [weirgatelaw01_WireDecodeMatchesSpec.j3]
  rw [if_neg (by decide), wire_GetDigests_eq hb hl (by omega), weirgateref01_GetDigests_eq hb hl (by omega)]
  simp only [Option.bind_some]
  rw [sanity_at (by omega)]
  simp only [Option.bind_some]
  rw [if_pos trivial, sameDigests_refl]
  simp only [Option.bind_some]
  rw [if_pos trivial, if_pos trivial, beq_self_eq_true]
end Go.Proofs.Ytekbhcciabgnhaa.Pure
