/- The statement WireEncodeMatchesSpec over numbers and lists alone, where these are of bulk at most 1048576. -/
import Derived.Test.YtekbhcciabgnhaaPP0
import Derived.Test.YtekbhcciabgnhaaPP8
import Derived.Test.YtekbhcciabgnhaaPureWS
import Derived.Test.YtekbhcciabgnhaaBulk
set_option linter.unusedVariables false
namespace Go.Proofs.Ytekbhcciabgnhaa.Pure
open Go.RowKit Go.Proofs.Ytekbhcciabgnhaa.PP Go.Proofs.Ytekbhcciabgnhaa.PureW Go.Proofs.YtekbhcciabgnhaaW.PrintWords Go.Proofs.YtekbhcciabgnhaaW.PrintLast Go.Proofs.YtekbhcciabgnhaaW.PrintMore Go.Proofs.YtekbhcciabgnhaaO
theorem tot_msum0 (l : List ByteArray) : msum (fun z0 => (z0.size + 1)) l = l.length + tot l := by
  induction l with
  | nil => rfl
  | cons x r ih => rw [msum_cons, ih, tot_cons, List.length_cons]; omega
theorem WireEncodeMatchesSpec (x0 : Int) (x1 : ByteArray) (x2 : List Int) (x3 : List ByteArray) (x4 : List (S57)) (g0 : (Lit.int .i64 x0).wf = true) (g1 : x1.size ≤ 140737488351232) (g2 : x2.length ≤ 9223372036854775807 ∧ x2.length * 8 ≤ 140737488351232 ∧ ∀ y1 ∈ x2, (Lit.int .i64 y1).wf = true) (g3 : x3.length ≤ 9223372036854775807 ∧ x3.length * 16 ≤ 140737488351232 ∧ ∀ y1 ∈ x3, y1.size ≤ 140737488351232) (g4 : x4.length ≤ 9223372036854775807 ∧ x4.length * 16 ≤ 140737488351232 ∧ ∀ y1 ∈ x4, ((Lit.int .u8 y1.f0).wf = true) ∧ (((Lit.int .u8 y1.f1).wf = true) ∧ (((Lit.int .u8 y1.f2).wf = true) ∧ (((Lit.int .u8 y1.f3).wf = true) ∧ (((Lit.int .u8 y1.f4).wf = true) ∧ (((Lit.int .u8 y1.f5).wf = true) ∧ (((Lit.int .u8 y1.f6).wf = true) ∧ (((Lit.int .u8 y1.f7).wf = true) ∧ (((Lit.int .u8 y1.f8).wf = true) ∧ (((Lit.int .u8 y1.f9).wf = true) ∧ (((Lit.int .u8 y1.f10).wf = true) ∧ (((Lit.int .u8 y1.f11).wf = true) ∧ (((Lit.int .u8 y1.f12).wf = true) ∧ (((Lit.int .u8 y1.f13).wf = true) ∧ (((Lit.int .u8 y1.f14).wf = true) ∧ ((Lit.int .u8 y1.f15).wf = true)))))))))))))))) (gb : 1 + (x1.size + 1) + (msum (fun z0 => 1) x2 + 1) + (msum (fun z0 => (z0.size + 1)) x3 + 1) + (msum (fun z0 => 1) x4 + 1) ≤ 1048576) : ∃ k, weirgatelaw01_WireEncodeMatchesSpec.f k x0 x1 x2 x3 x4 = some true := by
  rw [tot_msum0] at gb
  have w0 := wf_i64 g0
  have hw : ∀ x ∈ x2, W64 x := fun x hx => wf_i64 (g2.2.2 x hx)
  obtain ⟨m, hm⟩ : ∃ m : Nat, 2000000 ≤ m := ⟨2000000, by omega⟩
  refine ⟨m + 1, ?_⟩
  have hj : weirgatelaw01_WireEncodeMatchesSpec.j0 (m + 1) x0 x1 x2 x3 x4 true = some true := by
    simp only [weirgatelaw01_WireEncodeMatchesSpec.j0]
    rw [if_pos trivial, sanity_at (by omega)]
    rfl
  unfold weirgatelaw01_WireEncodeMatchesSpec.f
  rw [wrap64_id (a := (x1.size : Int) + (x2.length : Int)) (by omega) (by omega), wrap64_id (by omega) (by omega)]
  by_cases h : (x1.size : Int) + (x2.length : Int) + (x4.length : Int) > 2000
  · rw [if_pos h, hj]
  rw [if_neg h, few_eq (by omega) (by omega) (by omega)]
  simp only [Option.bind_some]
  by_cases h2 : x3.length + tot x3 ≤ 2000
  case neg => rw [decide_eq_false h2, Bool.not_false, hj]
  rw [decide_eq_true h2, Bool.not_true]
  have hs2 : ∀ x ∈ x3, x.size ≤ 140737488351232 := g3.2.2
  have hs3 : ∀ x ∈ x3, x.size ≤ 9223372036854775807 := fun x hx => by have := g3.2.2 x hx; omega
  have f1 := flat_VI hw
  have f2 := flat_EB hs3
  have f3 := flat_dl x4
  simp only [weirgatelaw01_WireEncodeMatchesSpec.j0]
  rw [if_neg (by decide), sanity_at (by omega)]
  simp only [Option.bind_some]
  rw [if_pos trivial, int_eq w0 (by omega)]
  simp only [Option.bind_some]
  rw [rint_eq w0 (by omega)]
  simp only [Option.bind_some]
  rw [same_refl]
  simp only [Option.bind_some]
  rw [if_pos trivial, wire_Bytes_eq g1 (by omega)]
  simp only [Option.bind_some]
  rw [weirgateref01_Bytes_eq g1 (by omega)]
  simp only [Option.bind_some]
  rw [same_refl]
  simp only [Option.bind_some]
  rw [if_pos trivial, wire_Ints_eq hw (by omega) (by omega) (by omega)]
  simp only [Option.bind_some]
  rw [weirgateref01_Ints_eq hw (by omega) (by omega) (by omega)]
  simp only [Option.bind_some]
  rw [same_refl]
  simp only [Option.bind_some]
  rw [if_pos trivial, wire_Strings_eq hs2 (by omega) (by omega) (by omega)]
  simp only [Option.bind_some]
  rw [weirgateref01_Strings_eq hs2 (by omega) (by omega) (by omega)]
  simp only [Option.bind_some]
  rw [same_refl]
  simp only [Option.bind_some]
  rw [if_pos trivial, wire_Digests_eq (fun _ _ => trivial) (by omega) (by omega) (by omega)]
  simp only [Option.bind_some]
  rw [weirgateref01_Digests_eq (by omega) (by omega)]
  simp only [Option.bind_some]
  rw [same_refl]
  rfl
end Go.Proofs.Ytekbhcciabgnhaa.Pure
