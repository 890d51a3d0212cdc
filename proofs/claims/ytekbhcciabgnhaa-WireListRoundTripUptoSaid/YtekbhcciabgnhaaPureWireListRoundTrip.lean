/- The statement WireListRoundTrip over numbers and lists alone, where these are of bulk at most 1048576. -/
import Derived.Test.YtekbhcciabgnhaaPP0
import Derived.Test.YtekbhcciabgnhaaPureWS
import Derived.Test.YtekbhcciabgnhaaGListTrip
import Derived.Test.YtekbhcciabgnhaaBulk
set_option linter.unusedVariables false
namespace Go.Proofs.Ytekbhcciabgnhaa.Pure
open Go.RowKit Go.Proofs.Ytekbhcciabgnhaa.PP Go.Proofs.Ytekbhcciabgnhaa.PureW Go.Proofs.YtekbhcciabgnhaaW.PrintWords Go.Proofs.YtekbhcciabgnhaaW.PrintLast Go.Proofs.YtekbhcciabgnhaaW.PrintMore Go.Proofs.YtekbhcciabgnhaaO
theorem tot_msum (l : List ByteArray) : msum (fun z0 => (z0.size + 1)) l = l.length + tot l := by
  induction l with
  | nil => rfl
  | cons x r ih => rw [msum_cons, ih, tot_cons, List.length_cons]; omega
theorem WireListRoundTrip (x0 : ByteArray) (x1 : List Int) (x2 : List ByteArray) (x3 : List (S57)) (x4 : List Int) (g0 : x0.size ≤ 140737488351232) (g1 : x1.length ≤ 9223372036854775807 ∧ x1.length * 8 ≤ 140737488351232 ∧ ∀ y1 ∈ x1, (Lit.int .i64 y1).wf = true) (g2 : x2.length ≤ 9223372036854775807 ∧ x2.length * 16 ≤ 140737488351232 ∧ ∀ y1 ∈ x2, y1.size ≤ 140737488351232) (g3 : x3.length ≤ 9223372036854775807 ∧ x3.length * 16 ≤ 140737488351232 ∧ ∀ y1 ∈ x3, ((Lit.int .u8 y1.f0).wf = true) ∧ (((Lit.int .u8 y1.f1).wf = true) ∧ (((Lit.int .u8 y1.f2).wf = true) ∧ (((Lit.int .u8 y1.f3).wf = true) ∧ (((Lit.int .u8 y1.f4).wf = true) ∧ (((Lit.int .u8 y1.f5).wf = true) ∧ (((Lit.int .u8 y1.f6).wf = true) ∧ (((Lit.int .u8 y1.f7).wf = true) ∧ (((Lit.int .u8 y1.f8).wf = true) ∧ (((Lit.int .u8 y1.f9).wf = true) ∧ (((Lit.int .u8 y1.f10).wf = true) ∧ (((Lit.int .u8 y1.f11).wf = true) ∧ (((Lit.int .u8 y1.f12).wf = true) ∧ (((Lit.int .u8 y1.f13).wf = true) ∧ (((Lit.int .u8 y1.f14).wf = true) ∧ ((Lit.int .u8 y1.f15).wf = true)))))))))))))))) (g4 : x4.length ≤ 9223372036854775807 ∧ x4.length * 1 ≤ 140737488351232 ∧ ∀ y1 ∈ x4, (Lit.int .u8 y1).wf = true) (gb : (x0.size + 1) + (msum (fun z0 => 1) x1 + 1) + (msum (fun z0 => (z0.size + 1)) x2 + 1) + (msum (fun z0 => 1) x3 + 1) + (msum (fun z0 => 1) x4 + 1) ≤ 1048576) : ∃ k, weirgatelaw01_WireListRoundTrip.f k x0 x1 x2 x3 x4 = some true := by
  rw [tot_msum] at gb
  have hw : ∀ x ∈ x1, W64 x := fun x hx => wf_i64 (g1.2.2 x hx)
  have hbd : ∀ x ∈ x3, Bts (dl x) := by
    intro x hx c hc
    obtain ⟨q0, q1, q2, q3, q4, q5, q6, q7, q8, q9, q10, q11, q12, q13, q14, q15⟩ := g3.2.2 x hx
    simp only [dl, List.mem_cons, List.not_mem_nil, or_false] at hc
    rcases hc with rfl | rfl | rfl | rfl | rfl | rfl | rfl | rfl | rfl | rfl | rfl | rfl | rfl | rfl | rfl | rfl <;> exact wf_u8 (by assumption)
  have hb4 : Bts x4 := fun c hc => wf_u8 (g4.2.2 c hc)
  obtain ⟨m, hm⟩ : ∃ m : Nat, 2000000 ≤ m := ⟨2000000, by omega⟩
  refine ⟨m, ?_⟩
  unfold weirgatelaw01_WireListRoundTrip.f
  rw [wrap64_id (a := (x0.size : Int) + (x1.length : Int)) (by omega) (by omega), wrap64_id (a := (x0.size : Int) + (x1.length : Int) + (x3.length : Int)) (by omega) (by omega), wrap64_id (by omega) (by omega)]
  by_cases h : (x0.size : Int) + (x1.length : Int) + (x3.length : Int) + (x4.length : Int) > 2000
  · rw [if_pos h, sanity_at (by omega)]
  rw [if_neg h, few_eq (by omega) (by omega) (by omega)]
  simp only [Option.bind_some]
  by_cases h2 : x2.length + tot x2 ≤ 2000
  case neg => rw [if_pos (decide_eq_false h2), sanity_at (by omega)]
  rw [if_neg (by rw [decide_eq_true h2]; decide)]
  have hs2 : ∀ x ∈ x2, x.size ≤ 140737488351232 := g2.2.2
  have hs3 : ∀ x ∈ x2, x.size ≤ 9223372036854775807 := fun x hx => by have := g2.2.2 x hx; omega
  have f1 := flat_VI hw
  have f2 := flat_EB hs3
  have f3 := flat_dl x3
  have n0 := EB_len (s := x0) (by omega)
  have n1 := (EL_len (E := VI) g1.1).1
  have n2 := (EL_len (E := EB) g2.1).1
  have n3 := (EL_len (E := dl) g3.1).1
  have bE0 : Bts (EB x0) := str_codec.bytes x0 (by omega)
  have bE1 : Bts (EL VI x1) := fun c hc => (List.mem_append.1 hc).elim (VI_byte _ c) (flat_bytes int_codec x1 hw c)
  have bE2 : Bts (EL EB x2) := fun c hc => (List.mem_append.1 hc).elim (VI_byte _ c) (flat_bytes str_codec x2 hs3 c)
  have bE3 : Bts (EL dl x3) := fun c hc => (List.mem_append.1 hc).elim (VI_byte _ c) (flat_bytes dig_codec x3 hbd c)
  have ap : ∀ l : List Int, Bts l → Bts (l ++ x4) := fun l hl c hc => (List.mem_append.1 hc).elim (hl c) (hb4 c)
  rw [wire_Bytes_eq g0 (by omega)]
  simp only [Option.bind_some]
  rw [wire_Ints_eq hw (by omega) (by omega) (by omega)]
  simp only [Option.bind_some]
  rw [wire_Digests_eq (fun _ _ => trivial) (by omega) (by omega) (by omega)]
  simp only [Option.bind_some]
  rw [wire_Strings_eq hs2 (by omega) (by omega) (by omega)]
  simp only [Option.bind_some]
  rw [if_pos ⟨by omega, by omega, by omega, by omega⟩]
  rw [wire_GetBytes_eq (ap _ bE0) (by unfold LB; rw [List.length_append]; omega) (by omega), GB_EB (by omega)]
  simp only [Option.bind_some]
  rw [wire_GetInts_eq (ap _ bE1) (by unfold LB; rw [List.length_append]; omega) (by rw [List.length_append]; omega), GL_trip int_codec (by omega) x1 g1.1 hw x4]
  simp only [Option.bind_some]
  rw [wire_GetDigests_eq (ap _ bE3) (by unfold LB; rw [List.length_append]; omega) (by rw [List.length_append]; omega), GL_trip dig_codec (by omega) x3 g3.1 hbd x4]
  simp only [Option.bind_some]
  rw [wire_GetStrings_eq (ap _ bE2) (by unfold LB; rw [List.length_append]; omega) (by rw [List.length_append]; omega), GL_trip str_codec (by omega) x2 g2.1 hs3 x4]
  simp only [Option.bind_some, tri]
  rw [sanity_at (by omega)]
  simp only [Option.bind_some]
  rw [sameTexts_refl (by omega) (by omega)]
  simp only [Option.bind_some]
  rw [sameInts_refl (by omega) (by omega)]
  simp only [Option.bind_some]
  rw [sameDigests_refl]
  simp only [Option.bind_some]
  rw [if_pos ⟨trivial, trivial, trivial, trivial, trivial, trivial, trivial, trivial, trivial, trivial, trivial, trivial, trivial⟩]
end Go.Proofs.Ytekbhcciabgnhaa.Pure
