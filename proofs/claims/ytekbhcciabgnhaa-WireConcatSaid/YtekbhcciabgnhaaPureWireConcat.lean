/- The statement WireConcat over numbers and lists alone. -/
import Derived.Test.YtekbhcciabgnhaaPP0
import Derived.Test.YtekbhcciabgnhaaPP14
import Derived.Test.YtekbhcciabgnhaaPureWS
set_option linter.unusedVariables false
namespace Go.Proofs.Ytekbhcciabgnhaa.Pure
open Go.RowKit Go.Proofs.Ytekbhcciabgnhaa.PP Go.Proofs.Ytekbhcciabgnhaa.PureW Go.Proofs.YtekbhcciabgnhaaW.PrintWords Go.Proofs.YtekbhcciabgnhaaW.PrintLast Go.Proofs.YtekbhcciabgnhaaW.PrintMore
theorem WireConcat (x0 : ByteArray) (x1 : List Int) (g0 : x0.size ≤ 140737488351232) (g1 : x1.length ≤ 9223372036854775807 ∧ x1.length * 8 ≤ 140737488351232 ∧ ∀ y1 ∈ x1, (Lit.int .i64 y1).wf = true) : ∃ k, weirgatelaw01_WireConcat.f k x0 x1 = some true := by
  have hw : ∀ x ∈ x1, W64 x := fun x hx => wf_i64 (g1.2.2 x hx)
  obtain ⟨m, hm⟩ : ∃ m : Nat, 100000 ≤ m := ⟨100000, by omega⟩
  refine ⟨m + 1, ?_⟩
  unfold weirgatelaw01_WireConcat.f
  by_cases h : wrap64 ((x0.size : Int) + (x1.length : Int)) > 2000
  · rw [if_pos h, sanity_at (by omega)]
    rfl
  rw [if_neg h]
  rw [wrap64_id (by omega) (by omega)] at h
  have f1 := flat_VI hw
  have f2 := (EL_len (E := VI) g1.1).1
  have f3 := EB_len (s := x0) (by omega)
  have hbE : Bts (EL VI x1) := fun c hc => (List.mem_append.1 hc).elim (VI_byte _ c) (flat_bytes int_codec x1 hw c)
  have hbB : Bts (EB x0) := str_codec.bytes x0 (by omega)
  have hbA : Bts (EB x0 ++ EL VI x1) := fun c hc => (List.mem_append.1 hc).elim (hbB c) (hbE c)
  have e2 := GL_trip int_codec (by omega) x1 g1.1 hw []
  rw [List.append_nil] at e2
  rw [wire_Bytes_eq g0 (by omega)]
  simp only [Option.bind_some]
  rw [wire_Ints_eq hw (by omega) (by omega) (by omega)]
  simp only [Option.bind_some]
  rw [if_pos (by omega)]
  rw [wire_GetBytes_eq hbA (by unfold LB; rw [List.length_append]; omega) (by omega), GB_EB (by omega)]
  simp only [Option.bind_some, tri]
  rw [if_pos trivial, if_neg (by omega), decide_eq_false (by rw [List.length_append]; omega)]
  simp only [weirgatelaw01_WireConcat.j0]
  rw [if_neg (by decide), if_pos (by omega), if_pos (by rw [List.length_append]; omega), Int.toNat_natCast, List.drop_left, wire_GetInts_eq hbE (by unfold LB; omega) (by omega), e2]
  simp only [Option.bind_some, tri]
  rw [sanity_at (by omega)]
  simp only [Option.bind_some]
  rw [if_pos trivial, if_pos trivial, sameInts_refl (by omega) (by omega)]
  simp only [Option.bind_some]
  rw [if_pos trivial, if_pos trivial, wrap64_id (by omega) (by omega), List.length_append, Int.natCast_add, beq_self_eq_true]
end Go.Proofs.Ytekbhcciabgnhaa.Pure
