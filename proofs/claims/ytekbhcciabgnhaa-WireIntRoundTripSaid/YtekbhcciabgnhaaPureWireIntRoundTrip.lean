/- The statement WireIntRoundTrip over numbers and lists alone. -/
import Derived.Test.YtekbhcciabgnhaaPP0
import Derived.Test.YtekbhcciabgnhaaPureWS
import Derived.Test.YtekbhcciabgnhaaGIntTrip
set_option linter.unusedVariables false
namespace Go.Proofs.Ytekbhcciabgnhaa.Pure
open Go.RowKit Go.Proofs.Ytekbhcciabgnhaa.PP Go.Proofs.Ytekbhcciabgnhaa.PureW Go.Proofs.YtekbhcciabgnhaaW.PrintWords Go.Proofs.YtekbhcciabgnhaaW.PrintLast Go.Proofs.YtekbhcciabgnhaaW.PrintMore
theorem WireIntRoundTrip (x0 : Int) (x1 : List Int) (g0 : (Lit.int .i64 x0).wf = true) (g1 : x1.length ≤ 9223372036854775807 ∧ x1.length * 1 ≤ 140737488351232 ∧ ∀ y1 ∈ x1, (Lit.int .u8 y1).wf = true) : ∃ k, weirgatelaw01_WireIntRoundTrip.f k x0 x1 = some true := by
  have hb : Bts x1 := fun c hc => wf_u8 (g1.2.2 c hc)
  have hw := wf_i64 g0
  refine ⟨100, ?_⟩
  unfold weirgatelaw01_WireIntRoundTrip.f
  by_cases h : (x1.length : Int) > 2000
  · rw [if_pos h, sanity_at (by omega)]
  have h10 := VI_le hw
  have h1 := VI_pos x0
  rw [if_neg h, int_eq hw (by omega)]
  simp only [Option.bind_some]
  rw [if_pos (by omega), getint_eq (fun c hc => (List.mem_append.1 hc).elim (VI_byte _ c) (hb c)) (by rw [List.length_append]; omega) (by omega), GI_VI hw, sanity_at (by omega)]
  simp only [Option.bind_some, tri]
  rw [if_pos ⟨trivial, trivial, trivial, trivial, by omega, by omega⟩]
end Go.Proofs.Ytekbhcciabgnhaa.Pure
