import Derived.Test.YtekbhcciabgnhaaPP0
import Derived.Test.YtekbhcciabgnhaaPP1
import Derived.Test.YtekbhcciabgnhaaPP3
import Derived.Test.YtekbhcciabgnhaaPP6
import Derived.Test.YtekbhcciabgnhaaGFull
import Derived.Shelf.Abstract
import Derived.Lib.SliceRun
import Derived.Laws.Cover3
import Derived.Shelf.RegionOpen
import Derived.WalkKit
import Derived.OwnWalkIn
import Derived.TacticsInMore
import Derived.LoopNIn
namespace Go.Proofs.Ytekbhcciabgnhaa.PP
open Go.RowKit Go.Proofs.YtekbhcciabgnhaaW.PrintWords Go.Proofs.YtekbhcciabgnhaaW.PrintLast Go.Proofs.YtekbhcciabgnhaaW.PrintMore
set_option linter.unusedVariables false
attribute [local go_sem] isSome_put
def weirgatelaw01_WireIntRoundTrip.f (k : Nat) (a0 : Int) (l1 : List Int) : Option Bool :=
  if (l1.length : Int) > 2000 then weirgatelaw01_sanity.f k else (wire_Int.f k a0).bind fun b => if b.length < 140737488350000 then ((wire_GetInt.f k (b ++ l1)).bind fun t => (weirgatelaw01_sanity.f k).bind fun s => if s = true ∧ t.1 = a0 ∧ t.2.1 = (b.length : Int) ∧ t.2.2 = 0 ∧ 1 ≤ t.2.1 ∧ t.2.1 ≤ 10 then some true else none) else none
theorem weirgatelaw01_WireIntRoundTrip.mono : ∀ a0 l1 k, LeO (weirgatelaw01_WireIntRoundTrip.f k a0 l1) (weirgatelaw01_WireIntRoundTrip.f (k + 1) a0 l1) := fun a0 l1 k => LeO.ite (weirgatelaw01_sanity.mono _) (LeO.bind (wire_Int.mono _ _) fun _ => LeO.ite (LeO.bind (wire_GetInt.mono _ _) fun _ => LeO.bind (weirgatelaw01_sanity.mono _) fun _ => LeO.refl _) (LeO.refl _))
set_option maxHeartbeats 8000000 in
set_option maxRecDepth 100000 in
theorem weirgatelaw01_WireIntRoundTrip.calls (k : Nat) (a0 : Int) (A1 : Option Addr) (c1 : Nat) (l1 : List Int) (r : Bool) (w : World) (hr1 : Kd.C (Kd.int .u8) w A1 l1.length l1) (hc1 : l1.length ≤ c1) (h : weirgatelaw01_WireIntRoundTrip.f k a0 l1 = some r) :
    Calls Try.prog 6 #[.int .i64 a0, .slice A1 l1.length c1] w fun e w' => e = .returned (.bool r) ∧ Below w.heap.size w w' := by
  have HR1 := Aside0.mk hr1
  have HC1 := Aside0.mk hc1
  clear hr1 hc1
  have HB := Aside0.mk (Below.refl w.heap.size w)
  unfold weirgatelaw01_WireIntRoundTrip.f at h
  by_cases c1 : (l1.length : Int) > 2000
  · rw [if_pos c1] at h
    have c1b : decide (2000 < (l1.length : Int)) = true := decide_eq_true c1
    have A1 := Aside0.mk h
    clear h c1
    go_enter Try.func6, Try.ntmps6
    go_wp2_with (first | (go_at_call 12; (refine (weirgatelaw01_sanity.calls k r _ A1.out).mono ?_); rintro e w3 ⟨rfl, hb⟩; have n1_ := Aside0.mk (below_step (bk HB.out) hb); clear HB; have HB := n1_; clear n1_ hb))
    go_ret
    exact ⟨rfl, bk HB.out⟩
  · rw [if_neg c1] at h
    have c1b : decide (2000 < (l1.length : Int)) = false := decide_eq_false c1
    obtain ⟨b, A20, h⟩ := Option.bind_eq_some_iff.mp h
    have A2 := Aside0.mk A20
    clear A20
    by_cases cb : b.length < 140737488350000
    · rw [if_pos cb] at h
      obtain ⟨⟨m, used, e⟩, A30, h⟩ := Option.bind_eq_some_iff.mp h
      have A3 := Aside0.mk A30
      clear A30
      obtain ⟨s, A40, h⟩ := Option.bind_eq_some_iff.mp h
      have A4 := Aside0.mk A40
      clear A40
      replace h : (if s = true ∧ m = a0 ∧ used = (b.length : Int) ∧ e = 0 ∧ 1 ≤ used ∧ used ≤ 10 then some true else none) = some r := h
      by_cases ct : s = true ∧ m = a0 ∧ used = (b.length : Int) ∧ e = 0 ∧ 1 ≤ used ∧ used ≤ 10
      · rw [if_pos ct] at h
        obtain rfl := Option.some.inj h
        obtain ⟨rfl, rfl, rfl, rfl, u1, u2⟩ := ct
        have LM := Aside0.mk (show b.length + l1.length ≤ 140737488355328 by omega)
        have u1b : decide (1 ≤ (b.length : Int)) = true := decide_eq_true u1
        have u2b : decide ((b.length : Int) ≤ 10) = true := decide_eq_true u2
        clear c1 cb h u1 u2
        go_enter Try.func6, Try.ntmps6
        go_wp2_with (first | (go_at_call 14; (refine (wire_Int.calls k m b _ A2.out).mono ?_); rintro e w3 ⟨v, rfl, ho, hb⟩; have HO := Aside0.mk (Kd.R_lower ho (below_size (bk HB.out))); have n1_ := Aside0.mk (below_step (bk HB.out) hb); clear HB; have HB := n1_; clear n1_ hb ho; obtain ⟨Ao, co, eo⟩ := Kd.R_slice HO.out; subst eo; have hle := (Kd.R_reads' HO.out).2.1) | ((with_reducible refine gate_builtin (b := .append) (xs := #[.tmp 21, .tmp 22]) rfl ?_); at_builtin; refine append_full rfl (.tmp 21) (.tmp 22) rfl b l1 rfl rfl ?cA ?cB LM.out ?_; (case cA => repeat (first | exact (Kd.R_reads' HO.out).2.2 | (with_reducible refine Kd.C_alloc ?_ _) | (with_reducible refine Kd.C_drewN ?_ _) | (with_reducible refine Kd.C_drew ?_))); (case cB => repeat (first | exact (Kd.C_below HR1.out (bk HB.out)) | (with_reducible refine Kd.C_alloc ?_ _) | (with_reducible refine Kd.C_drewN ?_ _) | (with_reducible refine Kd.C_drew ?_))); intro A9 c9 w9 hc9 hl9 hb; have C9 := Aside0.mk hc9; have L9 := Aside0.mk hl9; have n0_ := Aside0.mk (Kd.R_below (rk HO.out) hb); have n1_ := Aside0.mk (below_step (bk HB.out) hb); clear HB HO; have HB := n1_; have HO := n0_; clear n1_ n0_ hb hc9 hl9) | (go_at_call 24; (refine calls_of_args (args' := #[.slice A9 (b ++ l1).length c9]) (by first | rfl | simp) ?_); (refine (wire_GetInt.calls k _ _ (b ++ l1) m (b.length : Int) 0 _ ?side1 ?side2 A3.out).mono ?_); (case side1 => repeat (first | exact C9.out | (with_reducible refine Kd.C_alloc ?_ _) | (with_reducible refine Kd.C_drewN ?_ _) | (with_reducible refine Kd.C_drew ?_))); (case side2 => exact L9.out); rintro e w5 ⟨rfl, ⟨nd, rfl⟩⟩) | (go_at_call 12; (refine (weirgatelaw01_sanity.calls k true _ A4.out).mono ?_); rintro e w6 ⟨rfl, hb⟩; have n1_ := Aside0.mk (below_step (bk HB.out) hb); clear HB; have HB := n1_; clear n1_ hb))
        go_ret
        exact ⟨by first | rfl | simp, bk HB.out⟩
      · rw [if_neg ct] at h
        cases h
    · rw [if_neg cb] at h
      cases h
end Go.Proofs.Ytekbhcciabgnhaa.PP
