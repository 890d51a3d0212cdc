/- The statement WireLengths over numbers and lists alone. -/
import Derived.Test.YtekbhcciabgnhaaPP0
import Derived.Test.YtekbhcciabgnhaaPP12
import Derived.Test.YtekbhcciabgnhaaPureWS
import Derived.Laws.Strings
set_option linter.unusedVariables false
namespace Go.Proofs.Ytekbhcciabgnhaa.Pure
open Go.RowKit Go.Proofs.Ytekbhcciabgnhaa.PP Go.Proofs.Ytekbhcciabgnhaa.PureW Go.Proofs.YtekbhcciabgnhaaW.PrintWords Go.Proofs.YtekbhcciabgnhaaW.PrintLast Go.Proofs.YtekbhcciabgnhaaW.PrintMore
theorem zz_half (n : Int) : ((zz n / 2 : Nat) : Int) = mx n (-1 - n) := by unfold zz mx; split <;> split <;> omega
theorem strOfNums_inj {a b : List Int} (ha : Bts a) (hb : Bts b) (h : (strOfNums a).toList = (strOfNums b).toList) : a = b := by
  have e : strOfNums a = strOfNums b := by
    rw [ByteArray.toList_eq, ByteArray.toList_eq] at h
    have := Array.toList_inj.1 h
    cases hx : strOfNums a with | mk u => cases hy : strOfNums b with | mk v => rw [hx, hy] at this; exact congrArg ByteArray.mk this
  rw [← bytes_str ha, ← bytes_str hb, e]
theorem WireLengths (x0 : Int) (x1 : Int) (g0 : (Lit.int .i64 x0).wf = true) (g1 : (Lit.int .i64 x1).wf = true) : ∃ k, weirgatelaw01_WireLengths.f k x0 x1 = some true := by
  have w0 := wf_i64 g0
  have w1 := wf_i64 g1
  have w0' := w0
  have w1' := w1
  unfold W64 at w0' w1'
  obtain ⟨m, hm⟩ : ∃ m : Nat, 100 ≤ m := ⟨100, by omega⟩
  refine ⟨m + 1, ?_⟩
  unfold weirgatelaw01_WireLengths.f
  rw [int_eq w0 (by omega)]
  simp only [Option.bind_some]
  rw [int_eq w1 (by omega)]
  simp only [Option.bind_some]
  have p0 := VI_pos x0
  have p1 := VI_pos x1
  have q0 := VI_le w0
  have q1 := VI_le w1
  have hc : (VI (-1 - x0)).length = (VI x0).length := by
    have e : zz (-1 - x0) / 2 = zz x0 / 2 := by unfold zz; split <;> split <;> omega
    have a := len_mono (zz (-1 - x0)) (zz x0) (by omega)
    have b := len_mono (zz x0) (zz (-1 - x0)) (by omega)
    unfold VI
    omega
  have z0 := zz_half x0
  have z1 := zz_half x1
  have o1 := len_one (zz x0)
  have m1 : mx x0 (-1 - x0) ≤ mx x1 (-1 - x1) → (VI x0).length ≤ (VI x1).length := fun h => len_mono _ _ (by omega)
  have m2 : mx x1 (-1 - x1) ≤ mx x0 (-1 - x0) → (VI x1).length ≤ (VI x0).length := fun h => len_mono _ _ (by omega)
  have hmn : mn ((VI x0).length : Int) ((VI x1).length : Int) = ((min (VI x0).length (VI x1).length : Nat) : Int) := by unfold mn; split <;> omega
  have hj : weirgatelaw01_WireLengths.j0 (m + 1) x0 x1 (VI x0) (VI x1) false = some true := by
    simp only [weirgatelaw01_WireLengths.j0]
    rw [if_neg (by decide), sanity_at (by omega)]
    simp only [Option.bind_some]
    rw [if_pos trivial, wrap64_id (by omega) (by omega), int_eq (n := -1 - x0) ⟨by omega, by omega⟩ (by omega)]
    simp only [Option.bind_some]
    rw [if_pos (by omega), hmn, if_pos (by omega), if_pos (by omega), if_pos (by omega), Int.toNat_natCast]
    congr 1
    rw [beq_iff_eq, Bool.eq_iff_iff, beq_iff_eq, beq_iff_eq]
    constructor
    · intro h
      have h' := strOfNums_inj (Bts_take (VI_byte x0) _) (Bts_take (VI_byte x1) _) h
      by_cases hle : (VI x0).length ≤ (VI x1).length
      · rw [Nat.min_eq_left hle, List.take_of_length_le (Nat.le_refl _)] at h'
        exact VI_prefix w0 w1 (VI x0).length (Nat.le_refl _) h'.symm
      · rw [Nat.min_eq_right (by omega), List.take_of_length_le (Nat.le_refl (VI x1).length)] at h'
        exact (VI_prefix w1 w0 (VI x1).length (Nat.le_refl _) h').symm
    · rintro rfl
      rfl
  have hb0 : (((VI x0).length : Int) == 1) = decide (mx x0 (-1 - x0) < 64) := by
    rw [Bool.eq_iff_iff, beq_iff_eq, decide_eq_true_iff]
    unfold VI
    omega
  have hb1 : (((VI x1).length : Int) == 0) = false := by
    rw [beq_eq_false_iff_ne]
    omega
  rw [wrap64_id (a := -1 - x0) (by omega) (by omega), wrap64_id (a := -1 - x1) (by omega) (by omega), hb0, bne_self_eq_false, hb1, if_neg (show ¬ false = true by decide), if_neg (show ¬ ((VI x0).length : Int) > 10 by omega), if_neg (show ¬ ((VI x0).length : Int) = 0 by omega), hj]
  by_cases c1 : mx x0 (-1 - x0) ≤ mx x1 (-1 - x1)
  · have := m1 c1
    rw [if_pos c1, if_neg (by omega)]
    by_cases c2 : mx x1 (-1 - x1) ≤ mx x0 (-1 - x0)
    · have := m2 c2
      rw [if_pos c2, if_neg (by omega)]
    · rw [if_neg c2]
  · rw [if_neg c1]
    by_cases c2 : mx x1 (-1 - x1) ≤ mx x0 (-1 - x0)
    · have := m2 c2
      rw [if_pos c2, if_neg (by omega)]
    · rw [if_neg c2]
end Go.Proofs.Ytekbhcciabgnhaa.Pure
