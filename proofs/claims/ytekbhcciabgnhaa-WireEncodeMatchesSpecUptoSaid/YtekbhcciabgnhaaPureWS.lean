import Derived.Test.YtekbhcciabgnhaaPP0
import Derived.Test.YtekbhcciabgnhaaPP1
import Derived.Test.YtekbhcciabgnhaaPP13
import Derived.Test.YtekbhcciabgnhaaPP3
import Derived.Test.YtekbhcciabgnhaaPP4
import Derived.Test.YtekbhcciabgnhaaPP6
import Derived.Test.YtekbhcciabgnhaaPureWL
import Derived.Test.YtekbhcciabgnhaaGSame
set_option linter.unusedVariables false
namespace Go.Proofs.Ytekbhcciabgnhaa.PureW
open Go.RowKit Go.Proofs.Ytekbhcciabgnhaa.PP Go.Proofs.YtekbhcciabgnhaaW.PrintWords Go.Proofs.YtekbhcciabgnhaaW.PrintLast Go.Proofs.YtekbhcciabgnhaaW.PrintMore

theorem up {α : Type} {f : Nat → Option α} (h : ∀ k, LeO (f k) (f (k + 1))) {n : Nat} {r : α} (h0 : f n = some r) : ∀ d, f (n + d) = some r
  | 0 => h0
  | d + 1 => h (n + d) r (up h h0 d)
theorem sanity_true : weirgatelaw01_sanity.f 60 = some true := by kernel_rfl
theorem sanity_at {k : Nat} (h : 60 ≤ k) : weirgatelaw01_sanity.f k = some true := by
  have := up (fun k => weirgatelaw01_sanity.mono k) sanity_true (k - 60)
  rwa [show 60 + (k - 60) = k by omega] at this
theorem wf_u8 {y : Int} (h : (Lit.int .u8 y).wf = true) : 0 ≤ y ∧ y < 256 := by
  simp [Lit.wf, IntKind.min, IntKind.max, IntKind.signed, IntKind.bits] at h
  omega
theorem wf_i64 {y : Int} (h : (Lit.int .i64 y).wf = true) : W64 y := by
  simp [Lit.wf, IntKind.min, IntKind.max, IntKind.signed, IntKind.bits] at h
  unfold W64
  omega
theorem same_refl (a : List Int) : weirgateref01_Same.f a a = some true := by
  unfold weirgateref01_Same.f
  rw [beq_self_eq_true]
theorem sameDigests_refl (a : List S57) : weirgateref01_SameDigests.f a a = some true := by
  unfold weirgateref01_SameDigests.f
  rw [beq_self_eq_true]
theorem sameInts_l0 (a : List Int) (hl : a.length ≤ 140737488355328) : ∀ (r i k : Nat), i + r = a.length → r + 1 ≤ k → weirgateref01_SameInts.l0 k a a (i : Int) = some true := by
  intro r
  induction r with
  | zero =>
    intro i k h1 hk
    obtain ⟨k, rfl⟩ : ∃ m, k = m + 1 := ⟨k - 1, by omega⟩
    simp only [weirgateref01_SameInts.l0]
    rw [if_neg (by omega)]
  | succ r ih =>
    intro i k h1 hk
    obtain ⟨k, rfl⟩ : ∃ m, k = m + 1 := ⟨k - 1, by omega⟩
    simp only [weirgateref01_SameInts.l0]
    rw [if_pos (by omega), if_pos (by omega), if_pos (by omega), if_pos trivial, show ((i : Int) + 1) = ((i + 1 : Nat) : Int) by omega, wrap64_id (by omega) (by omega), ih (i + 1) k (by omega) (by omega)]
theorem sameInts_refl {a : List Int} (hl : a.length ≤ 140737488355328) {k : Nat} (hk : a.length + 1 ≤ k) : weirgateref01_SameInts.f k a a = some true := by
  unfold weirgateref01_SameInts.f
  rw [if_pos rfl]
  exact sameInts_l0 a hl a.length 0 k (by omega) hk
theorem sameTexts_l0 (a : List ByteArray) (hl : a.length ≤ 140737488355328) : ∀ (r i k : Nat), i + r = a.length → r + 1 ≤ k → weirgateref01_SameTexts.l0 k a a (i : Int) = some true := by
  intro r
  induction r with
  | zero =>
    intro i k h1 hk
    obtain ⟨k, rfl⟩ : ∃ m, k = m + 1 := ⟨k - 1, by omega⟩
    simp only [weirgateref01_SameTexts.l0]
    rw [if_neg (by omega)]
  | succ r ih =>
    intro i k h1 hk
    obtain ⟨k, rfl⟩ : ∃ m, k = m + 1 := ⟨k - 1, by omega⟩
    simp only [weirgateref01_SameTexts.l0]
    rw [if_pos (by omega), if_pos (by omega), if_pos (by omega), if_pos trivial, show ((i : Int) + 1) = ((i + 1 : Nat) : Int) by omega, wrap64_id (by omega) (by omega), ih (i + 1) k (by omega) (by omega)]
theorem sameTexts_refl {a : List ByteArray} (hl : a.length ≤ 140737488355328) {k : Nat} (hk : a.length + 1 ≤ k) : weirgateref01_SameTexts.f k a a = some true := by
  unfold weirgateref01_SameTexts.f
  rw [if_pos rfl]
  exact sameTexts_l0 a hl a.length 0 k (by omega) hk
theorem consumed_err (l c : List Int) (a : Int) {e : Int} (h : e ≠ 0) : weirgatelaw01_consumed.f l c a e = some true := by
  unfold weirgatelaw01_consumed.f
  rw [if_neg h]
theorem consumed_ok {l c : List Int} {u : Nat} (hu : u ≤ l.length) (hc : c = l.take u) : weirgatelaw01_consumed.f l c (u : Int) 0 = some true := by
  unfold weirgatelaw01_consumed.f
  have e1 : mx 0 (mn (u : Int) (l.length : Int)) = (u : Int) := by unfold mx mn; split <;> split <;> omega
  rw [if_pos rfl, if_pos (by omega), if_pos (by omega), e1, if_pos (by omega), if_pos (by omega), Int.toNat_natCast, hc, same_refl]
  rfl
/-- How many bytes the texts hold. -/
def tot (l : List ByteArray) : Nat := (l.map ByteArray.size).sum
theorem tot_cons (x : ByteArray) (r : List ByteArray) : tot (x :: r) = x.size + tot r := by simp [tot]
theorem few_l0 (l : List ByteArray) (hl : l.length ≤ 140737488355328) : ∀ (r i k acc : Nat), i + r = l.length → r + 1 ≤ k → acc + tot (l.drop i) ≤ 9223372036854775807 → weirgatelaw01_few.l0 k (acc : Int) l (l.length : Int) (i : Int) = some (decide (((acc + tot (l.drop i) : Nat) : Int) ≤ 2000)) := by
  intro r
  induction r with
  | zero =>
    intro i k acc h1 hk h2
    obtain ⟨k, rfl⟩ : ∃ m, k = m + 1 := ⟨k - 1, by omega⟩
    simp only [weirgatelaw01_few.l0]
    rw [if_neg (by omega), List.drop_of_length_le (by omega)]
    simp [tot]
  | succ r ih =>
    intro i k acc h1 hk h2
    obtain ⟨k, rfl⟩ : ∃ m, k = m + 1 := ⟨k - 1, by omega⟩
    have hil : i < l.length := by omega
    have hd : tot (l.drop i) = (l[i]).size + tot (l.drop (i + 1)) := by rw [drop_at hil, tot_cons]
    simp only [weirgatelaw01_few.l0]
    rw [if_pos (by omega), if_pos (by omega), if_pos (by omega), rdOf_at hil, show ((acc : Int) + ((l[i]).size : Int)) = ((acc + (l[i]).size : Nat) : Int) by omega, wrap64_id (a := ((acc + (l[i]).size : Nat) : Int)) (by omega) (by omega), show ((i : Int) + 1) = ((i + 1 : Nat) : Int) by omega, wrap64_id (by omega) (by omega), ih (i + 1) k _ (by omega) (by omega) (by omega), hd, Nat.add_assoc]
theorem few_eq {l : List ByteArray} (hl : l.length ≤ 140737488355328) (ht : tot l ≤ 9223231299366420479) {k : Nat} (hk : l.length + 1 ≤ k) : weirgatelaw01_few.f k l = some (decide (l.length + tot l ≤ 2000)) := by
  unfold weirgatelaw01_few.f
  have := few_l0 l hl l.length 0 k l.length (by omega) hk (by rw [List.drop_zero]; omega)
  rw [show (((0 : Nat) : Int)) = 0 from rfl, List.drop_zero] at this
  rw [this]
  congr 1
  exact decide_eq_decide.2 (by omega)
theorem tot_le {l : List ByteArray} {b : Nat} (h : ∀ x ∈ l, x.size ≤ b) : tot l ≤ l.length * b := by
  induction l with
  | nil => simp [tot]
  | cons x r ih =>
    have h1 := h x (by simp)
    have h2 := ih fun y hy => h y (by simp [hy])
    rw [tot_cons, List.length_cons, Nat.add_mul]
    omega
theorem EB_len {s : ByteArray} (h : s.size ≤ 9223372036854775807) : (EB s).length ≤ 10 + s.size := by
  have := VI_le (W64_len h)
  unfold EB
  rw [List.length_append, bytesOf_length]
  omega
theorem flat_EB {l : List ByteArray} (h : ∀ x ∈ l, x.size ≤ 9223372036854775807) : (l.flatMap EB).length ≤ 10 * l.length + tot l := by
  induction l with
  | nil => simp [tot]
  | cons x r ih =>
    have h1 := EB_len (h x (by simp))
    have h2 := ih fun y hy => h y (by simp [hy])
    rw [tot_cons, List.flatMap_cons, List.length_append, List.length_cons]
    omega
theorem flat_VI {l : List Int} (h : ∀ x ∈ l, W64 x) : (l.flatMap VI).length ≤ 10 * l.length := by
  induction l with
  | nil => simp
  | cons x r ih =>
    have h1 := VI_le (h x (by simp))
    have h2 := ih fun y hy => h y (by simp [hy])
    rw [List.flatMap_cons, List.length_append, List.length_cons]
    omega
theorem EL_len {α : Type} {E : α → List Int} {xs : List α} (h : xs.length ≤ 9223372036854775807) : (EL E xs).length ≤ 10 + (xs.flatMap E).length ∧ (xs.flatMap E).length ≤ (EL E xs).length := by
  have := VI_le (W64_len h)
  unfold EL
  rw [List.length_append]
  omega
end Go.Proofs.Ytekbhcciabgnhaa.PureW
