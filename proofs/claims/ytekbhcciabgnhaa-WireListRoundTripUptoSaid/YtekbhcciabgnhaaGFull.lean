import Derived.Test.YtekbhcciabgnhaaPP0
import Derived.Test.YtekbhcciabgnhaaGDigest
import Derived.ArgAppend
import Derived.Shelf.Abstract
import Derived.WalkKit
namespace Go.Proofs.Ytekbhcciabgnhaa.PP
open Go.RowKit Go.Proofs.YtekbhcciabgnhaaW.PrintWords Go.Proofs.YtekbhcciabgnhaaW.PrintLast Go.Proofs.YtekbhcciabgnhaaW.PrintMore
set_option linter.unusedVariables false
theorem inner_u8 {w : World} {A : Option Addr} {n : Nat} {xs : List Int} (h : Kd.C (Kd.int .u8) w A n xs) : ∀ ad, A = some ad → ∀ j u, (nums .u8 xs)[j]? = some u → w.cell? (ad.add j) = some u := by
  intro ad hA j u hj
  have hl : j < xs.length := by
    have := (List.getElem?_eq_some_iff.1 hj).1
    simpa [nums] using this
  have hn : xs.length = n := h.1
  obtain ⟨ad', e, hc⟩ := Kd.at_int h (j : Int) (Int.natCast_nonneg _) (by omega)
  rw [hA] at e
  cases e
  simp only [Int.toNat_natCast] at hc
  rw [hc]
  simp [nums, List.getElem?_eq_getElem hl] at hj
  rw [← hj]
  simp [rd, List.getD, List.getElem?_eq_getElem hl]
/-- What is appended to a full slice (its capacity its length) lies in new memory, or nothing was appended. -/
theorem append_full {ops : Array Oper} {rest : List Oper} {o : Oper} {a : Act} {Q : Exit → Act → World → Prop} {W : World} (hgd : o.guard = none) (s x : Operand)
    (ho : o.op = .call { callee := .builtin .append, args := #[s, x], argTypes := #[28, 28] }) {A B : Option Addr} {c : Nat} (xs ys : List Int) (hs : a.eval s = .slice A xs.length xs.length) (hx : a.eval x = .slice B ys.length c)
    (hA : Kd.C (Kd.int .u8) W A xs.length xs) (hB : Kd.C (Kd.int .u8) W B ys.length ys) (hl : xs.length + ys.length ≤ 140737488355328)
    (h : ∀ A1 c1 w1, Kd.C (Kd.int .u8) w1 A1 (xs ++ ys).length (xs ++ ys) → (xs ++ ys).length ≤ c1 → Below W.heap.size W w1 → wpList Try.prog ops Q rest (a.put o.dst (.slice A1 (xs ++ ys).length c1)) w1) :
    wpList Try.prog ops Q (o :: rest) a W := by
  obtain ⟨i, hi, hz, hsz, hby⟩ := info_parts info5
  have hm : ys.length ≤ 9223372036854775807 := Kd.C_max hB
  cases hys : ys with
  | nil =>
    subst hys
    have hrun : (Builtin.append_ #[28, 28] o.type #[.slice A xs.length xs.length, .slice B 0 c]).run Try.prog W = .ok (.slice A xs.length xs.length) W := by
      cases A with
      | none =>
        have hx0 : xs = [] := by
          cases xs with
          | nil => rfl
          | cons y r =>
            obtain ⟨ad, e, _⟩ := Kd.at_int hA 0 (Int.le_refl _) (by simp only [List.length_cons]; omega)
            cases e
        subst hx0
        cases B <;> simp [Builtin.append_, run_underlying Try.underlying28, sizeOf, typeInfo, hi, Builtin.lenOf, Builtin.firstCells, loadCells, loadCellsFrom]
      | some ad => cases B <;> simp [Builtin.append_, run_underlying Try.underlying28, sizeOf, typeInfo, hi, Builtin.lenOf, Builtin.firstCells, storeCells, loadCells, loadCellsFrom]
    refine wpList_plain hgd fun K hK => ?_
    unfold Oper.wp execOp
    simp only [ho, resolve, invoke, builtin, Sem.run_bind, Sem.run_pure, Result.andThen_ok, List.map_toArray, List.map_cons, List.map_nil, hs, hx, List.length_nil, hrun]
    have := h A xs.length W (by simpa using hA) (by simp) (Below.refl _ _)
    simp only [List.append_nil] at this
    exact hK _ _ this
  | cons y r =>
    have hpos : 0 < ys.length := by rw [hys]; simp
    clear hys
    obtain ⟨ad, e, _⟩ := Kd.at_int hB 0 (Int.le_refl _) (by omega)
    cases e
    have hn5 : ∀ zs : List Int, (nums .u8 zs).length = zs.length * 1 := fun zs => by simp [nums]
    refine wpList_append_grows (P := Try.prog) W hgd s x 28 ho 5 i (.int .u8 0) 1 1 Try.underlying28 hi hz hsz hby rfl (by decide) A xs.length xs.length (nums .u8 xs) hs ?_ (hn5 xs) (inner_u8 hA) ad ys.length c (nums .u8 ys) hx (hn5 ys) (inner_u8 hB ad rfl) ?_ (by omega) (by unfold maxLen; omega) (by omega) ?_
    · rintro rfl
      have hx0 : xs = [] := by
        cases xs with
        | nil => rfl
        | cons y r =>
          obtain ⟨ad, e, _⟩ := Kd.at_int hA 0 (Int.le_refl _) (by simp only [List.length_cons]; omega)
          cases e
      subst hx0
      exact ⟨rfl, rfl⟩
    · intro u hu
      obtain ⟨q, _, rfl⟩ := List.mem_map.1 hu
      rfl
    · intro v' w' hown hg
      rw [← nums_append, ← List.length_append] at hown
      obtain ⟨A1, c1, rfl, hle, hrd⟩ := own_reads_of_le (enc := Value.int .u8) (d := (0 : Int)) (xs := xs ++ ys) hown
      exact h A1 c1 w' (Kd.C_of_reads (h1 := fun _ => rfl) hrd) hle ⟨hg.os, hg.tape, hg.output, hg.size, fun k hk => hg.block k hk (by simp)⟩
end Go.Proofs.Ytekbhcciabgnhaa.PP
