import Derived.Test.YtekbhcciabgnhaaPP0
import Derived.Shelf.Abstract
import Derived.Lib.SliceRun
import Derived.Laws.Cover3
import Derived.Shelf.RegionOpen
import Derived.WalkKit
import Derived.OwnWalkIn
import Derived.TacticsInMore
import Derived.LoopNIn
namespace Go.Proofs.Ytekbhcciabgnhaa.PP
open Go.RowKit Go.Proofs.YtekbhcciabgnhaaW.PrintWords Go.Proofs.YtekbhcciabgnhaaW.PrintLast Go.Proofs.YtekbhcciabgnhaaW.PrintMore
set_option linter.unusedVariables false
attribute [local go_sem] isSome_put
/-- The bytes of a digest. -/
def dl (x : S57) : List Int := [x.f0, x.f1, x.f2, x.f3, x.f4, x.f5, x.f6, x.f7, x.f8, x.f9, x.f10, x.f11, x.f12, x.f13, x.f14, x.f15]
/-- The digest of 16 bytes from a place on. -/
def dAt (l : List Int) (i : Int) : S57 := ⟨rd l i, rd l (i + 1), rd l (i + 2), rd l (i + 3), rd l (i + 4), rd l (i + 5), rd l (i + 6), rd l (i + 7), rd l (i + 8), rd l (i + 9), rd l (i + 10), rd l (i + 11), rd l (i + 12), rd l (i + 13), rd l (i + 14), rd l (i + 15)⟩
def wire_digest.f (a0_0 a0_1 a0_2 a0_3 a0_4 a0_5 a0_6 a0_7 a0_8 a0_9 a0_10 a0_11 a0_12 a0_13 a0_14 a0_15 : Int) : Option (List Int) := some [a0_0, a0_1, a0_2, a0_3, a0_4, a0_5, a0_6, a0_7, a0_8, a0_9, a0_10, a0_11, a0_12, a0_13, a0_14, a0_15]
def wire_getDigest.f (l0 : List Int) : Option (Int × Int × Int × Int × Int × Int × Int × Int × Int × Int × Int × Int × Int × Int × Int × Int × Int × Int) := if 16 ≤ (l0.length : Int) then some (rd l0 0, rd l0 1, rd l0 2, rd l0 3, rd l0 4, rd l0 5, rd l0 6, rd l0 7, rd l0 8, rd l0 9, rd l0 10, rd l0 11, rd l0 12, rd l0 13, rd l0 14, rd l0 15, 16, 0) else none

theorem eqnil (w : World) (a : Option Addr) (n c n' c' : Nat) : (binOp .eql 28 (.slice a n c) (.slice none n' c')).run Try.prog w = .ok (.bool a.isNone) w := Lib.run_eql_slice_nil w _ _ a n c n' c' Try.underlying28
theorem blk_set1 {w : World} {g : Nat} {t : TypeId} {cs : Array Value} (h : w.heap[g]? = some (.cells cs t (0, 0))) (i : Nat) (u : Value) {cs' : Array Value} (e : cs.setIfInBounds i u = cs') : (w.setCell ⟨g, i, none⟩ u).heap[g]? = some (.cells cs' t (0, 0)) := by rw [blk_set h, e]
theorem add_nil (ad : Addr) : ad.add 0 = ad := by unfold Addr.add; simp
theorem add_pos (ad : Addr) {j : Nat} (h : 0 < j) : ad.add j = ⟨ad.block, ad.off + j, none⟩ := by have h1 := add_field ad 0 j h; rw [Nat.zero_add, add_nil] at h1; exact h1
theorem cell_below1 {W W1 : World} (hb : Below W.heap.size W W1) {a : Addr} {v : Value} (h : W.cell? a = some v) : W1.cell? a = some v := (hb.cell (World.block_lt_of_cell? W a h)).trans h
theorem C_cells {W : World} {g t : Nat} (xs : List Int) (h : W.heap[g]? = some (.cells (nums .u8 xs).toArray t (0, 0))) (hm : xs.length ≤ 9223372036854775807) : Kd.C (Kd.int .u8) W (some ⟨g, 0, none⟩) xs.length xs := by
  refine Kd.C_of_reads (h1 := fun _ => rfl) (d := (0 : Int)) ⟨rfl, hm, fun _ => ⟨_, rfl, fun j hj => ?_⟩⟩
  rw [add_plain]
  refine (blk_cell h j).trans ?_
  simp [nums, List.getElem?_eq_getElem hj]
set_option maxHeartbeats 8000000 in
set_option maxRecDepth 100000 in
/-- slices.Clone of bytes. -/
theorem clone_calls (A0 : Option Addr) (c0 : Nat) (l0 : List Int) (w : World) (hr0 : Kd.C (Kd.int .u8) w A0 l0.length l0) (hc0 : l0.length ≤ c0) (hl : l0.length < 140737488355328) :
    Calls Try.prog 48 #[.slice A0 l0.length c0] w fun e w' => ∃ v0_ : Value, e = .returned (v0_) ∧ Kd.R (Kd.int .u8) 5 w' w.heap.size (fun _ => True) v0_ l0 ∧ Below w.heap.size w w' := by
  have HR0 := Aside0.mk hr0
  have HC0 := Aside0.mk hc0
  have LM := Aside0.mk hl
  clear hr0 hc0 hl
  have HB := Aside0.mk (Below.refl w.heap.size w)
  cases A0 with
  | none =>
    obtain rfl : l0 = [] := by
      cases l0 with
      | nil => rfl
      | cons x r =>
        obtain ⟨ad, h, _⟩ := Kd.at_int HR0.out 0 (Int.le_refl _) (by simp only [List.length_cons]; omega)
        cases h
    have q28 := eqnil
    go_enter Try.func48, Try.ntmps48
    go_wp2
    go_ret
    exact ⟨_, rfl, Kd.R_nil _ _ _ _ _, bk HB.out⟩
  | some a =>
    have q28 := eqnil
    go_enter Try.func48, Try.ntmps48
    go_wp2_with (first | ((with_reducible refine gate_dst (N := 5) rfl ?_); refine Kd.R_lit (Kd.int .u8) _ 5 ?hg (N := 5) ?hd (xs := ([] : List Int)) (inner := []) (ok := fun _ => True) (okp := fun _ => True) ?hr ?hp (fun _ hk => hk) trivial (Below.refl _ _) (Nat.le_refl _) (by simp) ?_; (case hd => rfl); (case hg => rfl); (case hr => first | (go_simp; done) | (go_simp; rfl)); (case hp => exact (Reps.none _ _)); intro v297 w94 ho95 hb hg_ hnew_; clear hg_ hnew_; have n3_ := Aside0.mk (Kd.R_lower ho95 (below_size (bk HB.out))); have n5_ := Aside0.mk (below_step (bk HB.out) hb); clear HB; have HO := n3_; have HB := n5_; clear n3_ n5_; clear hb ho95) | ((with_reducible refine gate_builtin (b := .append) (xs := #[.tmp 5, .tmp 6]) rfl ?_); at_builtin; refine Kd.R_append_rows (Kd.int .u8) (w0 := w) w.heap.size rfl (.tmp 5) (.tmp 6) 28 5 (.int .u8 0) 1 rfl Try.underlying28 info5 rfl (by decide) (by omega) _ [] l0 _ _ _ (fun _ => True) (fun _ => False) rfl rfl ?aO ?aR (fun _ _ h => h) (fun _ h => h.elim) ?aF ?aB ?aS ?aL ?_; (case aR => repeat (first | exact (Kd.C_below HR0.out (bk HB.out)) | (with_reducible refine Kd.C_alloc ?_ _) | (with_reducible refine Kd.C_drewN ?_ _) | (with_reducible refine Kd.C_drew ?_))); (case aB => exact (bk HB.out)); (case aF => exact (fun _ _ => trivial)); (case aO => exact (rk HO.out)); (case aS => exact (below_size (bk HB.out))); (case aL => have := LM.out; simp only [List.length_nil]; omega); intro v148 w9 ho hb hg hat; have n0_ := Aside0.mk ho; have n1_ := Aside0.mk hb; clear HB HO; have HB := n1_; have HO := n0_; clear n0_ n1_; clear ho hb hg hat))
    go_ret
    exact ⟨_, rfl, rk HO.out, bk HB.out⟩
set_option maxHeartbeats 8000000 in
set_option maxRecDepth 100000 in
theorem wire_digest.calls (a0_0 : Int) (a0_1 : Int) (a0_2 : Int) (a0_3 : Int) (a0_4 : Int) (a0_5 : Int) (a0_6 : Int) (a0_7 : Int) (a0_8 : Int) (a0_9 : Int) (a0_10 : Int) (a0_11 : Int) (a0_12 : Int) (a0_13 : Int) (a0_14 : Int) (a0_15 : Int) (r : List Int) (w : World) (h : wire_digest.f a0_0 a0_1 a0_2 a0_3 a0_4 a0_5 a0_6 a0_7 a0_8 a0_9 a0_10 a0_11 a0_12 a0_13 a0_14 a0_15 = some r) :
    Calls Try.prog 41 #[.agg #[.int .u8 a0_0, .int .u8 a0_1, .int .u8 a0_2, .int .u8 a0_3, .int .u8 a0_4, .int .u8 a0_5, .int .u8 a0_6, .int .u8 a0_7, .int .u8 a0_8, .int .u8 a0_9, .int .u8 a0_10, .int .u8 a0_11, .int .u8 a0_12, .int .u8 a0_13, .int .u8 a0_14, .int .u8 a0_15]] w fun e w' => ∃ v0_ : Value, e = .returned (v0_) ∧ Kd.R (Kd.int .u8) 5 w' w.heap.size (fun _ => True) v0_ r ∧ Below w.heap.size w w' := by
  obtain rfl := Option.some.inj h
  clear h
  have HB := Aside0.mk (Below.refl w.heap.size w)
  go_enter Try.func41, Try.ntmps41
  go_wp2_with (first | ((with_reducible refine gate_dst (N := 1) rfl ?_); refine box_event ?hg (N := 1) ?hd (cs := #[.int .u8 a0_0, .int .u8 a0_1, .int .u8 a0_2, .int .u8 a0_3, .int .u8 a0_4, .int .u8 a0_5, .int .u8 a0_6, .int .u8 a0_7, .int .u8 a0_8, .int .u8 a0_9, .int .u8 a0_10, .int .u8 a0_11, .int .u8 a0_12, .int .u8 a0_13, .int .u8 a0_14, .int .u8 a0_15]) (t := 57) ?hr ?_; (case hd => rfl); (case hg => rfl); (case hr => first | (go_simp; done) | (go_simp; rfl)); intro g hg w3 hbox hb; have BX := Aside0.mk hbox; have n1_ := Aside0.mk (below_step (bk HB.out) hb); clear HB; have HB := n1_; clear n1_ hbox hb hg) | (go_at_call 48; refine (clone_calls (some ⟨g, 0, none⟩) 16 [a0_0, a0_1, a0_2, a0_3, a0_4, a0_5, a0_6, a0_7, a0_8, a0_9, a0_10, a0_11, a0_12, a0_13, a0_14, a0_15] _ ?hc (by simp) (by simp)).mono ?_; (case hc => exact C_cells _ (pk BX.out) (by simp)); rintro e w4 ⟨v, rfl, ho, hb⟩; have HO := Aside0.mk (Kd.R_lower ho (below_size (bk HB.out))); have n1_ := Aside0.mk (below_step (bk HB.out) hb); clear HB; have HB := n1_; clear n1_ ho hb))
  go_ret
  exact ⟨_, rfl, rk HO.out, bk HB.out⟩
set_option maxHeartbeats 8000000 in
set_option maxRecDepth 100000 in
theorem wire_getDigest.calls (A0 : Option Addr) (c0 : Nat) (l0 : List Int) (r1 : Int) (r2 : Int) (r3 : Int) (r4 : Int) (r5 : Int) (r6 : Int) (r7 : Int) (r8 : Int) (r9 : Int) (r10 : Int) (r11 : Int) (r12 : Int) (r13 : Int) (r14 : Int) (r15 : Int) (r16 : Int) (r17 : Int) (r18 : Int) (w : World) (hr0 : Kd.C (Kd.int .u8) w A0 l0.length l0) (hc0 : l0.length ≤ c0) (h : wire_getDigest.f l0 = some (r1, r2, r3, r4, r5, r6, r7, r8, r9, r10, r11, r12, r13, r14, r15, r16, r17, r18)) :
    Calls Try.prog 47 #[.slice A0 l0.length c0] w fun e w' => e = .returned (.tuple #[.agg #[.int .u8 r1, .int .u8 r2, .int .u8 r3, .int .u8 r4, .int .u8 r5, .int .u8 r6, .int .u8 r7, .int .u8 r8, .int .u8 r9, .int .u8 r10, .int .u8 r11, .int .u8 r12, .int .u8 r13, .int .u8 r14, .int .u8 r15, .int .u8 r16], .int .i64 r17, .int .i64 r18]) ∧ Below w.heap.size w w' := by
  have HR0 := Aside0.mk hr0
  have HC0 := Aside0.mk hc0
  clear hr0 hc0
  have HB := Aside0.mk (Below.refl w.heap.size w)
  unfold wire_getDigest.f at h
  by_cases c1 : 16 ≤ (l0.length : Int)
  · rw [if_pos c1] at h
    have h := Option.some.inj h
    simp only [Prod.mk.injEq] at h
    obtain ⟨rfl, rfl, rfl, rfl, rfl, rfl, rfl, rfl, rfl, rfl, rfl, rfl, rfl, rfl, rfl, rfl, rfl, rfl⟩ := h
    obtain ⟨ad, e0, _⟩ := Kd.at_int HR0.out 0 (Int.le_refl _) (by omega)
    subst e0
    have hx : ∀ j : Nat, j < 16 → w.cell? (ad.add j) = some (.int .u8 (rd l0 j)) := fun j hj => by
      obtain ⟨ad2, e2, hc⟩ := Kd.at_int HR0.out (j : Int) (by omega) (by omega)
      cases e2
      simpa using hc
    have hx0 : w.cell? ad = some (.int .u8 (rd l0 0)) := by have h2_ := hx 0 (by omega); rw [add_nil ad] at h2_; exact h2_
    have hx1 : w.cell? ⟨ad.block, ad.off + 1, none⟩ = some (.int .u8 (rd l0 1)) := by have h1_ := add_field ad 0 1 (by omega); have h2_ := hx 1 (by omega); rw [add_pos ad (by omega)] at h2_; exact h2_
    have hx2 : w.cell? ⟨ad.block, ad.off + 2, none⟩ = some (.int .u8 (rd l0 2)) := by have h1_ := add_field ad 0 2 (by omega); have h2_ := hx 2 (by omega); rw [add_pos ad (by omega)] at h2_; exact h2_
    have hx3 : w.cell? ⟨ad.block, ad.off + 3, none⟩ = some (.int .u8 (rd l0 3)) := by have h1_ := add_field ad 0 3 (by omega); have h2_ := hx 3 (by omega); rw [add_pos ad (by omega)] at h2_; exact h2_
    have hx4 : w.cell? ⟨ad.block, ad.off + 4, none⟩ = some (.int .u8 (rd l0 4)) := by have h1_ := add_field ad 0 4 (by omega); have h2_ := hx 4 (by omega); rw [add_pos ad (by omega)] at h2_; exact h2_
    have hx5 : w.cell? ⟨ad.block, ad.off + 5, none⟩ = some (.int .u8 (rd l0 5)) := by have h1_ := add_field ad 0 5 (by omega); have h2_ := hx 5 (by omega); rw [add_pos ad (by omega)] at h2_; exact h2_
    have hx6 : w.cell? ⟨ad.block, ad.off + 6, none⟩ = some (.int .u8 (rd l0 6)) := by have h1_ := add_field ad 0 6 (by omega); have h2_ := hx 6 (by omega); rw [add_pos ad (by omega)] at h2_; exact h2_
    have hx7 : w.cell? ⟨ad.block, ad.off + 7, none⟩ = some (.int .u8 (rd l0 7)) := by have h1_ := add_field ad 0 7 (by omega); have h2_ := hx 7 (by omega); rw [add_pos ad (by omega)] at h2_; exact h2_
    have hx8 : w.cell? ⟨ad.block, ad.off + 8, none⟩ = some (.int .u8 (rd l0 8)) := by have h1_ := add_field ad 0 8 (by omega); have h2_ := hx 8 (by omega); rw [add_pos ad (by omega)] at h2_; exact h2_
    have hx9 : w.cell? ⟨ad.block, ad.off + 9, none⟩ = some (.int .u8 (rd l0 9)) := by have h1_ := add_field ad 0 9 (by omega); have h2_ := hx 9 (by omega); rw [add_pos ad (by omega)] at h2_; exact h2_
    have hx10 : w.cell? ⟨ad.block, ad.off + 10, none⟩ = some (.int .u8 (rd l0 10)) := by have h1_ := add_field ad 0 10 (by omega); have h2_ := hx 10 (by omega); rw [add_pos ad (by omega)] at h2_; exact h2_
    have hx11 : w.cell? ⟨ad.block, ad.off + 11, none⟩ = some (.int .u8 (rd l0 11)) := by have h1_ := add_field ad 0 11 (by omega); have h2_ := hx 11 (by omega); rw [add_pos ad (by omega)] at h2_; exact h2_
    have hx12 : w.cell? ⟨ad.block, ad.off + 12, none⟩ = some (.int .u8 (rd l0 12)) := by have h1_ := add_field ad 0 12 (by omega); have h2_ := hx 12 (by omega); rw [add_pos ad (by omega)] at h2_; exact h2_
    have hx13 : w.cell? ⟨ad.block, ad.off + 13, none⟩ = some (.int .u8 (rd l0 13)) := by have h1_ := add_field ad 0 13 (by omega); have h2_ := hx 13 (by omega); rw [add_pos ad (by omega)] at h2_; exact h2_
    have hx14 : w.cell? ⟨ad.block, ad.off + 14, none⟩ = some (.int .u8 (rd l0 14)) := by have h1_ := add_field ad 0 14 (by omega); have h2_ := hx 14 (by omega); rw [add_pos ad (by omega)] at h2_; exact h2_
    have hx15 : w.cell? ⟨ad.block, ad.off + 15, none⟩ = some (.int .u8 (rd l0 15)) := by have h1_ := add_field ad 0 15 (by omega); have h2_ := hx 15 (by omega); rw [add_pos ad (by omega)] at h2_; exact h2_
    have hu57 := Try.underlying57
    have harr : ∀ W, (Instr.arrayAt 57 (.slice (some ad) 16 c0)).run Try.prog W = .ok (.pointer (some ad)) W := fun W => by first | exact run_arrayAt _ _ _ _ _ _ hu57 (Nat.le_refl _) | exact run_arrayAt _ _ _ _ _ _ _ hu57 (Nat.le_refl _) | exact run_arrayAt _ _ _ _ _ _ _ _ hu57 (Nat.le_refl _)
    have c16 : 16 ≤ c0 := by have := HC0.out; omega
    have c16b : (16 : Int) ≤ (c0 : Int) := by omega
    clear c1 hx
    go_enter Try.func47, Try.ntmps47
    go_wp2_with (first | ((with_reducible refine gate_dst (N := 2) rfl ?_); refine box_event ?hg (N := 2) ?hd (cs := #[.int .u8 0, .int .u8 0, .int .u8 0, .int .u8 0, .int .u8 0, .int .u8 0, .int .u8 0, .int .u8 0, .int .u8 0, .int .u8 0, .int .u8 0, .int .u8 0, .int .u8 0, .int .u8 0, .int .u8 0, .int .u8 0]) (t := 57) ?hr ?_; (case hd => rfl); (case hg => rfl); (case hr => first | (go_simp; done) | (go_simp; rfl)); intro g hg w3 hbox hb; have BX := Aside0.mk hbox; have GW := Aside0.mk (show w.heap.size ≤ g by rw [hg]; exact below_size (bk HB.out)); have n1_ := Aside0.mk (below_step (bk HB.out) hb); clear HB; have HB := n1_; clear n1_ hbox hb hg; replace hx0 := cell_below1 HB.out hx0; replace hx1 := cell_below1 HB.out hx1; replace hx2 := cell_below1 HB.out hx2; replace hx3 := cell_below1 HB.out hx3; replace hx4 := cell_below1 HB.out hx4; replace hx5 := cell_below1 HB.out hx5; replace hx6 := cell_below1 HB.out hx6; replace hx7 := cell_below1 HB.out hx7; replace hx8 := cell_below1 HB.out hx8; replace hx9 := cell_below1 HB.out hx9; replace hx10 := cell_below1 HB.out hx10; replace hx11 := cell_below1 HB.out hx11; replace hx12 := cell_below1 HB.out hx12; replace hx13 := cell_below1 HB.out hx13; replace hx14 := cell_below1 HB.out hx14; replace hx15 := cell_below1 HB.out hx15; have hcz0 : w3.cell? ⟨g, 0, none⟩ = some (.int .u8 0) := (blk_cell BX.out 0).trans rfl; have hcz1 : w3.cell? ⟨g, 1, none⟩ = some (.int .u8 0) := (blk_cell BX.out 1).trans rfl; have hcz2 : w3.cell? ⟨g, 2, none⟩ = some (.int .u8 0) := (blk_cell BX.out 2).trans rfl; have hcz3 : w3.cell? ⟨g, 3, none⟩ = some (.int .u8 0) := (blk_cell BX.out 3).trans rfl; have hcz4 : w3.cell? ⟨g, 4, none⟩ = some (.int .u8 0) := (blk_cell BX.out 4).trans rfl; have hcz5 : w3.cell? ⟨g, 5, none⟩ = some (.int .u8 0) := (blk_cell BX.out 5).trans rfl; have hcz6 : w3.cell? ⟨g, 6, none⟩ = some (.int .u8 0) := (blk_cell BX.out 6).trans rfl; have hcz7 : w3.cell? ⟨g, 7, none⟩ = some (.int .u8 0) := (blk_cell BX.out 7).trans rfl; have hcz8 : w3.cell? ⟨g, 8, none⟩ = some (.int .u8 0) := (blk_cell BX.out 8).trans rfl; have hcz9 : w3.cell? ⟨g, 9, none⟩ = some (.int .u8 0) := (blk_cell BX.out 9).trans rfl; have hcz10 : w3.cell? ⟨g, 10, none⟩ = some (.int .u8 0) := (blk_cell BX.out 10).trans rfl; have hcz11 : w3.cell? ⟨g, 11, none⟩ = some (.int .u8 0) := (blk_cell BX.out 11).trans rfl; have hcz12 : w3.cell? ⟨g, 12, none⟩ = some (.int .u8 0) := (blk_cell BX.out 12).trans rfl; have hcz13 : w3.cell? ⟨g, 13, none⟩ = some (.int .u8 0) := (blk_cell BX.out 13).trans rfl; have hcz14 : w3.cell? ⟨g, 14, none⟩ = some (.int .u8 0) := (blk_cell BX.out 14).trans rfl; have hcz15 : w3.cell? ⟨g, 15, none⟩ = some (.int .u8 0) := (blk_cell BX.out 15).trans rfl; have hfz0 := blk_frozen BX.out 0; have hfz1 := blk_frozen BX.out 1; have hfz2 := blk_frozen BX.out 2; have hfz3 := blk_frozen BX.out 3; have hfz4 := blk_frozen BX.out 4; have hfz5 := blk_frozen BX.out 5; have hfz6 := blk_frozen BX.out 6; have hfz7 := blk_frozen BX.out 7; have hfz8 := blk_frozen BX.out 8; have hfz9 := blk_frozen BX.out 9; have hfz10 := blk_frozen BX.out 10; have hfz11 := blk_frozen BX.out 11; have hfz12 := blk_frozen BX.out 12; have hfz13 := blk_frozen BX.out 13; have hfz14 := blk_frozen BX.out 14; have hfz15 := blk_frozen BX.out 15))
    have b0 := blk_set1 BX.out 0 (.int .u8 (rd l0 0)) (cs' := #[.int .u8 (rd l0 0), .int .u8 0, .int .u8 0, .int .u8 0, .int .u8 0, .int .u8 0, .int .u8 0, .int .u8 0, .int .u8 0, .int .u8 0, .int .u8 0, .int .u8 0, .int .u8 0, .int .u8 0, .int .u8 0, .int .u8 0]) (by simp only [List.setIfInBounds_toArray, List.set_cons_zero, List.set_cons_succ])
    have b1 := blk_set1 b0 1 (.int .u8 (rd l0 1)) (cs' := #[.int .u8 (rd l0 0), .int .u8 (rd l0 1), .int .u8 0, .int .u8 0, .int .u8 0, .int .u8 0, .int .u8 0, .int .u8 0, .int .u8 0, .int .u8 0, .int .u8 0, .int .u8 0, .int .u8 0, .int .u8 0, .int .u8 0, .int .u8 0]) (by simp only [List.setIfInBounds_toArray, List.set_cons_zero, List.set_cons_succ])
    have b2 := blk_set1 b1 2 (.int .u8 (rd l0 2)) (cs' := #[.int .u8 (rd l0 0), .int .u8 (rd l0 1), .int .u8 (rd l0 2), .int .u8 0, .int .u8 0, .int .u8 0, .int .u8 0, .int .u8 0, .int .u8 0, .int .u8 0, .int .u8 0, .int .u8 0, .int .u8 0, .int .u8 0, .int .u8 0, .int .u8 0]) (by simp only [List.setIfInBounds_toArray, List.set_cons_zero, List.set_cons_succ])
    have b3 := blk_set1 b2 3 (.int .u8 (rd l0 3)) (cs' := #[.int .u8 (rd l0 0), .int .u8 (rd l0 1), .int .u8 (rd l0 2), .int .u8 (rd l0 3), .int .u8 0, .int .u8 0, .int .u8 0, .int .u8 0, .int .u8 0, .int .u8 0, .int .u8 0, .int .u8 0, .int .u8 0, .int .u8 0, .int .u8 0, .int .u8 0]) (by simp only [List.setIfInBounds_toArray, List.set_cons_zero, List.set_cons_succ])
    have b4 := blk_set1 b3 4 (.int .u8 (rd l0 4)) (cs' := #[.int .u8 (rd l0 0), .int .u8 (rd l0 1), .int .u8 (rd l0 2), .int .u8 (rd l0 3), .int .u8 (rd l0 4), .int .u8 0, .int .u8 0, .int .u8 0, .int .u8 0, .int .u8 0, .int .u8 0, .int .u8 0, .int .u8 0, .int .u8 0, .int .u8 0, .int .u8 0]) (by simp only [List.setIfInBounds_toArray, List.set_cons_zero, List.set_cons_succ])
    have b5 := blk_set1 b4 5 (.int .u8 (rd l0 5)) (cs' := #[.int .u8 (rd l0 0), .int .u8 (rd l0 1), .int .u8 (rd l0 2), .int .u8 (rd l0 3), .int .u8 (rd l0 4), .int .u8 (rd l0 5), .int .u8 0, .int .u8 0, .int .u8 0, .int .u8 0, .int .u8 0, .int .u8 0, .int .u8 0, .int .u8 0, .int .u8 0, .int .u8 0]) (by simp only [List.setIfInBounds_toArray, List.set_cons_zero, List.set_cons_succ])
    have b6 := blk_set1 b5 6 (.int .u8 (rd l0 6)) (cs' := #[.int .u8 (rd l0 0), .int .u8 (rd l0 1), .int .u8 (rd l0 2), .int .u8 (rd l0 3), .int .u8 (rd l0 4), .int .u8 (rd l0 5), .int .u8 (rd l0 6), .int .u8 0, .int .u8 0, .int .u8 0, .int .u8 0, .int .u8 0, .int .u8 0, .int .u8 0, .int .u8 0, .int .u8 0]) (by simp only [List.setIfInBounds_toArray, List.set_cons_zero, List.set_cons_succ])
    have b7 := blk_set1 b6 7 (.int .u8 (rd l0 7)) (cs' := #[.int .u8 (rd l0 0), .int .u8 (rd l0 1), .int .u8 (rd l0 2), .int .u8 (rd l0 3), .int .u8 (rd l0 4), .int .u8 (rd l0 5), .int .u8 (rd l0 6), .int .u8 (rd l0 7), .int .u8 0, .int .u8 0, .int .u8 0, .int .u8 0, .int .u8 0, .int .u8 0, .int .u8 0, .int .u8 0]) (by simp only [List.setIfInBounds_toArray, List.set_cons_zero, List.set_cons_succ])
    have b8 := blk_set1 b7 8 (.int .u8 (rd l0 8)) (cs' := #[.int .u8 (rd l0 0), .int .u8 (rd l0 1), .int .u8 (rd l0 2), .int .u8 (rd l0 3), .int .u8 (rd l0 4), .int .u8 (rd l0 5), .int .u8 (rd l0 6), .int .u8 (rd l0 7), .int .u8 (rd l0 8), .int .u8 0, .int .u8 0, .int .u8 0, .int .u8 0, .int .u8 0, .int .u8 0, .int .u8 0]) (by simp only [List.setIfInBounds_toArray, List.set_cons_zero, List.set_cons_succ])
    have b9 := blk_set1 b8 9 (.int .u8 (rd l0 9)) (cs' := #[.int .u8 (rd l0 0), .int .u8 (rd l0 1), .int .u8 (rd l0 2), .int .u8 (rd l0 3), .int .u8 (rd l0 4), .int .u8 (rd l0 5), .int .u8 (rd l0 6), .int .u8 (rd l0 7), .int .u8 (rd l0 8), .int .u8 (rd l0 9), .int .u8 0, .int .u8 0, .int .u8 0, .int .u8 0, .int .u8 0, .int .u8 0]) (by simp only [List.setIfInBounds_toArray, List.set_cons_zero, List.set_cons_succ])
    have b10 := blk_set1 b9 10 (.int .u8 (rd l0 10)) (cs' := #[.int .u8 (rd l0 0), .int .u8 (rd l0 1), .int .u8 (rd l0 2), .int .u8 (rd l0 3), .int .u8 (rd l0 4), .int .u8 (rd l0 5), .int .u8 (rd l0 6), .int .u8 (rd l0 7), .int .u8 (rd l0 8), .int .u8 (rd l0 9), .int .u8 (rd l0 10), .int .u8 0, .int .u8 0, .int .u8 0, .int .u8 0, .int .u8 0]) (by simp only [List.setIfInBounds_toArray, List.set_cons_zero, List.set_cons_succ])
    have b11 := blk_set1 b10 11 (.int .u8 (rd l0 11)) (cs' := #[.int .u8 (rd l0 0), .int .u8 (rd l0 1), .int .u8 (rd l0 2), .int .u8 (rd l0 3), .int .u8 (rd l0 4), .int .u8 (rd l0 5), .int .u8 (rd l0 6), .int .u8 (rd l0 7), .int .u8 (rd l0 8), .int .u8 (rd l0 9), .int .u8 (rd l0 10), .int .u8 (rd l0 11), .int .u8 0, .int .u8 0, .int .u8 0, .int .u8 0]) (by simp only [List.setIfInBounds_toArray, List.set_cons_zero, List.set_cons_succ])
    have b12 := blk_set1 b11 12 (.int .u8 (rd l0 12)) (cs' := #[.int .u8 (rd l0 0), .int .u8 (rd l0 1), .int .u8 (rd l0 2), .int .u8 (rd l0 3), .int .u8 (rd l0 4), .int .u8 (rd l0 5), .int .u8 (rd l0 6), .int .u8 (rd l0 7), .int .u8 (rd l0 8), .int .u8 (rd l0 9), .int .u8 (rd l0 10), .int .u8 (rd l0 11), .int .u8 (rd l0 12), .int .u8 0, .int .u8 0, .int .u8 0]) (by simp only [List.setIfInBounds_toArray, List.set_cons_zero, List.set_cons_succ])
    have b13 := blk_set1 b12 13 (.int .u8 (rd l0 13)) (cs' := #[.int .u8 (rd l0 0), .int .u8 (rd l0 1), .int .u8 (rd l0 2), .int .u8 (rd l0 3), .int .u8 (rd l0 4), .int .u8 (rd l0 5), .int .u8 (rd l0 6), .int .u8 (rd l0 7), .int .u8 (rd l0 8), .int .u8 (rd l0 9), .int .u8 (rd l0 10), .int .u8 (rd l0 11), .int .u8 (rd l0 12), .int .u8 (rd l0 13), .int .u8 0, .int .u8 0]) (by simp only [List.setIfInBounds_toArray, List.set_cons_zero, List.set_cons_succ])
    have b14 := blk_set1 b13 14 (.int .u8 (rd l0 14)) (cs' := #[.int .u8 (rd l0 0), .int .u8 (rd l0 1), .int .u8 (rd l0 2), .int .u8 (rd l0 3), .int .u8 (rd l0 4), .int .u8 (rd l0 5), .int .u8 (rd l0 6), .int .u8 (rd l0 7), .int .u8 (rd l0 8), .int .u8 (rd l0 9), .int .u8 (rd l0 10), .int .u8 (rd l0 11), .int .u8 (rd l0 12), .int .u8 (rd l0 13), .int .u8 (rd l0 14), .int .u8 0]) (by simp only [List.setIfInBounds_toArray, List.set_cons_zero, List.set_cons_succ])
    have b15 := blk_set1 b14 15 (.int .u8 (rd l0 15)) (cs' := #[.int .u8 (rd l0 0), .int .u8 (rd l0 1), .int .u8 (rd l0 2), .int .u8 (rd l0 3), .int .u8 (rd l0 4), .int .u8 (rd l0 5), .int .u8 (rd l0 6), .int .u8 (rd l0 7), .int .u8 (rd l0 8), .int .u8 (rd l0 9), .int .u8 (rd l0 10), .int .u8 (rd l0 11), .int .u8 (rd l0 12), .int .u8 (rd l0 13), .int .u8 (rd l0 14), .int .u8 (rd l0 15)]) (by simp only [List.setIfInBounds_toArray, List.set_cons_zero, List.set_cons_succ])
    refine bodyPost_ret (results_ctt rfl _ _ g 57 #[.int .u8 (rd l0 0), .int .u8 (rd l0 1), .int .u8 (rd l0 2), .int .u8 (rd l0 3), .int .u8 (rd l0 4), .int .u8 (rd l0 5), .int .u8 (rd l0 6), .int .u8 (rd l0 7), .int .u8 (rd l0 8), .int .u8 (rd l0 9), .int .u8 (rd l0 10), .int .u8 (rd l0 11), .int .u8 (rd l0 12), .int .u8 (rd l0 13), .int .u8 (rd l0 14), .int .u8 (rd l0 15)] (0, 0) _ rfl b15 hu57 rfl (by kernel_rfl)) rfl ?_
    exact ⟨rfl, bk HB.out⟩
  · rw [if_neg c1] at h
    cases h
end Go.Proofs.Ytekbhcciabgnhaa.PP
