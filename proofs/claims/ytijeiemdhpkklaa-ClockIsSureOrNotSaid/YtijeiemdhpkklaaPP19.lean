-- laid by a program of this session (wip/xprint), out of the translation
import Derived.Test.YtijeiemdhpkklaaPP0
import Derived.Test.YtijeiemdhpkklaaPP1
import Derived.Test.YtijeiemdhpkklaaPP3
import Derived.Test.YtijeiemdhpkklaaPP6
import Derived.Test.YtijeiemdhpkklaaPP10
import Derived.Test.YtijeiemdhpkklaaPP18
namespace Go.Proofs.Ytijeiemdhpkklaa.PP
open Go.RowKit Go.Proofs.YtijeiemdhpkklaaW.PrintWords Go.Proofs.YtijeiemdhpkklaaW.PrintLast Go.Proofs.YtijeiemdhpkklaaW.PrintMore
attribute [local go_sem] max2_int min2_int max_two min_two max_three min_three max_four min_four   -- for this text's walks alone
set_option linter.unusedVariables false
set_option linter.unusedSimpArgs false

attribute [local go_sem high] eqA23
attribute [local go_sem] isSome_put
/-! ### weirgatelaw05_ClockIsSureOrNot: function 8 -/
mutual
def weirgatelaw05_ClockIsSureOrNot.j0 : Nat → Int → Bool → Int → Int → Int → Int → Option (Bool)
  | 0, _, _, _, _, _, _ => none
  | k + 1, x2, x34, x351000, x351001, x352000, x352001 => if x34 = true then ((weirgatelaw05_sanity.f k).bind fun t354 => (some t354)) else ((clock_Meet.f x351000 x351001 x352000 x352001).bind fun bt355 => ((clock_Before.f x352000 x352001 x2).bind fun t359 => (if t359 = true then ((clock_From.f x352000 x352001 x2).bind fun t360 => (if t360 = true then (weirgatelaw05_ClockIsSureOrNot.j1 k bt355.2.2 true x351000 x351001 x352000 x352001 bt355.1 bt355.2.1) else ((clock_Before.f x351000 x351001 x2).bind fun t361 => (if t361 = true then ((clock_Before.f x352000 x352001 x2).bind fun t362 => (if t362 = true then ((clock_From.f x351000 x351001 x2).bind fun t363 => (if t363 = true then ((clock_From.f x352000 x352001 x2).bind fun t364 => (weirgatelaw05_ClockIsSureOrNot.j1 k bt355.2.2 (!t364) x351000 x351001 x352000 x352001 bt355.1 bt355.2.1)) else (weirgatelaw05_ClockIsSureOrNot.j1 k bt355.2.2 false x351000 x351001 x352000 x352001 bt355.1 bt355.2.1))) else (weirgatelaw05_ClockIsSureOrNot.j1 k bt355.2.2 true x351000 x351001 x352000 x352001 bt355.1 bt355.2.1))) else ((clock_From.f x351000 x351001 x2).bind fun t365 => (if t365 = true then ((clock_From.f x352000 x352001 x2).bind fun t366 => (weirgatelaw05_ClockIsSureOrNot.j1 k bt355.2.2 (!t366) x351000 x351001 x352000 x352001 bt355.1 bt355.2.1)) else (weirgatelaw05_ClockIsSureOrNot.j1 k bt355.2.2 false x351000 x351001 x352000 x352001 bt355.1 bt355.2.1))))))) else ((clock_Before.f x351000 x351001 x2).bind fun t367 => (if t367 = true then ((clock_Before.f x352000 x352001 x2).bind fun t368 => (if t368 = true then ((clock_From.f x351000 x351001 x2).bind fun t369 => (if t369 = true then ((clock_From.f x352000 x352001 x2).bind fun t370 => (weirgatelaw05_ClockIsSureOrNot.j1 k bt355.2.2 (!t370) x351000 x351001 x352000 x352001 bt355.1 bt355.2.1)) else (weirgatelaw05_ClockIsSureOrNot.j1 k bt355.2.2 false x351000 x351001 x352000 x352001 bt355.1 bt355.2.1))) else (weirgatelaw05_ClockIsSureOrNot.j1 k bt355.2.2 true x351000 x351001 x352000 x352001 bt355.1 bt355.2.1))) else ((clock_From.f x351000 x351001 x2).bind fun t371 => (if t371 = true then ((clock_From.f x352000 x352001 x2).bind fun t372 => (weirgatelaw05_ClockIsSureOrNot.j1 k bt355.2.2 (!t372) x351000 x351001 x352000 x352001 bt355.1 bt355.2.1)) else (weirgatelaw05_ClockIsSureOrNot.j1 k bt355.2.2 false x351000 x351001 x352000 x352001 bt355.1 bt355.2.1))))))))
def weirgatelaw05_ClockIsSureOrNot.j1 : Nat → Bool → Bool → Int → Int → Int → Int → Int → Int → Option (Bool)
  | 0, _, _, _, _, _, _, _, _ => none
  | k + 1, x10, x71, x351000, x351001, x352000, x352001, x359000, x359001 => if x71 = true then (some false) else ((weirgatelaw05_sanity.f k).bind fun t373 => (if t373 = true then (if x10 = true then (if (x359000 == x352000 && (x359001 == x352001)) = true then ((clock_Hull.f x351000 x351001 x352000 x352001).bind fun bt374 => (if (bt374.1 == x351000 && (bt374.2 == x351001)) = true then ((clock_Hull.f x352000 x352001 x351000 x351001).bind fun bt376 => (some (bt376.1 == x351000 && (bt376.2 == x351001)))) else (some false))) else (some false)) else (some false)) else (some false)))
end
def weirgatelaw05_ClockIsSureOrNot.f (k : Nat) (a0_0 : Int) (a0_1 : Int) (a1_0 : Int) (a1_1 : Int) (a2 : Int) : Option (Bool) := (weirgateref05_Valid.f a0_0 a0_1).bind fun t352 => ((weirgateref05_Valid.f a1_0 a1_1).bind fun t353 => (if t352 = true then (if t353 = true then (if a1_0 < a0_0 then (weirgatelaw05_ClockIsSureOrNot.j0 k a2 true a0_0 a0_1 a1_0 a1_1) else (weirgatelaw05_ClockIsSureOrNot.j0 k a2 (decide (a1_1 > a0_1)) a0_0 a0_1 a1_0 a1_1)) else (weirgatelaw05_ClockIsSureOrNot.j0 k a2 true a0_0 a0_1 a1_0 a1_1)) else (weirgatelaw05_ClockIsSureOrNot.j0 k a2 true a0_0 a0_1 a1_0 a1_1)))
theorem weirgatelaw05_ClockIsSureOrNot.mono_l : ∀ k, (∀ y0 y1 y2 y3 y4 y5, LeO (weirgatelaw05_ClockIsSureOrNot.j0 k y0 y1 y2 y3 y4 y5) (weirgatelaw05_ClockIsSureOrNot.j0 (k + 1) y0 y1 y2 y3 y4 y5)) ∧ (∀ y0 y1 y2 y3 y4 y5 y6 y7, LeO (weirgatelaw05_ClockIsSureOrNot.j1 k y0 y1 y2 y3 y4 y5 y6 y7) (weirgatelaw05_ClockIsSureOrNot.j1 (k + 1) y0 y1 y2 y3 y4 y5 y6 y7))
  | 0 => ⟨fun _ _ _ _ _ _ r h => by simp [weirgatelaw05_ClockIsSureOrNot.j0] at h, fun _ _ _ _ _ _ _ _ r h => by simp [weirgatelaw05_ClockIsSureOrNot.j1] at h⟩
  | k + 1 => by
    obtain ⟨ih0, ih1⟩ := weirgatelaw05_ClockIsSureOrNot.mono_l k
    refine ⟨?_, ?_⟩
    · intro y0 y1 y2 y3 y4 y5
      unfold weirgatelaw05_ClockIsSureOrNot.j0
      repeat' first
      | (with_reducible exact ih0 _ _ _ _ _ _)
      | (with_reducible exact ih1 _ _ _ _ _ _ _ _)
      | (with_reducible exact weirgatelaw05_sanity.mono _)
      | (with_reducible exact LeO.refl _)
      | (with_reducible exact LeO.none _)
      | (with_reducible refine LeO.ite ?_ ?_)
      | (with_reducible refine LeO.bind ?_ (fun _ => ?_))
      | exact ih0 _ _ _ _ _ _
      | exact ih1 _ _ _ _ _ _ _ _
      | exact weirgatelaw05_sanity.mono _
      | exact LeO.none _
      | refine LeO.ite ?_ ?_
      | refine LeO.bind ?_ (fun _ => ?_)
    · intro y0 y1 y2 y3 y4 y5 y6 y7
      unfold weirgatelaw05_ClockIsSureOrNot.j1
      repeat' first
      | (with_reducible exact ih0 _ _ _ _ _ _)
      | (with_reducible exact ih1 _ _ _ _ _ _ _ _)
      | (with_reducible exact weirgatelaw05_sanity.mono _)
      | (with_reducible exact LeO.refl _)
      | (with_reducible exact LeO.none _)
      | (with_reducible refine LeO.ite ?_ ?_)
      | (with_reducible refine LeO.bind ?_ (fun _ => ?_))
      | exact ih0 _ _ _ _ _ _
      | exact ih1 _ _ _ _ _ _ _ _
      | exact weirgatelaw05_sanity.mono _
      | exact LeO.none _
      | refine LeO.ite ?_ ?_
      | refine LeO.bind ?_ (fun _ => ?_)
theorem weirgatelaw05_ClockIsSureOrNot.mono : ∀ a0 a1 a2 a3 a4 k, LeO (weirgatelaw05_ClockIsSureOrNot.f k a0 a1 a2 a3 a4) (weirgatelaw05_ClockIsSureOrNot.f (k + 1) a0 a1 a2 a3 a4) := by
  intro a0 a1 a2 a3 a4 k
  obtain ⟨ih0, ih1⟩ := weirgatelaw05_ClockIsSureOrNot.mono_l k
  unfold weirgatelaw05_ClockIsSureOrNot.f
  repeat' first
      | (with_reducible exact ih0 _ _ _ _ _ _)
      | (with_reducible exact ih1 _ _ _ _ _ _ _ _)
      | (with_reducible exact weirgatelaw05_sanity.mono _)
      | (with_reducible exact LeO.refl _)
      | (with_reducible exact LeO.none _)
      | (with_reducible refine LeO.ite ?_ ?_)
      | (with_reducible refine LeO.bind ?_ (fun _ => ?_))
      | exact ih0 _ _ _ _ _ _
      | exact ih1 _ _ _ _ _ _ _ _
      | exact weirgatelaw05_sanity.mono _
      | exact LeO.none _
      | refine LeO.ite ?_ ?_
      | refine LeO.bind ?_ (fun _ => ?_)
def weirgatelaw05_ClockIsSureOrNot.T8 : Bool × List (List Nat × List Nat) := (true, [([], []), ([0, 0], [0]), ([1], [1]), ([1, 2], [1, 2]), ([3, 1], [3]), ([4], [4]), ([4], [4]), ([5, 6, 4], [4, 5, 6]), ([4, 7], [4, 7]), ([8, 4], [8]), ([9], [9]), ([9], [9]), ([10, 11, 9, 9], [9, 10, 11]), ([9], [9]), ([12, 13, 9], [9, 12, 13]), ([9, 14], [9, 14]), ([15, 12], [15]), ([16], [16]), ([16], [16]), ([17, 18, 16, 16], [16, 17, 18]), ([16], [16]), ([19, 20, 16], [16, 19, 20]), ([16, 21], [16, 21]), ([22, 19, 0, 1, 2, 3, 4, 5, 6, 7, 8, 9, 10, 11, 12, 13, 14, 15, 16, 17, 18, 19, 20, 21, 22], [22])])
def weirgatelaw05_ClockIsSureOrNot.B8 : List Nat := [0, 1, 3, 7, 15, 31, 31, 127, 255, 511, 1023, 1023, 4095, 1023, 16383, 32767, 65535, 131071, 131071, 524287, 131071, 2097151, 4194303, 8388607]
theorem weirgatelaw05_ClockIsSureOrNot.tab8 : rtab .any (opsOf Try.f8 8) = weirgatelaw05_ClockIsSureOrNot.T8 := by kernel_rfl
theorem weirgatelaw05_ClockIsSureOrNot.bits8 : waitsOk weirgatelaw05_ClockIsSureOrNot.T8.2 weirgatelaw05_ClockIsSureOrNot.B8 = true := by kernel_rfl
set_option maxHeartbeats 8000000 in
set_option maxRecDepth 100000 in
theorem weirgatelaw05_ClockIsSureOrNot.calls (k : Nat) (a0_0 : Int) (a0_1 : Int) (a1_0 : Int) (a1_1 : Int) (a2 : Int) (r : Bool) (w : World) (h : weirgatelaw05_ClockIsSureOrNot.f k a0_0 a0_1 a1_0 a1_1 a2 = some r) :
    Calls Try.prog 8 #[.agg #[.int .i64 a0_0, .int .i64 a0_1], .agg #[.int .i64 a1_0, .int .i64 a1_1], .int .i64 a2] w fun e w' => e = .returned (.bool r) ∧ Below w.heap.size w w' := by
  have hu23 := Try.underlying23
  have HB := Aside0.mk (Below.refl w.heap.size w)
  have H : ((weirgateref05_Valid.f a0_0 a0_1).bind fun t352 => ((weirgateref05_Valid.f a1_0 a1_1).bind fun t353 => (if t352 = true then (if t353 = true then (if a1_0 < a0_0 then (weirgatelaw05_ClockIsSureOrNot.j0 k a2 true a0_0 a0_1 a1_0 a1_1) else (weirgatelaw05_ClockIsSureOrNot.j0 k a2 (decide (a1_1 > a0_1)) a0_0 a0_1 a1_0 a1_1)) else (weirgatelaw05_ClockIsSureOrNot.j0 k a2 true a0_0 a0_1 a1_0 a1_1)) else (weirgatelaw05_ClockIsSureOrNot.j0 k a2 true a0_0 a0_1 a1_0 a1_1)))) = some r := h
  clear h
  replace H := Option.bind_eq_some_iff.mp H
  obtain ⟨t352, A40, H⟩ := H
  replace H : ((weirgateref05_Valid.f a1_0 a1_1).bind fun t353 => (if t352 = true then (if t353 = true then (if a1_0 < a0_0 then (weirgatelaw05_ClockIsSureOrNot.j0 k a2 true a0_0 a0_1 a1_0 a1_1) else (weirgatelaw05_ClockIsSureOrNot.j0 k a2 (decide (a1_1 > a0_1)) a0_0 a0_1 a1_0 a1_1)) else (weirgatelaw05_ClockIsSureOrNot.j0 k a2 true a0_0 a0_1 a1_0 a1_1)) else (weirgatelaw05_ClockIsSureOrNot.j0 k a2 true a0_0 a0_1 a1_0 a1_1))) = some r := H
  have A4 := Aside0.mk A40
  clear A40
  replace H := Option.bind_eq_some_iff.mp H
  obtain ⟨t353, A50, H⟩ := H
  replace H : (if t352 = true then (if t353 = true then (if a1_0 < a0_0 then (weirgatelaw05_ClockIsSureOrNot.j0 k a2 true a0_0 a0_1 a1_0 a1_1) else (weirgatelaw05_ClockIsSureOrNot.j0 k a2 (decide (a1_1 > a0_1)) a0_0 a0_1 a1_0 a1_1)) else (weirgatelaw05_ClockIsSureOrNot.j0 k a2 true a0_0 a0_1 a1_0 a1_1)) else (weirgatelaw05_ClockIsSureOrNot.j0 k a2 true a0_0 a0_1 a1_0 a1_1)) = some r := H
  have A5 := Aside0.mk A50
  clear A50
  have HC6 := Aside0.mk H
  clear H
  go_enter Try.func8, Try.ntmps8
  go_upto_region 3 with (first | ((with_reducible refine gate_dst (N := 3) rfl ?_); refine box_event ?hg (N := 3) ?hd (cs := #[.int .i64 a0_0, .int .i64 a0_1]) (t := 23) ?hr ?_; (case hd => rfl); (case hg => rfl); (case hr => first | (go_simp; done) | (go_simp; rfl)); intro gb350 hg w7 hbox hb; have n0_ := Aside0.mk (below_step (bk HB.out) hb); have n1_ := Aside0.mk (hbox); have n2_ := Aside0.mk ((by rw [hg]; exact (below_size (bk HB.out)) : w.heap.size ≤ gb350)); have n3_ := Aside0.mk ((by rw [hg]; exact (below_size (bk HB.out)) : w.heap.size ≤ gb350)); clear HB; have HB := n0_; have BK350 := n1_; have GW350 := n2_; have GE350 := n3_; clear n0_ n1_ n2_ n3_; clear hb hbox hg) | ((with_reducible refine gate_dst (N := 4) rfl ?_); refine box_event ?hg (N := 4) ?hd (cs := #[.int .i64 a1_0, .int .i64 a1_1]) (t := 23) ?hr ?_; (case hd => rfl); (case hg => rfl); (case hr => first | (go_simp; done) | (go_simp; rfl)); intro gb351 hg w8 hbox hb; have n0_ := Aside0.mk (blk_below (pk BK350.out) hb); have n1_ := Aside0.mk (below_step (bk HB.out) hb); have n2_ := Aside0.mk (hbox); have n3_ := Aside0.mk ((by rw [hg]; exact (below_size (bk HB.out)) : w.heap.size ≤ gb351)); have n4_ := Aside0.mk ((by rw [hg]; exact (below_size (bk HB.out)) : w.heap.size ≤ gb351)); have n5_ := Aside0.mk ((by rw [hg]; exact Nat.ne_of_lt (blk_lt (g := gb350) (o := .cells #[.int .i64 a0_0, .int .i64 a0_1] 23 (0, 0)) (pk BK350.out)) : gb350 ≠ gb351)); have n6_ := Aside0.mk ((by rw [hg]; exact Nat.ne_of_gt (blk_lt (g := gb350) (o := .cells #[.int .i64 a0_0, .int .i64 a0_1] 23 (0, 0)) (pk BK350.out)) : gb351 ≠ gb350)); clear BK350 HB; have BK350 := n0_; have HB := n1_; have BK351 := n2_; have GW351 := n3_; have GE351 := n4_; have NB350_351 := n5_; have NB351_350 := n6_; clear n0_ n1_ n2_ n3_ n4_ n5_ n6_; clear hb hbox hg; have hnb9 := NB350_351.out; have hnc9 := NB351_350.out; have hcz10_0 : w8.cell? ⟨gb350, 0, none⟩ = some (.int .i64 a0_0) := (blk_cell BK350.out 0).trans rfl; have hcz10_1 : w8.cell? ⟨gb350, 1, none⟩ = some (.int .i64 a0_1) := (blk_cell BK350.out 1).trans rfl; have hfz10_0 := blk_frozen BK350.out 0; have hfz10_1 := blk_frozen BK350.out 1) | ((with_reducible refine gate_callee (f := 25) rfl ?_); refine goesL_ (some 12) rfl rfl Try.func25 (by kernel_rfl) rfl #[.agg #[.int .i64 a0_0, .int .i64 a0_1]] rfl (by (try simp only [List.map_toArray, List.map_cons, List.map_nil]); first | done | rfl | (simp only [List.length_drop, List.length_take]; rfl)) ?_; (with_reducible refine (weirgateref05_Valid.calls a0_0 a0_1 t352 _ A4.out).mono ?_); rintro e w11 ⟨rfl, hb⟩; refine ⟨_, rfl, ?_⟩; have n0_ := Aside0.mk (blk_below (pk BK350.out) hb); have n1_ := Aside0.mk (blk_below (pk BK351.out) hb); have n2_ := Aside0.mk (below_step (bk HB.out) hb); clear BK350 BK351 HB; have BK350 := n0_; have BK351 := n1_; have HB := n2_; clear n0_ n1_ n2_; (try clear hb); (try clear hb2); (try clear hk); (try clear hi); have hcz12_0 : w11.cell? ⟨gb351, 0, none⟩ = some (.int .i64 a1_0) := (blk_cell BK351.out 0).trans rfl; have hcz12_1 : w11.cell? ⟨gb351, 1, none⟩ = some (.int .i64 a1_1) := (blk_cell BK351.out 1).trans rfl; have hfz12_0 := blk_frozen BK351.out 0; have hfz12_1 := blk_frozen BK351.out 1) | ((with_reducible refine gate_callee (f := 25) rfl ?_); refine goesL_ (some 14) rfl rfl Try.func25 (by kernel_rfl) rfl #[.agg #[.int .i64 a1_0, .int .i64 a1_1]] rfl (by (try simp only [List.map_toArray, List.map_cons, List.map_nil]); first | done | rfl | (simp only [List.length_drop, List.length_take]; rfl)) ?_; (with_reducible refine (weirgateref05_Valid.calls a1_0 a1_1 t353 _ A5.out).mono ?_); rintro e w13 ⟨rfl, hb⟩; refine ⟨_, rfl, ?_⟩; have n0_ := Aside0.mk (blk_below (pk BK350.out) hb); have n1_ := Aside0.mk (blk_below (pk BK351.out) hb); have n2_ := Aside0.mk (below_step (bk HB.out) hb); clear BK350 BK351 HB; have BK350 := n0_; have BK351 := n1_; have HB := n2_; clear n0_ n1_ n2_; (try clear hb); (try clear hb2); (try clear hk); (try clear hi)))
  (try simp only [Act.put, List.setIfInBounds_toArray, List.set_cons_zero, List.set_cons_succ])
  go_cut [34] (fun v34 wc => ∃ (kq : Nat) (x34_5 : Bool), v34 = .bool x34_5 ∧ Aside0 (weirgatelaw05_ClockIsSureOrNot.j0 kq a2 x34_5 a0_0 a0_1 a1_0 a1_1 = some r) ∧ Aside0 (kq ≤ k) ∧ Aside0 (wc.heap[gb350]? = some (.cells #[.int .i64 a0_0, .int .i64 a0_1] 23 (0, 0))) ∧ Aside0 (wc.heap[gb351]? = some (.cells #[.int .i64 a1_0, .int .i64 a1_1] 23 (0, 0))) ∧ Aside0 (Below w.heap.size w wc))
  case first =>
    have H := HC6.out
    clear HC6
    by_cases c14 : t352 = true
    · subst c14
      have H1 : (if t353 = true then (if a1_0 < a0_0 then (weirgatelaw05_ClockIsSureOrNot.j0 k a2 true a0_0 a0_1 a1_0 a1_1) else (weirgatelaw05_ClockIsSureOrNot.j0 k a2 (decide (a1_1 > a0_1)) a0_0 a0_1 a1_0 a1_1)) else (weirgatelaw05_ClockIsSureOrNot.j0 k a2 true a0_0 a0_1 a1_0 a1_1)) = some r := by rw [if_pos rfl] at H; exact H
      clear H
      have H := H1
      clear H1
      by_cases c15 : t353 = true
      · subst c15
        have H1 : (if a1_0 < a0_0 then (weirgatelaw05_ClockIsSureOrNot.j0 k a2 true a0_0 a0_1 a1_0 a1_1) else (weirgatelaw05_ClockIsSureOrNot.j0 k a2 (decide (a1_1 > a0_1)) a0_0 a0_1 a1_0 a1_1)) = some r := by rw [if_pos rfl] at H; exact H
        clear H
        have H := H1
        clear H1
        by_cases c16 : a1_0 < a0_0
        · rw [if_pos c16] at H
          have c16b0 : decide (a1_0 < a0_0) = true := decide_eq_true c16
          clear c16
          (first | rw [c16b0] | (simp only [i64_w, i32_w]; rw [c16b0]) | skip)
          have H' := Aside0.mk H
          clear H
          have hnb17 := NB351_350.out
          have hnc17 := NB350_351.out
          have hcz18_0 : w13.cell? ⟨gb351, 0, none⟩ = some (.int .i64 a1_0) := (blk_cell BK351.out 0).trans rfl
          have hcz18_1 : w13.cell? ⟨gb351, 1, none⟩ = some (.int .i64 a1_1) := (blk_cell BK351.out 1).trans rfl
          have hfz18_0 := blk_frozen BK351.out 0
          have hfz18_1 := blk_frozen BK351.out 1
          have hcz19_0 : w13.cell? ⟨gb350, 0, none⟩ = some (.int .i64 a0_0) := (blk_cell BK350.out 0).trans rfl
          have hcz19_1 : w13.cell? ⟨gb350, 1, none⟩ = some (.int .i64 a0_1) := (blk_cell BK350.out 1).trans rfl
          have hfz19_0 := blk_frozen BK350.out 0
          have hfz19_1 := blk_frozen BK350.out 1
          go_wp2
          go_meet
          case rel => exact ⟨_, (true), (by first | rfl | (simp; done) | (simp [*]; done) | (simp only [show ∀ p : Prop, Aside0 p = p from fun p => propext ⟨Aside0.out, Aside0.mk⟩] at *; simp_all; done)), H', ⟨by first | omega | exact Nat.le_refl _⟩, ⟨pk BK350.out⟩, ⟨pk BK351.out⟩, ⟨bk HB.out⟩⟩
        · rw [if_neg c16] at H
          have c16b0 : decide (a1_0 < a0_0) = false := decide_eq_false c16
          clear c16
          (first | rw [c16b0] | (simp only [i64_w, i32_w]; rw [c16b0]) | skip)
          have H' := Aside0.mk H
          clear H
          have hnb20 := NB351_350.out
          have hnc20 := NB350_351.out
          have hcz21_0 : w13.cell? ⟨gb351, 0, none⟩ = some (.int .i64 a1_0) := (blk_cell BK351.out 0).trans rfl
          have hcz21_1 : w13.cell? ⟨gb351, 1, none⟩ = some (.int .i64 a1_1) := (blk_cell BK351.out 1).trans rfl
          have hfz21_0 := blk_frozen BK351.out 0
          have hfz21_1 := blk_frozen BK351.out 1
          have hcz22_0 : w13.cell? ⟨gb350, 0, none⟩ = some (.int .i64 a0_0) := (blk_cell BK350.out 0).trans rfl
          have hcz22_1 : w13.cell? ⟨gb350, 1, none⟩ = some (.int .i64 a0_1) := (blk_cell BK350.out 1).trans rfl
          have hfz22_0 := blk_frozen BK350.out 0
          have hfz22_1 := blk_frozen BK350.out 1
          go_wp2
          go_meet
          case rel => exact ⟨_, (decide (a1_1 > a0_1)), (by first | rfl | (simp; done) | (simp [*]; done) | (simp only [show ∀ p : Prop, Aside0 p = p from fun p => propext ⟨Aside0.out, Aside0.mk⟩] at *; simp_all; done)), H', ⟨by first | omega | exact Nat.le_refl _⟩, ⟨pk BK350.out⟩, ⟨pk BK351.out⟩, ⟨bk HB.out⟩⟩
      · replace c15 := Bool.eq_false_iff.mpr c15
        subst c15
        have H1 : (weirgatelaw05_ClockIsSureOrNot.j0 k a2 true a0_0 a0_1 a1_0 a1_1) = some r := by rw [if_neg (show ¬ (false = true) by decide)] at H; exact H
        clear H
        have H := H1
        clear H1
        have H' := Aside0.mk H
        clear H
        go_wp2
        go_meet
        case rel => exact ⟨_, (true), (by first | rfl | (simp; done) | (simp [*]; done) | (simp only [show ∀ p : Prop, Aside0 p = p from fun p => propext ⟨Aside0.out, Aside0.mk⟩] at *; simp_all; done)), H', ⟨by first | omega | exact Nat.le_refl _⟩, ⟨pk BK350.out⟩, ⟨pk BK351.out⟩, ⟨bk HB.out⟩⟩
    · replace c14 := Bool.eq_false_iff.mpr c14
      subst c14
      have H1 : (weirgatelaw05_ClockIsSureOrNot.j0 k a2 true a0_0 a0_1 a1_0 a1_1) = some r := by rw [if_neg (show ¬ (false = true) by decide)] at H; exact H
      clear H
      have H := H1
      clear H1
      have H' := Aside0.mk H
      clear H
      go_wp2
      go_meet
      case rel => exact ⟨_, (true), (by first | rfl | (simp; done) | (simp [*]; done) | (simp only [show ∀ p : Prop, Aside0 p = p from fun p => propext ⟨Aside0.out, Aside0.mk⟩] at *; simp_all; done)), H', ⟨by first | omega | exact Nat.le_refl _⟩, ⟨pk BK350.out⟩, ⟨pk BK351.out⟩, ⟨bk HB.out⟩⟩
  case rest =>
    clear HC6
    try clear c1
    try clear c2
    try clear p2
    try clear c8
    try clear c9
    try clear c14
    try clear c15
    try clear c16
    try clear c16b0
    try clear c17
    try clear c20
    try clear hcz10_0
    try clear hcz10_1
    try clear hcz12_0
    try clear hcz12_1
    try clear hcz18_0
    try clear hcz18_1
    try clear hcz19_0
    try clear hcz19_1
    try clear hcz21_0
    try clear hcz21_1
    try clear hcz22_0
    try clear hcz22_1
    try clear hfz10_0
    try clear hfz10_1
    try clear hfz12_0
    try clear hfz12_1
    try clear hfz18_0
    try clear hfz18_1
    try clear hfz19_0
    try clear hfz19_1
    try clear hfz21_0
    try clear hfz21_1
    try clear hfz22_0
    try clear hfz22_1
    obtain ⟨kq, x34_5, rfl, HA, HJ5, BK350, BK351, HB⟩ := hcut
    cases kq with
    | zero => exact absurd HA.out (by simp [weirgatelaw05_ClockIsSureOrNot.j0])
    | succ kj5 =>
      have H := HA.out
      clear HA
      simp only [weirgatelaw05_ClockIsSureOrNot.j0] at H
      by_cases c23 : x34_5 = true
      · subst c23
        have H1 : ((weirgatelaw05_sanity.f kj5).bind fun t354 => (some t354)) = some r := by rw [if_pos rfl] at H; exact H
        clear H
        have H := H1
        clear H1
        replace H := Option.bind_eq_some_iff.mp H
        obtain ⟨t354, A240, H⟩ := H
        replace H : (some t354) = some r := H
        have A24 := Aside0.mk A240
        clear A240
        obtain rfl := Option.some.inj H
        go_wp2_with (first | ((with_reducible refine gate_callee (f := 13) rfl ?_); refine goesL_ (some 35) rfl rfl Try.func13 (by kernel_rfl) rfl #[] rfl (by (try simp only [List.map_toArray, List.map_cons, List.map_nil]); first | done | rfl | (simp only [List.length_drop, List.length_take]; rfl)) ?_; (with_reducible refine (weirgatelaw05_sanity.calls kj5  t354 _ A24.out).mono ?_); rintro e w25 ⟨rfl, hb⟩; refine ⟨_, rfl, ?_⟩; have n0_ := Aside0.mk (blk_below (pk BK350.out) hb); have n1_ := Aside0.mk (blk_below (pk BK351.out) hb); have n2_ := Aside0.mk (below_step (bk HB.out) hb); clear BK350 BK351 HB; have BK350 := n0_; have BK351 := n1_; have HB := n2_; clear n0_ n1_ n2_; (try clear hb); (try clear hb2); (try clear hk); (try clear hi)))
        go_ret
        exact ⟨by first | rfl | (simp [errW_none, errW_some] <;> rfl) | (simp [*, errW_none, errW_some] <;> rfl), bk HB.out⟩
      · replace c23 := Bool.eq_false_iff.mpr c23
        subst c23
        have H1 : ((clock_Meet.f a0_0 a0_1 a1_0 a1_1).bind fun bt355 => ((clock_Before.f a1_0 a1_1 a2).bind fun t359 => (if t359 = true then ((clock_From.f a1_0 a1_1 a2).bind fun t360 => (if t360 = true then (weirgatelaw05_ClockIsSureOrNot.j1 kj5 bt355.2.2 true a0_0 a0_1 a1_0 a1_1 bt355.1 bt355.2.1) else ((clock_Before.f a0_0 a0_1 a2).bind fun t361 => (if t361 = true then ((clock_Before.f a1_0 a1_1 a2).bind fun t362 => (if t362 = true then ((clock_From.f a0_0 a0_1 a2).bind fun t363 => (if t363 = true then ((clock_From.f a1_0 a1_1 a2).bind fun t364 => (weirgatelaw05_ClockIsSureOrNot.j1 kj5 bt355.2.2 (!t364) a0_0 a0_1 a1_0 a1_1 bt355.1 bt355.2.1)) else (weirgatelaw05_ClockIsSureOrNot.j1 kj5 bt355.2.2 false a0_0 a0_1 a1_0 a1_1 bt355.1 bt355.2.1))) else (weirgatelaw05_ClockIsSureOrNot.j1 kj5 bt355.2.2 true a0_0 a0_1 a1_0 a1_1 bt355.1 bt355.2.1))) else ((clock_From.f a0_0 a0_1 a2).bind fun t365 => (if t365 = true then ((clock_From.f a1_0 a1_1 a2).bind fun t366 => (weirgatelaw05_ClockIsSureOrNot.j1 kj5 bt355.2.2 (!t366) a0_0 a0_1 a1_0 a1_1 bt355.1 bt355.2.1)) else (weirgatelaw05_ClockIsSureOrNot.j1 kj5 bt355.2.2 false a0_0 a0_1 a1_0 a1_1 bt355.1 bt355.2.1))))))) else ((clock_Before.f a0_0 a0_1 a2).bind fun t367 => (if t367 = true then ((clock_Before.f a1_0 a1_1 a2).bind fun t368 => (if t368 = true then ((clock_From.f a0_0 a0_1 a2).bind fun t369 => (if t369 = true then ((clock_From.f a1_0 a1_1 a2).bind fun t370 => (weirgatelaw05_ClockIsSureOrNot.j1 kj5 bt355.2.2 (!t370) a0_0 a0_1 a1_0 a1_1 bt355.1 bt355.2.1)) else (weirgatelaw05_ClockIsSureOrNot.j1 kj5 bt355.2.2 false a0_0 a0_1 a1_0 a1_1 bt355.1 bt355.2.1))) else (weirgatelaw05_ClockIsSureOrNot.j1 kj5 bt355.2.2 true a0_0 a0_1 a1_0 a1_1 bt355.1 bt355.2.1))) else ((clock_From.f a0_0 a0_1 a2).bind fun t371 => (if t371 = true then ((clock_From.f a1_0 a1_1 a2).bind fun t372 => (weirgatelaw05_ClockIsSureOrNot.j1 kj5 bt355.2.2 (!t372) a0_0 a0_1 a1_0 a1_1 bt355.1 bt355.2.1)) else (weirgatelaw05_ClockIsSureOrNot.j1 kj5 bt355.2.2 false a0_0 a0_1 a1_0 a1_1 bt355.1 bt355.2.1)))))))) = some r := by rw [if_neg (show ¬ (false = true) by decide)] at H; exact H
        clear H
        have H := H1
        clear H1
        replace H := Option.bind_eq_some_iff.mp H
        obtain ⟨⟨t355, t356, t357⟩, A260, H⟩ := H
        replace H : ((clock_Before.f a1_0 a1_1 a2).bind fun t359 => (if t359 = true then ((clock_From.f a1_0 a1_1 a2).bind fun t360 => (if t360 = true then (weirgatelaw05_ClockIsSureOrNot.j1 kj5 t357 true a0_0 a0_1 a1_0 a1_1 t355 t356) else ((clock_Before.f a0_0 a0_1 a2).bind fun t361 => (if t361 = true then ((clock_Before.f a1_0 a1_1 a2).bind fun t362 => (if t362 = true then ((clock_From.f a0_0 a0_1 a2).bind fun t363 => (if t363 = true then ((clock_From.f a1_0 a1_1 a2).bind fun t364 => (weirgatelaw05_ClockIsSureOrNot.j1 kj5 t357 (!t364) a0_0 a0_1 a1_0 a1_1 t355 t356)) else (weirgatelaw05_ClockIsSureOrNot.j1 kj5 t357 false a0_0 a0_1 a1_0 a1_1 t355 t356))) else (weirgatelaw05_ClockIsSureOrNot.j1 kj5 t357 true a0_0 a0_1 a1_0 a1_1 t355 t356))) else ((clock_From.f a0_0 a0_1 a2).bind fun t365 => (if t365 = true then ((clock_From.f a1_0 a1_1 a2).bind fun t366 => (weirgatelaw05_ClockIsSureOrNot.j1 kj5 t357 (!t366) a0_0 a0_1 a1_0 a1_1 t355 t356)) else (weirgatelaw05_ClockIsSureOrNot.j1 kj5 t357 false a0_0 a0_1 a1_0 a1_1 t355 t356))))))) else ((clock_Before.f a0_0 a0_1 a2).bind fun t367 => (if t367 = true then ((clock_Before.f a1_0 a1_1 a2).bind fun t368 => (if t368 = true then ((clock_From.f a0_0 a0_1 a2).bind fun t369 => (if t369 = true then ((clock_From.f a1_0 a1_1 a2).bind fun t370 => (weirgatelaw05_ClockIsSureOrNot.j1 kj5 t357 (!t370) a0_0 a0_1 a1_0 a1_1 t355 t356)) else (weirgatelaw05_ClockIsSureOrNot.j1 kj5 t357 false a0_0 a0_1 a1_0 a1_1 t355 t356))) else (weirgatelaw05_ClockIsSureOrNot.j1 kj5 t357 true a0_0 a0_1 a1_0 a1_1 t355 t356))) else ((clock_From.f a0_0 a0_1 a2).bind fun t371 => (if t371 = true then ((clock_From.f a1_0 a1_1 a2).bind fun t372 => (weirgatelaw05_ClockIsSureOrNot.j1 kj5 t357 (!t372) a0_0 a0_1 a1_0 a1_1 t355 t356)) else (weirgatelaw05_ClockIsSureOrNot.j1 kj5 t357 false a0_0 a0_1 a1_0 a1_1 t355 t356))))))) = some r := H
        have A26 := Aside0.mk A260
        clear A260
        have HC27 := Aside0.mk H
        clear H
        have hnb28 := NB350_351.out
        have hnc28 := NB351_350.out
        have hcz29_0 : wc.cell? ⟨gb350, 0, none⟩ = some (.int .i64 a0_0) := (blk_cell BK350.out 0).trans rfl
        have hcz29_1 : wc.cell? ⟨gb350, 1, none⟩ = some (.int .i64 a0_1) := (blk_cell BK350.out 1).trans rfl
        have hfz29_0 := blk_frozen BK350.out 0
        have hfz29_1 := blk_frozen BK350.out 1
        have hcz30_0 : wc.cell? ⟨gb351, 0, none⟩ = some (.int .i64 a1_0) := (blk_cell BK351.out 0).trans rfl
        have hcz30_1 : wc.cell? ⟨gb351, 1, none⟩ = some (.int .i64 a1_1) := (blk_cell BK351.out 1).trans rfl
        have hfz30_0 := blk_frozen BK351.out 0
        have hfz30_1 := blk_frozen BK351.out 1
        go_upto_region 6 with (first | ((with_reducible refine gate_callee (f := 30) rfl ?_); refine goesL_ (some 39) rfl rfl Try.func30 (by kernel_rfl) rfl #[.agg #[.int .i64 a0_0, .int .i64 a0_1], .agg #[.int .i64 a1_0, .int .i64 a1_1]] rfl (by (try simp only [List.map_toArray, List.map_cons, List.map_nil]); first | done | rfl | (simp only [List.length_drop, List.length_take]; rfl)) ?_; (with_reducible refine (clock_Meet.calls a0_0 a0_1 a1_0 a1_1 t355 t356 t357 _ A26.out).mono ?_); rintro e w31 ⟨rfl, hb⟩; refine ⟨_, rfl, ?_⟩; have n0_ := Aside0.mk (blk_below (pk BK350.out) hb); have n1_ := Aside0.mk (blk_below (pk BK351.out) hb); have n2_ := Aside0.mk (below_step (bk HB.out) hb); clear BK350 BK351 HB; have BK350 := n0_; have BK351 := n1_; have HB := n2_; clear n0_ n1_ n2_; (try clear hb); (try clear hb2); (try clear hk); (try clear hi)) | ((with_reducible refine gate_dst (N := 9) rfl ?_); refine box_event ?hg (N := 9) ?hd (cs := #[.int .i64 0, .int .i64 0]) (t := 23) ?hr ?_; (case hd => rfl); (case hg => rfl); (case hr => first | (go_simp; done) | (go_simp; rfl)); intro gb358 hg w32 hbox hb; have n0_ := Aside0.mk (blk_below (pk BK350.out) hb); have n1_ := Aside0.mk (blk_below (pk BK351.out) hb); have n2_ := Aside0.mk (below_step (bk HB.out) hb); have n3_ := Aside0.mk (hbox); have n4_ := Aside0.mk ((by rw [hg]; exact (below_size (bk HB.out)) : w.heap.size ≤ gb358)); have n5_ := Aside0.mk ((by rw [hg]; exact (below_size (bk HB.out)) : w.heap.size ≤ gb358)); have n6_ := Aside0.mk ((by rw [hg]; exact Nat.ne_of_lt (blk_lt (g := gb350) (o := .cells #[.int .i64 a0_0, .int .i64 a0_1] 23 (0, 0)) (pk BK350.out)) : gb350 ≠ gb358)); have n7_ := Aside0.mk ((by rw [hg]; exact Nat.ne_of_gt (blk_lt (g := gb350) (o := .cells #[.int .i64 a0_0, .int .i64 a0_1] 23 (0, 0)) (pk BK350.out)) : gb358 ≠ gb350)); have n8_ := Aside0.mk ((by rw [hg]; exact Nat.ne_of_lt (blk_lt (g := gb351) (o := .cells #[.int .i64 a1_0, .int .i64 a1_1] 23 (0, 0)) (pk BK351.out)) : gb351 ≠ gb358)); have n9_ := Aside0.mk ((by rw [hg]; exact Nat.ne_of_gt (blk_lt (g := gb351) (o := .cells #[.int .i64 a1_0, .int .i64 a1_1] 23 (0, 0)) (pk BK351.out)) : gb358 ≠ gb351)); clear BK350 BK351 HB; have BK350 := n0_; have BK351 := n1_; have HB := n2_; have BK358 := n3_; have GW358 := n4_; have GE358 := n5_; have NB350_358 := n6_; have NB358_350 := n7_; have NB351_358 := n8_; have NB358_351 := n9_; clear n0_ n1_ n2_ n3_ n4_ n5_ n6_ n7_ n8_ n9_; clear hb hbox hg; have hnb33 := NB358_350.out; have hnc33 := NB350_358.out; have hnb34 := NB358_351.out; have hnc34 := NB351_358.out; have hcz35_0 : w32.cell? ⟨gb358, 0, none⟩ = some (.int .i64 0) := (blk_cell BK358.out 0).trans rfl; have hcz35_1 : w32.cell? ⟨gb358, 1, none⟩ = some (.int .i64 0) := (blk_cell BK358.out 1).trans rfl; have hfz35_0 := blk_frozen BK358.out 0; have hfz35_1 := blk_frozen BK358.out 1))
        (try simp only [Act.put, List.setIfInBounds_toArray, List.set_cons_zero, List.set_cons_succ])
        go_cut [71] (fun v71 wc => ∃ (kq : Nat) (x71_26 : Bool), v71 = .bool x71_26 ∧ Aside0 (weirgatelaw05_ClockIsSureOrNot.j1 kq t357 x71_26 a0_0 a0_1 a1_0 a1_1 t355 t356 = some r) ∧ Aside0 (kq ≤ kj5) ∧ Aside0 (wc.heap[gb350]? = some (.cells #[.int .i64 a0_0, .int .i64 a0_1] 23 (0, 0))) ∧ Aside0 (wc.heap[gb351]? = some (.cells #[.int .i64 a1_0, .int .i64 a1_1] 23 (0, 0))) ∧ Aside0 (wc.heap[gb358]? = some (.cells #[.int .i64 t355, .int .i64 t356] 23 (0, 0))) ∧ Aside0 (Below w.heap.size w wc))
        case first =>
          have H := HC27.out
          clear HC27
          replace H := Option.bind_eq_some_iff.mp H
          obtain ⟨t359, A360, H⟩ := H
          replace H : (if t359 = true then ((clock_From.f a1_0 a1_1 a2).bind fun t360 => (if t360 = true then (weirgatelaw05_ClockIsSureOrNot.j1 kj5 t357 true a0_0 a0_1 a1_0 a1_1 t355 t356) else ((clock_Before.f a0_0 a0_1 a2).bind fun t361 => (if t361 = true then ((clock_Before.f a1_0 a1_1 a2).bind fun t362 => (if t362 = true then ((clock_From.f a0_0 a0_1 a2).bind fun t363 => (if t363 = true then ((clock_From.f a1_0 a1_1 a2).bind fun t364 => (weirgatelaw05_ClockIsSureOrNot.j1 kj5 t357 (!t364) a0_0 a0_1 a1_0 a1_1 t355 t356)) else (weirgatelaw05_ClockIsSureOrNot.j1 kj5 t357 false a0_0 a0_1 a1_0 a1_1 t355 t356))) else (weirgatelaw05_ClockIsSureOrNot.j1 kj5 t357 true a0_0 a0_1 a1_0 a1_1 t355 t356))) else ((clock_From.f a0_0 a0_1 a2).bind fun t365 => (if t365 = true then ((clock_From.f a1_0 a1_1 a2).bind fun t366 => (weirgatelaw05_ClockIsSureOrNot.j1 kj5 t357 (!t366) a0_0 a0_1 a1_0 a1_1 t355 t356)) else (weirgatelaw05_ClockIsSureOrNot.j1 kj5 t357 false a0_0 a0_1 a1_0 a1_1 t355 t356))))))) else ((clock_Before.f a0_0 a0_1 a2).bind fun t367 => (if t367 = true then ((clock_Before.f a1_0 a1_1 a2).bind fun t368 => (if t368 = true then ((clock_From.f a0_0 a0_1 a2).bind fun t369 => (if t369 = true then ((clock_From.f a1_0 a1_1 a2).bind fun t370 => (weirgatelaw05_ClockIsSureOrNot.j1 kj5 t357 (!t370) a0_0 a0_1 a1_0 a1_1 t355 t356)) else (weirgatelaw05_ClockIsSureOrNot.j1 kj5 t357 false a0_0 a0_1 a1_0 a1_1 t355 t356))) else (weirgatelaw05_ClockIsSureOrNot.j1 kj5 t357 true a0_0 a0_1 a1_0 a1_1 t355 t356))) else ((clock_From.f a0_0 a0_1 a2).bind fun t371 => (if t371 = true then ((clock_From.f a1_0 a1_1 a2).bind fun t372 => (weirgatelaw05_ClockIsSureOrNot.j1 kj5 t357 (!t372) a0_0 a0_1 a1_0 a1_1 t355 t356)) else (weirgatelaw05_ClockIsSureOrNot.j1 kj5 t357 false a0_0 a0_1 a1_0 a1_1 t355 t356)))))) = some r := H
          have A36 := Aside0.mk A360
          clear A360
          by_cases c37 : t359 = true
          · subst c37
            have H1 : ((clock_From.f a1_0 a1_1 a2).bind fun t360 => (if t360 = true then (weirgatelaw05_ClockIsSureOrNot.j1 kj5 t357 true a0_0 a0_1 a1_0 a1_1 t355 t356) else ((clock_Before.f a0_0 a0_1 a2).bind fun t361 => (if t361 = true then ((clock_Before.f a1_0 a1_1 a2).bind fun t362 => (if t362 = true then ((clock_From.f a0_0 a0_1 a2).bind fun t363 => (if t363 = true then ((clock_From.f a1_0 a1_1 a2).bind fun t364 => (weirgatelaw05_ClockIsSureOrNot.j1 kj5 t357 (!t364) a0_0 a0_1 a1_0 a1_1 t355 t356)) else (weirgatelaw05_ClockIsSureOrNot.j1 kj5 t357 false a0_0 a0_1 a1_0 a1_1 t355 t356))) else (weirgatelaw05_ClockIsSureOrNot.j1 kj5 t357 true a0_0 a0_1 a1_0 a1_1 t355 t356))) else ((clock_From.f a0_0 a0_1 a2).bind fun t365 => (if t365 = true then ((clock_From.f a1_0 a1_1 a2).bind fun t366 => (weirgatelaw05_ClockIsSureOrNot.j1 kj5 t357 (!t366) a0_0 a0_1 a1_0 a1_1 t355 t356)) else (weirgatelaw05_ClockIsSureOrNot.j1 kj5 t357 false a0_0 a0_1 a1_0 a1_1 t355 t356))))))) = some r := by rw [if_pos rfl] at H; exact H
            clear H
            have H := H1
            clear H1
            replace H := Option.bind_eq_some_iff.mp H
            obtain ⟨t360, A380, H⟩ := H
            replace H : (if t360 = true then (weirgatelaw05_ClockIsSureOrNot.j1 kj5 t357 true a0_0 a0_1 a1_0 a1_1 t355 t356) else ((clock_Before.f a0_0 a0_1 a2).bind fun t361 => (if t361 = true then ((clock_Before.f a1_0 a1_1 a2).bind fun t362 => (if t362 = true then ((clock_From.f a0_0 a0_1 a2).bind fun t363 => (if t363 = true then ((clock_From.f a1_0 a1_1 a2).bind fun t364 => (weirgatelaw05_ClockIsSureOrNot.j1 kj5 t357 (!t364) a0_0 a0_1 a1_0 a1_1 t355 t356)) else (weirgatelaw05_ClockIsSureOrNot.j1 kj5 t357 false a0_0 a0_1 a1_0 a1_1 t355 t356))) else (weirgatelaw05_ClockIsSureOrNot.j1 kj5 t357 true a0_0 a0_1 a1_0 a1_1 t355 t356))) else ((clock_From.f a0_0 a0_1 a2).bind fun t365 => (if t365 = true then ((clock_From.f a1_0 a1_1 a2).bind fun t366 => (weirgatelaw05_ClockIsSureOrNot.j1 kj5 t357 (!t366) a0_0 a0_1 a1_0 a1_1 t355 t356)) else (weirgatelaw05_ClockIsSureOrNot.j1 kj5 t357 false a0_0 a0_1 a1_0 a1_1 t355 t356)))))) = some r := H
            have A38 := Aside0.mk A380
            clear A380
            by_cases c39 : t360 = true
            · subst c39
              have H1 : (weirgatelaw05_ClockIsSureOrNot.j1 kj5 t357 true a0_0 a0_1 a1_0 a1_1 t355 t356) = some r := by rw [if_pos rfl] at H; exact H
              clear H
              have H := H1
              clear H1
              have H' := Aside0.mk H
              clear H
              have hnb40 := NB351_350.out
              have hnc40 := NB350_351.out
              have hnb41 := NB351_358.out
              have hnc41 := NB358_351.out
              have hcz42_0 : w32.cell? ⟨gb351, 0, none⟩ = some (.int .i64 a1_0) := (blk_cell BK351.out 0).trans rfl
              have hcz42_1 : w32.cell? ⟨gb351, 1, none⟩ = some (.int .i64 a1_1) := (blk_cell BK351.out 1).trans rfl
              have hfz42_0 := blk_frozen BK351.out 0
              have hfz42_1 := blk_frozen BK351.out 1
              go_wp2_with (first | ((with_reducible refine gate_callee (f := 23) rfl ?_); refine goesL_ (some 44) rfl rfl Try.func23 (by kernel_rfl) rfl #[.agg #[.int .i64 a1_0, .int .i64 a1_1], .int .i64 a2] rfl (by (try simp only [List.map_toArray, List.map_cons, List.map_nil]); first | done | rfl | (simp only [List.length_drop, List.length_take]; rfl)) ?_; (with_reducible refine (clock_Before.calls a1_0 a1_1 a2 true _ A36.out).mono ?_); rintro e w43 ⟨rfl, hb⟩; refine ⟨_, rfl, ?_⟩; have n0_ := Aside0.mk (blk_below (g := gb350) (o := .cells #[.int .i64 a0_0, .int .i64 a0_1] 23 (0, 0)) (by refine pk ?_; refine blk_far ?_ NB350_358.out _; refine pk ?_; refine blk_far ?_ NB350_358.out _; refine pk ?_; exact BK350.out) hb); have n1_ := Aside0.mk (blk_below (g := gb351) (o := .cells #[.int .i64 a1_0, .int .i64 a1_1] 23 (0, 0)) (by refine pk ?_; refine blk_far ?_ NB351_358.out _; refine pk ?_; refine blk_far ?_ NB351_358.out _; refine pk ?_; exact BK351.out) hb); have n2_ := Aside0.mk (blk_below (g := gb358) (o := .cells #[.int .i64 t355, .int .i64 t356] 23 (0, 0)) (by refine pk ?_; refine blk_put (cs := #[.int .i64 t355, .int .i64 0]) ?_ 1 _ rfl; refine pk ?_; refine blk_put (cs := #[.int .i64 0, .int .i64 0]) ?_ 0 _ rfl; refine pk ?_; exact BK358.out) hb); have n3_ := Aside0.mk (below_step (bk HB.out) hb); clear BK350 BK351; clear BK358 HB; have BK350 := n0_; have BK351 := n1_; have BK358 := n2_; have HB := n3_; clear n0_ n1_ n2_ n3_; (try clear hb); (try clear hb2); (try clear hk); (try clear hi); have hcz44_0 : w43.cell? ⟨gb351, 0, none⟩ = some (.int .i64 a1_0) := (blk_cell BK351.out 0).trans rfl; have hcz44_1 : w43.cell? ⟨gb351, 1, none⟩ = some (.int .i64 a1_1) := (blk_cell BK351.out 1).trans rfl; have hfz44_0 := blk_frozen BK351.out 0; have hfz44_1 := blk_frozen BK351.out 1) | (go_at_call 31; (with_reducible refine (clock_From.calls a1_0 a1_1 a2 true _ A38.out).mono ?_); rintro e w45 ⟨rfl, hb⟩; have n0_ := Aside0.mk (blk_below (pk BK350.out) hb); have n1_ := Aside0.mk (blk_below (pk BK351.out) hb); have n2_ := Aside0.mk (blk_below (pk BK358.out) hb); have n3_ := Aside0.mk (below_step (bk HB.out) hb); clear BK350 BK351; clear BK358 HB; have BK350 := n0_; have BK351 := n1_; have BK358 := n2_; have HB := n3_; clear n0_ n1_ n2_ n3_; (try clear hb); (try clear hb2); (try clear hk); (try clear hi)))
              go_meet
              case rel => exact ⟨_, (true), (by first | rfl | (simp; done) | (simp [*]; done) | (simp only [show ∀ p : Prop, Aside0 p = p from fun p => propext ⟨Aside0.out, Aside0.mk⟩] at *; simp_all; done)), H', ⟨by have := HJ5.out; first | omega | exact Nat.le_refl _⟩, ⟨pk BK350.out⟩, ⟨pk BK351.out⟩, ⟨pk BK358.out⟩, ⟨bk HB.out⟩⟩
            · replace c39 := Bool.eq_false_iff.mpr c39
              subst c39
              have H1 : ((clock_Before.f a0_0 a0_1 a2).bind fun t361 => (if t361 = true then ((clock_Before.f a1_0 a1_1 a2).bind fun t362 => (if t362 = true then ((clock_From.f a0_0 a0_1 a2).bind fun t363 => (if t363 = true then ((clock_From.f a1_0 a1_1 a2).bind fun t364 => (weirgatelaw05_ClockIsSureOrNot.j1 kj5 t357 (!t364) a0_0 a0_1 a1_0 a1_1 t355 t356)) else (weirgatelaw05_ClockIsSureOrNot.j1 kj5 t357 false a0_0 a0_1 a1_0 a1_1 t355 t356))) else (weirgatelaw05_ClockIsSureOrNot.j1 kj5 t357 true a0_0 a0_1 a1_0 a1_1 t355 t356))) else ((clock_From.f a0_0 a0_1 a2).bind fun t365 => (if t365 = true then ((clock_From.f a1_0 a1_1 a2).bind fun t366 => (weirgatelaw05_ClockIsSureOrNot.j1 kj5 t357 (!t366) a0_0 a0_1 a1_0 a1_1 t355 t356)) else (weirgatelaw05_ClockIsSureOrNot.j1 kj5 t357 false a0_0 a0_1 a1_0 a1_1 t355 t356))))) = some r := by rw [if_neg (show ¬ (false = true) by decide)] at H; exact H
              clear H
              have H := H1
              clear H1
              replace H := Option.bind_eq_some_iff.mp H
              obtain ⟨t361, A460, H⟩ := H
              replace H : (if t361 = true then ((clock_Before.f a1_0 a1_1 a2).bind fun t362 => (if t362 = true then ((clock_From.f a0_0 a0_1 a2).bind fun t363 => (if t363 = true then ((clock_From.f a1_0 a1_1 a2).bind fun t364 => (weirgatelaw05_ClockIsSureOrNot.j1 kj5 t357 (!t364) a0_0 a0_1 a1_0 a1_1 t355 t356)) else (weirgatelaw05_ClockIsSureOrNot.j1 kj5 t357 false a0_0 a0_1 a1_0 a1_1 t355 t356))) else (weirgatelaw05_ClockIsSureOrNot.j1 kj5 t357 true a0_0 a0_1 a1_0 a1_1 t355 t356))) else ((clock_From.f a0_0 a0_1 a2).bind fun t365 => (if t365 = true then ((clock_From.f a1_0 a1_1 a2).bind fun t366 => (weirgatelaw05_ClockIsSureOrNot.j1 kj5 t357 (!t366) a0_0 a0_1 a1_0 a1_1 t355 t356)) else (weirgatelaw05_ClockIsSureOrNot.j1 kj5 t357 false a0_0 a0_1 a1_0 a1_1 t355 t356)))) = some r := H
              have A46 := Aside0.mk A460
              clear A460
              by_cases c47 : t361 = true
              · subst c47
                have H1 : ((clock_Before.f a1_0 a1_1 a2).bind fun t362 => (if t362 = true then ((clock_From.f a0_0 a0_1 a2).bind fun t363 => (if t363 = true then ((clock_From.f a1_0 a1_1 a2).bind fun t364 => (weirgatelaw05_ClockIsSureOrNot.j1 kj5 t357 (!t364) a0_0 a0_1 a1_0 a1_1 t355 t356)) else (weirgatelaw05_ClockIsSureOrNot.j1 kj5 t357 false a0_0 a0_1 a1_0 a1_1 t355 t356))) else (weirgatelaw05_ClockIsSureOrNot.j1 kj5 t357 true a0_0 a0_1 a1_0 a1_1 t355 t356))) = some r := by rw [if_pos rfl] at H; exact H
                clear H
                have H := H1
                clear H1
                replace H := Option.bind_eq_some_iff.mp H
                obtain ⟨t362, A480, H⟩ := H
                replace H : (if t362 = true then ((clock_From.f a0_0 a0_1 a2).bind fun t363 => (if t363 = true then ((clock_From.f a1_0 a1_1 a2).bind fun t364 => (weirgatelaw05_ClockIsSureOrNot.j1 kj5 t357 (!t364) a0_0 a0_1 a1_0 a1_1 t355 t356)) else (weirgatelaw05_ClockIsSureOrNot.j1 kj5 t357 false a0_0 a0_1 a1_0 a1_1 t355 t356))) else (weirgatelaw05_ClockIsSureOrNot.j1 kj5 t357 true a0_0 a0_1 a1_0 a1_1 t355 t356)) = some r := H
                have A48 := Aside0.mk A480
                clear A480
                by_cases c49 : t362 = true
                · subst c49
                  have H1 : ((clock_From.f a0_0 a0_1 a2).bind fun t363 => (if t363 = true then ((clock_From.f a1_0 a1_1 a2).bind fun t364 => (weirgatelaw05_ClockIsSureOrNot.j1 kj5 t357 (!t364) a0_0 a0_1 a1_0 a1_1 t355 t356)) else (weirgatelaw05_ClockIsSureOrNot.j1 kj5 t357 false a0_0 a0_1 a1_0 a1_1 t355 t356))) = some r := by rw [if_pos rfl] at H; exact H
                  clear H
                  have H := H1
                  clear H1
                  replace H := Option.bind_eq_some_iff.mp H
                  obtain ⟨t363, A500, H⟩ := H
                  replace H : (if t363 = true then ((clock_From.f a1_0 a1_1 a2).bind fun t364 => (weirgatelaw05_ClockIsSureOrNot.j1 kj5 t357 (!t364) a0_0 a0_1 a1_0 a1_1 t355 t356)) else (weirgatelaw05_ClockIsSureOrNot.j1 kj5 t357 false a0_0 a0_1 a1_0 a1_1 t355 t356)) = some r := H
                  have A50 := Aside0.mk A500
                  clear A500
                  by_cases c51 : t363 = true
                  · subst c51
                    have H1 : ((clock_From.f a1_0 a1_1 a2).bind fun t364 => (weirgatelaw05_ClockIsSureOrNot.j1 kj5 t357 (!t364) a0_0 a0_1 a1_0 a1_1 t355 t356)) = some r := by rw [if_pos rfl] at H; exact H
                    clear H
                    have H := H1
                    clear H1
                    replace H := Option.bind_eq_some_iff.mp H
                    obtain ⟨t364, A520, H⟩ := H
                    replace H : (weirgatelaw05_ClockIsSureOrNot.j1 kj5 t357 (!t364) a0_0 a0_1 a1_0 a1_1 t355 t356) = some r := H
                    have A52 := Aside0.mk A520
                    clear A520
                    have H' := Aside0.mk H
                    clear H
                    have hnb53 := NB351_350.out
                    have hnc53 := NB350_351.out
                    have hnb54 := NB351_358.out
                    have hnc54 := NB358_351.out
                    have hcz55_0 : w32.cell? ⟨gb351, 0, none⟩ = some (.int .i64 a1_0) := (blk_cell BK351.out 0).trans rfl
                    have hcz55_1 : w32.cell? ⟨gb351, 1, none⟩ = some (.int .i64 a1_1) := (blk_cell BK351.out 1).trans rfl
                    have hfz55_0 := blk_frozen BK351.out 0
                    have hfz55_1 := blk_frozen BK351.out 1
                    go_wp2_with (first | ((with_reducible refine gate_callee (f := 23) rfl ?_); refine goesL_ (some 44) rfl rfl Try.func23 (by kernel_rfl) rfl #[.agg #[.int .i64 a1_0, .int .i64 a1_1], .int .i64 a2] rfl (by (try simp only [List.map_toArray, List.map_cons, List.map_nil]); first | done | rfl | (simp only [List.length_drop, List.length_take]; rfl)) ?_; (with_reducible refine (clock_Before.calls a1_0 a1_1 a2 true _ A36.out).mono ?_); rintro e w56 ⟨rfl, hb⟩; refine ⟨_, rfl, ?_⟩; have n0_ := Aside0.mk (blk_below (g := gb350) (o := .cells #[.int .i64 a0_0, .int .i64 a0_1] 23 (0, 0)) (by refine pk ?_; refine blk_far ?_ NB350_358.out _; refine pk ?_; refine blk_far ?_ NB350_358.out _; refine pk ?_; exact BK350.out) hb); have n1_ := Aside0.mk (blk_below (g := gb351) (o := .cells #[.int .i64 a1_0, .int .i64 a1_1] 23 (0, 0)) (by refine pk ?_; refine blk_far ?_ NB351_358.out _; refine pk ?_; refine blk_far ?_ NB351_358.out _; refine pk ?_; exact BK351.out) hb); have n2_ := Aside0.mk (blk_below (g := gb358) (o := .cells #[.int .i64 t355, .int .i64 t356] 23 (0, 0)) (by refine pk ?_; refine blk_put (cs := #[.int .i64 t355, .int .i64 0]) ?_ 1 _ rfl; refine pk ?_; refine blk_put (cs := #[.int .i64 0, .int .i64 0]) ?_ 0 _ rfl; refine pk ?_; exact BK358.out) hb); have n3_ := Aside0.mk (below_step (bk HB.out) hb); clear BK350 BK351; clear BK358 HB; have BK350 := n0_; have BK351 := n1_; have BK358 := n2_; have HB := n3_; clear n0_ n1_ n2_ n3_; (try clear hb); (try clear hb2); (try clear hk); (try clear hi); have hcz57_0 : w56.cell? ⟨gb351, 0, none⟩ = some (.int .i64 a1_0) := (blk_cell BK351.out 0).trans rfl; have hcz57_1 : w56.cell? ⟨gb351, 1, none⟩ = some (.int .i64 a1_1) := (blk_cell BK351.out 1).trans rfl; have hfz57_0 := blk_frozen BK351.out 0; have hfz57_1 := blk_frozen BK351.out 1) | (go_at_call 31; (with_reducible refine (clock_From.calls a1_0 a1_1 a2 false _ A38.out).mono ?_); rintro e w58 ⟨rfl, hb⟩; have n0_ := Aside0.mk (blk_below (pk BK350.out) hb); have n1_ := Aside0.mk (blk_below (pk BK351.out) hb); have n2_ := Aside0.mk (blk_below (pk BK358.out) hb); have n3_ := Aside0.mk (below_step (bk HB.out) hb); clear BK350 BK351; clear BK358 HB; have BK350 := n0_; have BK351 := n1_; have BK358 := n2_; have HB := n3_; clear n0_ n1_ n2_ n3_; (try clear hb); (try clear hb2); (try clear hk); (try clear hi); have hnb59 := NB350_358.out; have hnc59 := NB358_350.out; have hcz60_0 : w58.cell? ⟨gb350, 0, none⟩ = some (.int .i64 a0_0) := (blk_cell BK350.out 0).trans rfl; have hcz60_1 : w58.cell? ⟨gb350, 1, none⟩ = some (.int .i64 a0_1) := (blk_cell BK350.out 1).trans rfl; have hfz60_0 := blk_frozen BK350.out 0; have hfz60_1 := blk_frozen BK350.out 1) | (go_at_call 23; (with_reducible refine (clock_Before.calls a0_0 a0_1 a2 true _ A46.out).mono ?_); rintro e w61 ⟨rfl, hb⟩; have n0_ := Aside0.mk (blk_below (pk BK350.out) hb); have n1_ := Aside0.mk (blk_below (pk BK351.out) hb); have n2_ := Aside0.mk (blk_below (pk BK358.out) hb); have n3_ := Aside0.mk (below_step (bk HB.out) hb); clear BK350 BK351; clear BK358 HB; have BK350 := n0_; have BK351 := n1_; have BK358 := n2_; have HB := n3_; clear n0_ n1_ n2_ n3_; (try clear hb); (try clear hb2); (try clear hk); (try clear hi); have hcz62_0 : w61.cell? ⟨gb351, 0, none⟩ = some (.int .i64 a1_0) := (blk_cell BK351.out 0).trans rfl; have hcz62_1 : w61.cell? ⟨gb351, 1, none⟩ = some (.int .i64 a1_1) := (blk_cell BK351.out 1).trans rfl; have hfz62_0 := blk_frozen BK351.out 0; have hfz62_1 := blk_frozen BK351.out 1) | (go_at_call 23; (with_reducible refine (clock_Before.calls a1_0 a1_1 a2 true _ A48.out).mono ?_); rintro e w63 ⟨rfl, hb⟩; have n0_ := Aside0.mk (blk_below (pk BK350.out) hb); have n1_ := Aside0.mk (blk_below (pk BK351.out) hb); have n2_ := Aside0.mk (blk_below (pk BK358.out) hb); have n3_ := Aside0.mk (below_step (bk HB.out) hb); clear BK350 BK351; clear BK358 HB; have BK350 := n0_; have BK351 := n1_; have BK358 := n2_; have HB := n3_; clear n0_ n1_ n2_ n3_; (try clear hb); (try clear hb2); (try clear hk); (try clear hi); have hcz64_0 : w63.cell? ⟨gb350, 0, none⟩ = some (.int .i64 a0_0) := (blk_cell BK350.out 0).trans rfl; have hcz64_1 : w63.cell? ⟨gb350, 1, none⟩ = some (.int .i64 a0_1) := (blk_cell BK350.out 1).trans rfl; have hfz64_0 := blk_frozen BK350.out 0; have hfz64_1 := blk_frozen BK350.out 1) | (go_at_call 31; (with_reducible refine (clock_From.calls a0_0 a0_1 a2 true _ A50.out).mono ?_); rintro e w65 ⟨rfl, hb⟩; have n0_ := Aside0.mk (blk_below (pk BK350.out) hb); have n1_ := Aside0.mk (blk_below (pk BK351.out) hb); have n2_ := Aside0.mk (blk_below (pk BK358.out) hb); have n3_ := Aside0.mk (below_step (bk HB.out) hb); clear BK350 BK351; clear BK358 HB; have BK350 := n0_; have BK351 := n1_; have BK358 := n2_; have HB := n3_; clear n0_ n1_ n2_ n3_; (try clear hb); (try clear hb2); (try clear hk); (try clear hi); have hcz66_0 : w65.cell? ⟨gb351, 0, none⟩ = some (.int .i64 a1_0) := (blk_cell BK351.out 0).trans rfl; have hcz66_1 : w65.cell? ⟨gb351, 1, none⟩ = some (.int .i64 a1_1) := (blk_cell BK351.out 1).trans rfl; have hfz66_0 := blk_frozen BK351.out 0; have hfz66_1 := blk_frozen BK351.out 1) | (go_at_call 31; (with_reducible refine (clock_From.calls a1_0 a1_1 a2 t364 _ A52.out).mono ?_); rintro e w67 ⟨rfl, hb⟩; have n0_ := Aside0.mk (blk_below (pk BK350.out) hb); have n1_ := Aside0.mk (blk_below (pk BK351.out) hb); have n2_ := Aside0.mk (blk_below (pk BK358.out) hb); have n3_ := Aside0.mk (below_step (bk HB.out) hb); clear BK350 BK351; clear BK358 HB; have BK350 := n0_; have BK351 := n1_; have BK358 := n2_; have HB := n3_; clear n0_ n1_ n2_ n3_; (try clear hb); (try clear hb2); (try clear hk); (try clear hi)))
                    go_meet
                    case rel => exact ⟨_, (!t364), (by first | rfl | (simp; done) | (simp [*]; done) | (simp only [show ∀ p : Prop, Aside0 p = p from fun p => propext ⟨Aside0.out, Aside0.mk⟩] at *; simp_all; done)), H', ⟨by have := HJ5.out; first | omega | exact Nat.le_refl _⟩, ⟨pk BK350.out⟩, ⟨pk BK351.out⟩, ⟨pk BK358.out⟩, ⟨bk HB.out⟩⟩
                  · replace c51 := Bool.eq_false_iff.mpr c51
                    subst c51
                    have H1 : (weirgatelaw05_ClockIsSureOrNot.j1 kj5 t357 false a0_0 a0_1 a1_0 a1_1 t355 t356) = some r := by rw [if_neg (show ¬ (false = true) by decide)] at H; exact H
                    clear H
                    have H := H1
                    clear H1
                    have H' := Aside0.mk H
                    clear H
                    have hnb68 := NB351_350.out
                    have hnc68 := NB350_351.out
                    have hnb69 := NB351_358.out
                    have hnc69 := NB358_351.out
                    have hcz70_0 : w32.cell? ⟨gb351, 0, none⟩ = some (.int .i64 a1_0) := (blk_cell BK351.out 0).trans rfl
                    have hcz70_1 : w32.cell? ⟨gb351, 1, none⟩ = some (.int .i64 a1_1) := (blk_cell BK351.out 1).trans rfl
                    have hfz70_0 := blk_frozen BK351.out 0
                    have hfz70_1 := blk_frozen BK351.out 1
                    go_wp2_with (first | ((with_reducible refine gate_callee (f := 23) rfl ?_); refine goesL_ (some 44) rfl rfl Try.func23 (by kernel_rfl) rfl #[.agg #[.int .i64 a1_0, .int .i64 a1_1], .int .i64 a2] rfl (by (try simp only [List.map_toArray, List.map_cons, List.map_nil]); first | done | rfl | (simp only [List.length_drop, List.length_take]; rfl)) ?_; (with_reducible refine (clock_Before.calls a1_0 a1_1 a2 true _ A36.out).mono ?_); rintro e w71 ⟨rfl, hb⟩; refine ⟨_, rfl, ?_⟩; have n0_ := Aside0.mk (blk_below (g := gb350) (o := .cells #[.int .i64 a0_0, .int .i64 a0_1] 23 (0, 0)) (by refine pk ?_; refine blk_far ?_ NB350_358.out _; refine pk ?_; refine blk_far ?_ NB350_358.out _; refine pk ?_; exact BK350.out) hb); have n1_ := Aside0.mk (blk_below (g := gb351) (o := .cells #[.int .i64 a1_0, .int .i64 a1_1] 23 (0, 0)) (by refine pk ?_; refine blk_far ?_ NB351_358.out _; refine pk ?_; refine blk_far ?_ NB351_358.out _; refine pk ?_; exact BK351.out) hb); have n2_ := Aside0.mk (blk_below (g := gb358) (o := .cells #[.int .i64 t355, .int .i64 t356] 23 (0, 0)) (by refine pk ?_; refine blk_put (cs := #[.int .i64 t355, .int .i64 0]) ?_ 1 _ rfl; refine pk ?_; refine blk_put (cs := #[.int .i64 0, .int .i64 0]) ?_ 0 _ rfl; refine pk ?_; exact BK358.out) hb); have n3_ := Aside0.mk (below_step (bk HB.out) hb); clear BK350 BK351; clear BK358 HB; have BK350 := n0_; have BK351 := n1_; have BK358 := n2_; have HB := n3_; clear n0_ n1_ n2_ n3_; (try clear hb); (try clear hb2); (try clear hk); (try clear hi); have hcz72_0 : w71.cell? ⟨gb351, 0, none⟩ = some (.int .i64 a1_0) := (blk_cell BK351.out 0).trans rfl; have hcz72_1 : w71.cell? ⟨gb351, 1, none⟩ = some (.int .i64 a1_1) := (blk_cell BK351.out 1).trans rfl; have hfz72_0 := blk_frozen BK351.out 0; have hfz72_1 := blk_frozen BK351.out 1) | (go_at_call 31; (with_reducible refine (clock_From.calls a1_0 a1_1 a2 false _ A38.out).mono ?_); rintro e w73 ⟨rfl, hb⟩; have n0_ := Aside0.mk (blk_below (pk BK350.out) hb); have n1_ := Aside0.mk (blk_below (pk BK351.out) hb); have n2_ := Aside0.mk (blk_below (pk BK358.out) hb); have n3_ := Aside0.mk (below_step (bk HB.out) hb); clear BK350 BK351; clear BK358 HB; have BK350 := n0_; have BK351 := n1_; have BK358 := n2_; have HB := n3_; clear n0_ n1_ n2_ n3_; (try clear hb); (try clear hb2); (try clear hk); (try clear hi); have hnb74 := NB350_358.out; have hnc74 := NB358_350.out; have hcz75_0 : w73.cell? ⟨gb350, 0, none⟩ = some (.int .i64 a0_0) := (blk_cell BK350.out 0).trans rfl; have hcz75_1 : w73.cell? ⟨gb350, 1, none⟩ = some (.int .i64 a0_1) := (blk_cell BK350.out 1).trans rfl; have hfz75_0 := blk_frozen BK350.out 0; have hfz75_1 := blk_frozen BK350.out 1) | (go_at_call 23; (with_reducible refine (clock_Before.calls a0_0 a0_1 a2 true _ A46.out).mono ?_); rintro e w76 ⟨rfl, hb⟩; have n0_ := Aside0.mk (blk_below (pk BK350.out) hb); have n1_ := Aside0.mk (blk_below (pk BK351.out) hb); have n2_ := Aside0.mk (blk_below (pk BK358.out) hb); have n3_ := Aside0.mk (below_step (bk HB.out) hb); clear BK350 BK351; clear BK358 HB; have BK350 := n0_; have BK351 := n1_; have BK358 := n2_; have HB := n3_; clear n0_ n1_ n2_ n3_; (try clear hb); (try clear hb2); (try clear hk); (try clear hi); have hcz77_0 : w76.cell? ⟨gb351, 0, none⟩ = some (.int .i64 a1_0) := (blk_cell BK351.out 0).trans rfl; have hcz77_1 : w76.cell? ⟨gb351, 1, none⟩ = some (.int .i64 a1_1) := (blk_cell BK351.out 1).trans rfl; have hfz77_0 := blk_frozen BK351.out 0; have hfz77_1 := blk_frozen BK351.out 1) | (go_at_call 23; (with_reducible refine (clock_Before.calls a1_0 a1_1 a2 true _ A48.out).mono ?_); rintro e w78 ⟨rfl, hb⟩; have n0_ := Aside0.mk (blk_below (pk BK350.out) hb); have n1_ := Aside0.mk (blk_below (pk BK351.out) hb); have n2_ := Aside0.mk (blk_below (pk BK358.out) hb); have n3_ := Aside0.mk (below_step (bk HB.out) hb); clear BK350 BK351; clear BK358 HB; have BK350 := n0_; have BK351 := n1_; have BK358 := n2_; have HB := n3_; clear n0_ n1_ n2_ n3_; (try clear hb); (try clear hb2); (try clear hk); (try clear hi); have hcz79_0 : w78.cell? ⟨gb350, 0, none⟩ = some (.int .i64 a0_0) := (blk_cell BK350.out 0).trans rfl; have hcz79_1 : w78.cell? ⟨gb350, 1, none⟩ = some (.int .i64 a0_1) := (blk_cell BK350.out 1).trans rfl; have hfz79_0 := blk_frozen BK350.out 0; have hfz79_1 := blk_frozen BK350.out 1) | (go_at_call 31; (with_reducible refine (clock_From.calls a0_0 a0_1 a2 false _ A50.out).mono ?_); rintro e w80 ⟨rfl, hb⟩; have n0_ := Aside0.mk (blk_below (pk BK350.out) hb); have n1_ := Aside0.mk (blk_below (pk BK351.out) hb); have n2_ := Aside0.mk (blk_below (pk BK358.out) hb); have n3_ := Aside0.mk (below_step (bk HB.out) hb); clear BK350 BK351; clear BK358 HB; have BK350 := n0_; have BK351 := n1_; have BK358 := n2_; have HB := n3_; clear n0_ n1_ n2_ n3_; (try clear hb); (try clear hb2); (try clear hk); (try clear hi)))
                    go_meet
                    case rel => exact ⟨_, (false), (by first | rfl | (simp; done) | (simp [*]; done) | (simp only [show ∀ p : Prop, Aside0 p = p from fun p => propext ⟨Aside0.out, Aside0.mk⟩] at *; simp_all; done)), H', ⟨by have := HJ5.out; first | omega | exact Nat.le_refl _⟩, ⟨pk BK350.out⟩, ⟨pk BK351.out⟩, ⟨pk BK358.out⟩, ⟨bk HB.out⟩⟩
                · replace c49 := Bool.eq_false_iff.mpr c49
                  subst c49
                  have H1 : (weirgatelaw05_ClockIsSureOrNot.j1 kj5 t357 true a0_0 a0_1 a1_0 a1_1 t355 t356) = some r := by rw [if_neg (show ¬ (false = true) by decide)] at H; exact H
                  clear H
                  have H := H1
                  clear H1
                  have H' := Aside0.mk H
                  clear H
                  have hnb81 := NB351_350.out
                  have hnc81 := NB350_351.out
                  have hnb82 := NB351_358.out
                  have hnc82 := NB358_351.out
                  have hcz83_0 : w32.cell? ⟨gb351, 0, none⟩ = some (.int .i64 a1_0) := (blk_cell BK351.out 0).trans rfl
                  have hcz83_1 : w32.cell? ⟨gb351, 1, none⟩ = some (.int .i64 a1_1) := (blk_cell BK351.out 1).trans rfl
                  have hfz83_0 := blk_frozen BK351.out 0
                  have hfz83_1 := blk_frozen BK351.out 1
                  go_wp2_with (first | ((with_reducible refine gate_callee (f := 23) rfl ?_); refine goesL_ (some 44) rfl rfl Try.func23 (by kernel_rfl) rfl #[.agg #[.int .i64 a1_0, .int .i64 a1_1], .int .i64 a2] rfl (by (try simp only [List.map_toArray, List.map_cons, List.map_nil]); first | done | rfl | (simp only [List.length_drop, List.length_take]; rfl)) ?_; (with_reducible refine (clock_Before.calls a1_0 a1_1 a2 true _ A36.out).mono ?_); rintro e w84 ⟨rfl, hb⟩; refine ⟨_, rfl, ?_⟩; have n0_ := Aside0.mk (blk_below (g := gb350) (o := .cells #[.int .i64 a0_0, .int .i64 a0_1] 23 (0, 0)) (by refine pk ?_; refine blk_far ?_ NB350_358.out _; refine pk ?_; refine blk_far ?_ NB350_358.out _; refine pk ?_; exact BK350.out) hb); have n1_ := Aside0.mk (blk_below (g := gb351) (o := .cells #[.int .i64 a1_0, .int .i64 a1_1] 23 (0, 0)) (by refine pk ?_; refine blk_far ?_ NB351_358.out _; refine pk ?_; refine blk_far ?_ NB351_358.out _; refine pk ?_; exact BK351.out) hb); have n2_ := Aside0.mk (blk_below (g := gb358) (o := .cells #[.int .i64 t355, .int .i64 t356] 23 (0, 0)) (by refine pk ?_; refine blk_put (cs := #[.int .i64 t355, .int .i64 0]) ?_ 1 _ rfl; refine pk ?_; refine blk_put (cs := #[.int .i64 0, .int .i64 0]) ?_ 0 _ rfl; refine pk ?_; exact BK358.out) hb); have n3_ := Aside0.mk (below_step (bk HB.out) hb); clear BK350 BK351; clear BK358 HB; have BK350 := n0_; have BK351 := n1_; have BK358 := n2_; have HB := n3_; clear n0_ n1_ n2_ n3_; (try clear hb); (try clear hb2); (try clear hk); (try clear hi); have hcz85_0 : w84.cell? ⟨gb351, 0, none⟩ = some (.int .i64 a1_0) := (blk_cell BK351.out 0).trans rfl; have hcz85_1 : w84.cell? ⟨gb351, 1, none⟩ = some (.int .i64 a1_1) := (blk_cell BK351.out 1).trans rfl; have hfz85_0 := blk_frozen BK351.out 0; have hfz85_1 := blk_frozen BK351.out 1) | (go_at_call 31; (with_reducible refine (clock_From.calls a1_0 a1_1 a2 false _ A38.out).mono ?_); rintro e w86 ⟨rfl, hb⟩; have n0_ := Aside0.mk (blk_below (pk BK350.out) hb); have n1_ := Aside0.mk (blk_below (pk BK351.out) hb); have n2_ := Aside0.mk (blk_below (pk BK358.out) hb); have n3_ := Aside0.mk (below_step (bk HB.out) hb); clear BK350 BK351; clear BK358 HB; have BK350 := n0_; have BK351 := n1_; have BK358 := n2_; have HB := n3_; clear n0_ n1_ n2_ n3_; (try clear hb); (try clear hb2); (try clear hk); (try clear hi); have hnb87 := NB350_358.out; have hnc87 := NB358_350.out; have hcz88_0 : w86.cell? ⟨gb350, 0, none⟩ = some (.int .i64 a0_0) := (blk_cell BK350.out 0).trans rfl; have hcz88_1 : w86.cell? ⟨gb350, 1, none⟩ = some (.int .i64 a0_1) := (blk_cell BK350.out 1).trans rfl; have hfz88_0 := blk_frozen BK350.out 0; have hfz88_1 := blk_frozen BK350.out 1) | (go_at_call 23; (with_reducible refine (clock_Before.calls a0_0 a0_1 a2 true _ A46.out).mono ?_); rintro e w89 ⟨rfl, hb⟩; have n0_ := Aside0.mk (blk_below (pk BK350.out) hb); have n1_ := Aside0.mk (blk_below (pk BK351.out) hb); have n2_ := Aside0.mk (blk_below (pk BK358.out) hb); have n3_ := Aside0.mk (below_step (bk HB.out) hb); clear BK350 BK351; clear BK358 HB; have BK350 := n0_; have BK351 := n1_; have BK358 := n2_; have HB := n3_; clear n0_ n1_ n2_ n3_; (try clear hb); (try clear hb2); (try clear hk); (try clear hi); have hcz90_0 : w89.cell? ⟨gb351, 0, none⟩ = some (.int .i64 a1_0) := (blk_cell BK351.out 0).trans rfl; have hcz90_1 : w89.cell? ⟨gb351, 1, none⟩ = some (.int .i64 a1_1) := (blk_cell BK351.out 1).trans rfl; have hfz90_0 := blk_frozen BK351.out 0; have hfz90_1 := blk_frozen BK351.out 1) | (go_at_call 23; (with_reducible refine (clock_Before.calls a1_0 a1_1 a2 false _ A48.out).mono ?_); rintro e w91 ⟨rfl, hb⟩; have n0_ := Aside0.mk (blk_below (pk BK350.out) hb); have n1_ := Aside0.mk (blk_below (pk BK351.out) hb); have n2_ := Aside0.mk (blk_below (pk BK358.out) hb); have n3_ := Aside0.mk (below_step (bk HB.out) hb); clear BK350 BK351; clear BK358 HB; have BK350 := n0_; have BK351 := n1_; have BK358 := n2_; have HB := n3_; clear n0_ n1_ n2_ n3_; (try clear hb); (try clear hb2); (try clear hk); (try clear hi)))
                  go_meet
                  case rel => exact ⟨_, (true), (by first | rfl | (simp; done) | (simp [*]; done) | (simp only [show ∀ p : Prop, Aside0 p = p from fun p => propext ⟨Aside0.out, Aside0.mk⟩] at *; simp_all; done)), H', ⟨by have := HJ5.out; first | omega | exact Nat.le_refl _⟩, ⟨pk BK350.out⟩, ⟨pk BK351.out⟩, ⟨pk BK358.out⟩, ⟨bk HB.out⟩⟩
              · replace c47 := Bool.eq_false_iff.mpr c47
                subst c47
                have H1 : ((clock_From.f a0_0 a0_1 a2).bind fun t365 => (if t365 = true then ((clock_From.f a1_0 a1_1 a2).bind fun t366 => (weirgatelaw05_ClockIsSureOrNot.j1 kj5 t357 (!t366) a0_0 a0_1 a1_0 a1_1 t355 t356)) else (weirgatelaw05_ClockIsSureOrNot.j1 kj5 t357 false a0_0 a0_1 a1_0 a1_1 t355 t356))) = some r := by rw [if_neg (show ¬ (false = true) by decide)] at H; exact H
                clear H
                have H := H1
                clear H1
                replace H := Option.bind_eq_some_iff.mp H
                obtain ⟨t365, A920, H⟩ := H
                replace H : (if t365 = true then ((clock_From.f a1_0 a1_1 a2).bind fun t366 => (weirgatelaw05_ClockIsSureOrNot.j1 kj5 t357 (!t366) a0_0 a0_1 a1_0 a1_1 t355 t356)) else (weirgatelaw05_ClockIsSureOrNot.j1 kj5 t357 false a0_0 a0_1 a1_0 a1_1 t355 t356)) = some r := H
                have A92 := Aside0.mk A920
                clear A920
                by_cases c93 : t365 = true
                · subst c93
                  have H1 : ((clock_From.f a1_0 a1_1 a2).bind fun t366 => (weirgatelaw05_ClockIsSureOrNot.j1 kj5 t357 (!t366) a0_0 a0_1 a1_0 a1_1 t355 t356)) = some r := by rw [if_pos rfl] at H; exact H
                  clear H
                  have H := H1
                  clear H1
                  replace H := Option.bind_eq_some_iff.mp H
                  obtain ⟨t366, A940, H⟩ := H
                  replace H : (weirgatelaw05_ClockIsSureOrNot.j1 kj5 t357 (!t366) a0_0 a0_1 a1_0 a1_1 t355 t356) = some r := H
                  have A94 := Aside0.mk A940
                  clear A940
                  have H' := Aside0.mk H
                  clear H
                  have hnb95 := NB351_350.out
                  have hnc95 := NB350_351.out
                  have hnb96 := NB351_358.out
                  have hnc96 := NB358_351.out
                  have hcz97_0 : w32.cell? ⟨gb351, 0, none⟩ = some (.int .i64 a1_0) := (blk_cell BK351.out 0).trans rfl
                  have hcz97_1 : w32.cell? ⟨gb351, 1, none⟩ = some (.int .i64 a1_1) := (blk_cell BK351.out 1).trans rfl
                  have hfz97_0 := blk_frozen BK351.out 0
                  have hfz97_1 := blk_frozen BK351.out 1
                  go_wp2_with (first | ((with_reducible refine gate_callee (f := 23) rfl ?_); refine goesL_ (some 44) rfl rfl Try.func23 (by kernel_rfl) rfl #[.agg #[.int .i64 a1_0, .int .i64 a1_1], .int .i64 a2] rfl (by (try simp only [List.map_toArray, List.map_cons, List.map_nil]); first | done | rfl | (simp only [List.length_drop, List.length_take]; rfl)) ?_; (with_reducible refine (clock_Before.calls a1_0 a1_1 a2 true _ A36.out).mono ?_); rintro e w98 ⟨rfl, hb⟩; refine ⟨_, rfl, ?_⟩; have n0_ := Aside0.mk (blk_below (g := gb350) (o := .cells #[.int .i64 a0_0, .int .i64 a0_1] 23 (0, 0)) (by refine pk ?_; refine blk_far ?_ NB350_358.out _; refine pk ?_; refine blk_far ?_ NB350_358.out _; refine pk ?_; exact BK350.out) hb); have n1_ := Aside0.mk (blk_below (g := gb351) (o := .cells #[.int .i64 a1_0, .int .i64 a1_1] 23 (0, 0)) (by refine pk ?_; refine blk_far ?_ NB351_358.out _; refine pk ?_; refine blk_far ?_ NB351_358.out _; refine pk ?_; exact BK351.out) hb); have n2_ := Aside0.mk (blk_below (g := gb358) (o := .cells #[.int .i64 t355, .int .i64 t356] 23 (0, 0)) (by refine pk ?_; refine blk_put (cs := #[.int .i64 t355, .int .i64 0]) ?_ 1 _ rfl; refine pk ?_; refine blk_put (cs := #[.int .i64 0, .int .i64 0]) ?_ 0 _ rfl; refine pk ?_; exact BK358.out) hb); have n3_ := Aside0.mk (below_step (bk HB.out) hb); clear BK350 BK351; clear BK358 HB; have BK350 := n0_; have BK351 := n1_; have BK358 := n2_; have HB := n3_; clear n0_ n1_ n2_ n3_; (try clear hb); (try clear hb2); (try clear hk); (try clear hi); have hcz99_0 : w98.cell? ⟨gb351, 0, none⟩ = some (.int .i64 a1_0) := (blk_cell BK351.out 0).trans rfl; have hcz99_1 : w98.cell? ⟨gb351, 1, none⟩ = some (.int .i64 a1_1) := (blk_cell BK351.out 1).trans rfl; have hfz99_0 := blk_frozen BK351.out 0; have hfz99_1 := blk_frozen BK351.out 1) | (go_at_call 31; (with_reducible refine (clock_From.calls a1_0 a1_1 a2 false _ A38.out).mono ?_); rintro e w100 ⟨rfl, hb⟩; have n0_ := Aside0.mk (blk_below (pk BK350.out) hb); have n1_ := Aside0.mk (blk_below (pk BK351.out) hb); have n2_ := Aside0.mk (blk_below (pk BK358.out) hb); have n3_ := Aside0.mk (below_step (bk HB.out) hb); clear BK350 BK351; clear BK358 HB; have BK350 := n0_; have BK351 := n1_; have BK358 := n2_; have HB := n3_; clear n0_ n1_ n2_ n3_; (try clear hb); (try clear hb2); (try clear hk); (try clear hi); have hnb101 := NB350_358.out; have hnc101 := NB358_350.out; have hcz102_0 : w100.cell? ⟨gb350, 0, none⟩ = some (.int .i64 a0_0) := (blk_cell BK350.out 0).trans rfl; have hcz102_1 : w100.cell? ⟨gb350, 1, none⟩ = some (.int .i64 a0_1) := (blk_cell BK350.out 1).trans rfl; have hfz102_0 := blk_frozen BK350.out 0; have hfz102_1 := blk_frozen BK350.out 1) | (go_at_call 23; (with_reducible refine (clock_Before.calls a0_0 a0_1 a2 false _ A46.out).mono ?_); rintro e w103 ⟨rfl, hb⟩; have n0_ := Aside0.mk (blk_below (pk BK350.out) hb); have n1_ := Aside0.mk (blk_below (pk BK351.out) hb); have n2_ := Aside0.mk (blk_below (pk BK358.out) hb); have n3_ := Aside0.mk (below_step (bk HB.out) hb); clear BK350 BK351; clear BK358 HB; have BK350 := n0_; have BK351 := n1_; have BK358 := n2_; have HB := n3_; clear n0_ n1_ n2_ n3_; (try clear hb); (try clear hb2); (try clear hk); (try clear hi); have hcz104_0 : w103.cell? ⟨gb350, 0, none⟩ = some (.int .i64 a0_0) := (blk_cell BK350.out 0).trans rfl; have hcz104_1 : w103.cell? ⟨gb350, 1, none⟩ = some (.int .i64 a0_1) := (blk_cell BK350.out 1).trans rfl; have hfz104_0 := blk_frozen BK350.out 0; have hfz104_1 := blk_frozen BK350.out 1) | (go_at_call 31; (with_reducible refine (clock_From.calls a0_0 a0_1 a2 true _ A92.out).mono ?_); rintro e w105 ⟨rfl, hb⟩; have n0_ := Aside0.mk (blk_below (pk BK350.out) hb); have n1_ := Aside0.mk (blk_below (pk BK351.out) hb); have n2_ := Aside0.mk (blk_below (pk BK358.out) hb); have n3_ := Aside0.mk (below_step (bk HB.out) hb); clear BK350 BK351; clear BK358 HB; have BK350 := n0_; have BK351 := n1_; have BK358 := n2_; have HB := n3_; clear n0_ n1_ n2_ n3_; (try clear hb); (try clear hb2); (try clear hk); (try clear hi); have hcz106_0 : w105.cell? ⟨gb351, 0, none⟩ = some (.int .i64 a1_0) := (blk_cell BK351.out 0).trans rfl; have hcz106_1 : w105.cell? ⟨gb351, 1, none⟩ = some (.int .i64 a1_1) := (blk_cell BK351.out 1).trans rfl; have hfz106_0 := blk_frozen BK351.out 0; have hfz106_1 := blk_frozen BK351.out 1) | (go_at_call 31; (with_reducible refine (clock_From.calls a1_0 a1_1 a2 t366 _ A94.out).mono ?_); rintro e w107 ⟨rfl, hb⟩; have n0_ := Aside0.mk (blk_below (pk BK350.out) hb); have n1_ := Aside0.mk (blk_below (pk BK351.out) hb); have n2_ := Aside0.mk (blk_below (pk BK358.out) hb); have n3_ := Aside0.mk (below_step (bk HB.out) hb); clear BK350 BK351; clear BK358 HB; have BK350 := n0_; have BK351 := n1_; have BK358 := n2_; have HB := n3_; clear n0_ n1_ n2_ n3_; (try clear hb); (try clear hb2); (try clear hk); (try clear hi)))
                  go_meet
                  case rel => exact ⟨_, (!t366), (by first | rfl | (simp; done) | (simp [*]; done) | (simp only [show ∀ p : Prop, Aside0 p = p from fun p => propext ⟨Aside0.out, Aside0.mk⟩] at *; simp_all; done)), H', ⟨by have := HJ5.out; first | omega | exact Nat.le_refl _⟩, ⟨pk BK350.out⟩, ⟨pk BK351.out⟩, ⟨pk BK358.out⟩, ⟨bk HB.out⟩⟩
                · replace c93 := Bool.eq_false_iff.mpr c93
                  subst c93
                  have H1 : (weirgatelaw05_ClockIsSureOrNot.j1 kj5 t357 false a0_0 a0_1 a1_0 a1_1 t355 t356) = some r := by rw [if_neg (show ¬ (false = true) by decide)] at H; exact H
                  clear H
                  have H := H1
                  clear H1
                  have H' := Aside0.mk H
                  clear H
                  have hnb108 := NB351_350.out
                  have hnc108 := NB350_351.out
                  have hnb109 := NB351_358.out
                  have hnc109 := NB358_351.out
                  have hcz110_0 : w32.cell? ⟨gb351, 0, none⟩ = some (.int .i64 a1_0) := (blk_cell BK351.out 0).trans rfl
                  have hcz110_1 : w32.cell? ⟨gb351, 1, none⟩ = some (.int .i64 a1_1) := (blk_cell BK351.out 1).trans rfl
                  have hfz110_0 := blk_frozen BK351.out 0
                  have hfz110_1 := blk_frozen BK351.out 1
                  go_wp2_with (first | ((with_reducible refine gate_callee (f := 23) rfl ?_); refine goesL_ (some 44) rfl rfl Try.func23 (by kernel_rfl) rfl #[.agg #[.int .i64 a1_0, .int .i64 a1_1], .int .i64 a2] rfl (by (try simp only [List.map_toArray, List.map_cons, List.map_nil]); first | done | rfl | (simp only [List.length_drop, List.length_take]; rfl)) ?_; (with_reducible refine (clock_Before.calls a1_0 a1_1 a2 true _ A36.out).mono ?_); rintro e w111 ⟨rfl, hb⟩; refine ⟨_, rfl, ?_⟩; have n0_ := Aside0.mk (blk_below (g := gb350) (o := .cells #[.int .i64 a0_0, .int .i64 a0_1] 23 (0, 0)) (by refine pk ?_; refine blk_far ?_ NB350_358.out _; refine pk ?_; refine blk_far ?_ NB350_358.out _; refine pk ?_; exact BK350.out) hb); have n1_ := Aside0.mk (blk_below (g := gb351) (o := .cells #[.int .i64 a1_0, .int .i64 a1_1] 23 (0, 0)) (by refine pk ?_; refine blk_far ?_ NB351_358.out _; refine pk ?_; refine blk_far ?_ NB351_358.out _; refine pk ?_; exact BK351.out) hb); have n2_ := Aside0.mk (blk_below (g := gb358) (o := .cells #[.int .i64 t355, .int .i64 t356] 23 (0, 0)) (by refine pk ?_; refine blk_put (cs := #[.int .i64 t355, .int .i64 0]) ?_ 1 _ rfl; refine pk ?_; refine blk_put (cs := #[.int .i64 0, .int .i64 0]) ?_ 0 _ rfl; refine pk ?_; exact BK358.out) hb); have n3_ := Aside0.mk (below_step (bk HB.out) hb); clear BK350 BK351; clear BK358 HB; have BK350 := n0_; have BK351 := n1_; have BK358 := n2_; have HB := n3_; clear n0_ n1_ n2_ n3_; (try clear hb); (try clear hb2); (try clear hk); (try clear hi); have hcz112_0 : w111.cell? ⟨gb351, 0, none⟩ = some (.int .i64 a1_0) := (blk_cell BK351.out 0).trans rfl; have hcz112_1 : w111.cell? ⟨gb351, 1, none⟩ = some (.int .i64 a1_1) := (blk_cell BK351.out 1).trans rfl; have hfz112_0 := blk_frozen BK351.out 0; have hfz112_1 := blk_frozen BK351.out 1) | (go_at_call 31; (with_reducible refine (clock_From.calls a1_0 a1_1 a2 false _ A38.out).mono ?_); rintro e w113 ⟨rfl, hb⟩; have n0_ := Aside0.mk (blk_below (pk BK350.out) hb); have n1_ := Aside0.mk (blk_below (pk BK351.out) hb); have n2_ := Aside0.mk (blk_below (pk BK358.out) hb); have n3_ := Aside0.mk (below_step (bk HB.out) hb); clear BK350 BK351; clear BK358 HB; have BK350 := n0_; have BK351 := n1_; have BK358 := n2_; have HB := n3_; clear n0_ n1_ n2_ n3_; (try clear hb); (try clear hb2); (try clear hk); (try clear hi); have hnb114 := NB350_358.out; have hnc114 := NB358_350.out; have hcz115_0 : w113.cell? ⟨gb350, 0, none⟩ = some (.int .i64 a0_0) := (blk_cell BK350.out 0).trans rfl; have hcz115_1 : w113.cell? ⟨gb350, 1, none⟩ = some (.int .i64 a0_1) := (blk_cell BK350.out 1).trans rfl; have hfz115_0 := blk_frozen BK350.out 0; have hfz115_1 := blk_frozen BK350.out 1) | (go_at_call 23; (with_reducible refine (clock_Before.calls a0_0 a0_1 a2 false _ A46.out).mono ?_); rintro e w116 ⟨rfl, hb⟩; have n0_ := Aside0.mk (blk_below (pk BK350.out) hb); have n1_ := Aside0.mk (blk_below (pk BK351.out) hb); have n2_ := Aside0.mk (blk_below (pk BK358.out) hb); have n3_ := Aside0.mk (below_step (bk HB.out) hb); clear BK350 BK351; clear BK358 HB; have BK350 := n0_; have BK351 := n1_; have BK358 := n2_; have HB := n3_; clear n0_ n1_ n2_ n3_; (try clear hb); (try clear hb2); (try clear hk); (try clear hi); have hcz117_0 : w116.cell? ⟨gb350, 0, none⟩ = some (.int .i64 a0_0) := (blk_cell BK350.out 0).trans rfl; have hcz117_1 : w116.cell? ⟨gb350, 1, none⟩ = some (.int .i64 a0_1) := (blk_cell BK350.out 1).trans rfl; have hfz117_0 := blk_frozen BK350.out 0; have hfz117_1 := blk_frozen BK350.out 1) | (go_at_call 31; (with_reducible refine (clock_From.calls a0_0 a0_1 a2 false _ A92.out).mono ?_); rintro e w118 ⟨rfl, hb⟩; have n0_ := Aside0.mk (blk_below (pk BK350.out) hb); have n1_ := Aside0.mk (blk_below (pk BK351.out) hb); have n2_ := Aside0.mk (blk_below (pk BK358.out) hb); have n3_ := Aside0.mk (below_step (bk HB.out) hb); clear BK350 BK351; clear BK358 HB; have BK350 := n0_; have BK351 := n1_; have BK358 := n2_; have HB := n3_; clear n0_ n1_ n2_ n3_; (try clear hb); (try clear hb2); (try clear hk); (try clear hi)))
                  go_meet
                  case rel => exact ⟨_, (false), (by first | rfl | (simp; done) | (simp [*]; done) | (simp only [show ∀ p : Prop, Aside0 p = p from fun p => propext ⟨Aside0.out, Aside0.mk⟩] at *; simp_all; done)), H', ⟨by have := HJ5.out; first | omega | exact Nat.le_refl _⟩, ⟨pk BK350.out⟩, ⟨pk BK351.out⟩, ⟨pk BK358.out⟩, ⟨bk HB.out⟩⟩
          · replace c37 := Bool.eq_false_iff.mpr c37
            subst c37
            have H1 : ((clock_Before.f a0_0 a0_1 a2).bind fun t367 => (if t367 = true then ((clock_Before.f a1_0 a1_1 a2).bind fun t368 => (if t368 = true then ((clock_From.f a0_0 a0_1 a2).bind fun t369 => (if t369 = true then ((clock_From.f a1_0 a1_1 a2).bind fun t370 => (weirgatelaw05_ClockIsSureOrNot.j1 kj5 t357 (!t370) a0_0 a0_1 a1_0 a1_1 t355 t356)) else (weirgatelaw05_ClockIsSureOrNot.j1 kj5 t357 false a0_0 a0_1 a1_0 a1_1 t355 t356))) else (weirgatelaw05_ClockIsSureOrNot.j1 kj5 t357 true a0_0 a0_1 a1_0 a1_1 t355 t356))) else ((clock_From.f a0_0 a0_1 a2).bind fun t371 => (if t371 = true then ((clock_From.f a1_0 a1_1 a2).bind fun t372 => (weirgatelaw05_ClockIsSureOrNot.j1 kj5 t357 (!t372) a0_0 a0_1 a1_0 a1_1 t355 t356)) else (weirgatelaw05_ClockIsSureOrNot.j1 kj5 t357 false a0_0 a0_1 a1_0 a1_1 t355 t356))))) = some r := by rw [if_neg (show ¬ (false = true) by decide)] at H; exact H
            clear H
            have H := H1
            clear H1
            replace H := Option.bind_eq_some_iff.mp H
            obtain ⟨t367, A1190, H⟩ := H
            replace H : (if t367 = true then ((clock_Before.f a1_0 a1_1 a2).bind fun t368 => (if t368 = true then ((clock_From.f a0_0 a0_1 a2).bind fun t369 => (if t369 = true then ((clock_From.f a1_0 a1_1 a2).bind fun t370 => (weirgatelaw05_ClockIsSureOrNot.j1 kj5 t357 (!t370) a0_0 a0_1 a1_0 a1_1 t355 t356)) else (weirgatelaw05_ClockIsSureOrNot.j1 kj5 t357 false a0_0 a0_1 a1_0 a1_1 t355 t356))) else (weirgatelaw05_ClockIsSureOrNot.j1 kj5 t357 true a0_0 a0_1 a1_0 a1_1 t355 t356))) else ((clock_From.f a0_0 a0_1 a2).bind fun t371 => (if t371 = true then ((clock_From.f a1_0 a1_1 a2).bind fun t372 => (weirgatelaw05_ClockIsSureOrNot.j1 kj5 t357 (!t372) a0_0 a0_1 a1_0 a1_1 t355 t356)) else (weirgatelaw05_ClockIsSureOrNot.j1 kj5 t357 false a0_0 a0_1 a1_0 a1_1 t355 t356)))) = some r := H
            have A119 := Aside0.mk A1190
            clear A1190
            by_cases c120 : t367 = true
            · subst c120
              have H1 : ((clock_Before.f a1_0 a1_1 a2).bind fun t368 => (if t368 = true then ((clock_From.f a0_0 a0_1 a2).bind fun t369 => (if t369 = true then ((clock_From.f a1_0 a1_1 a2).bind fun t370 => (weirgatelaw05_ClockIsSureOrNot.j1 kj5 t357 (!t370) a0_0 a0_1 a1_0 a1_1 t355 t356)) else (weirgatelaw05_ClockIsSureOrNot.j1 kj5 t357 false a0_0 a0_1 a1_0 a1_1 t355 t356))) else (weirgatelaw05_ClockIsSureOrNot.j1 kj5 t357 true a0_0 a0_1 a1_0 a1_1 t355 t356))) = some r := by rw [if_pos rfl] at H; exact H
              clear H
              have H := H1
              clear H1
              replace H := Option.bind_eq_some_iff.mp H
              obtain ⟨t368, A1210, H⟩ := H
              replace H : (if t368 = true then ((clock_From.f a0_0 a0_1 a2).bind fun t369 => (if t369 = true then ((clock_From.f a1_0 a1_1 a2).bind fun t370 => (weirgatelaw05_ClockIsSureOrNot.j1 kj5 t357 (!t370) a0_0 a0_1 a1_0 a1_1 t355 t356)) else (weirgatelaw05_ClockIsSureOrNot.j1 kj5 t357 false a0_0 a0_1 a1_0 a1_1 t355 t356))) else (weirgatelaw05_ClockIsSureOrNot.j1 kj5 t357 true a0_0 a0_1 a1_0 a1_1 t355 t356)) = some r := H
              have A121 := Aside0.mk A1210
              clear A1210
              by_cases c122 : t368 = true
              · subst c122
                have H1 : ((clock_From.f a0_0 a0_1 a2).bind fun t369 => (if t369 = true then ((clock_From.f a1_0 a1_1 a2).bind fun t370 => (weirgatelaw05_ClockIsSureOrNot.j1 kj5 t357 (!t370) a0_0 a0_1 a1_0 a1_1 t355 t356)) else (weirgatelaw05_ClockIsSureOrNot.j1 kj5 t357 false a0_0 a0_1 a1_0 a1_1 t355 t356))) = some r := by rw [if_pos rfl] at H; exact H
                clear H
                have H := H1
                clear H1
                replace H := Option.bind_eq_some_iff.mp H
                obtain ⟨t369, A1230, H⟩ := H
                replace H : (if t369 = true then ((clock_From.f a1_0 a1_1 a2).bind fun t370 => (weirgatelaw05_ClockIsSureOrNot.j1 kj5 t357 (!t370) a0_0 a0_1 a1_0 a1_1 t355 t356)) else (weirgatelaw05_ClockIsSureOrNot.j1 kj5 t357 false a0_0 a0_1 a1_0 a1_1 t355 t356)) = some r := H
                have A123 := Aside0.mk A1230
                clear A1230
                by_cases c124 : t369 = true
                · subst c124
                  have H1 : ((clock_From.f a1_0 a1_1 a2).bind fun t370 => (weirgatelaw05_ClockIsSureOrNot.j1 kj5 t357 (!t370) a0_0 a0_1 a1_0 a1_1 t355 t356)) = some r := by rw [if_pos rfl] at H; exact H
                  clear H
                  have H := H1
                  clear H1
                  replace H := Option.bind_eq_some_iff.mp H
                  obtain ⟨t370, A1250, H⟩ := H
                  replace H : (weirgatelaw05_ClockIsSureOrNot.j1 kj5 t357 (!t370) a0_0 a0_1 a1_0 a1_1 t355 t356) = some r := H
                  have A125 := Aside0.mk A1250
                  clear A1250
                  have H' := Aside0.mk H
                  clear H
                  have hnb126 := NB351_350.out
                  have hnc126 := NB350_351.out
                  have hnb127 := NB351_358.out
                  have hnc127 := NB358_351.out
                  have hcz128_0 : w32.cell? ⟨gb351, 0, none⟩ = some (.int .i64 a1_0) := (blk_cell BK351.out 0).trans rfl
                  have hcz128_1 : w32.cell? ⟨gb351, 1, none⟩ = some (.int .i64 a1_1) := (blk_cell BK351.out 1).trans rfl
                  have hfz128_0 := blk_frozen BK351.out 0
                  have hfz128_1 := blk_frozen BK351.out 1
                  go_wp2_with (first | ((with_reducible refine gate_callee (f := 23) rfl ?_); refine goesL_ (some 44) rfl rfl Try.func23 (by kernel_rfl) rfl #[.agg #[.int .i64 a1_0, .int .i64 a1_1], .int .i64 a2] rfl (by (try simp only [List.map_toArray, List.map_cons, List.map_nil]); first | done | rfl | (simp only [List.length_drop, List.length_take]; rfl)) ?_; (with_reducible refine (clock_Before.calls a1_0 a1_1 a2 false _ A36.out).mono ?_); rintro e w129 ⟨rfl, hb⟩; refine ⟨_, rfl, ?_⟩; have n0_ := Aside0.mk (blk_below (g := gb350) (o := .cells #[.int .i64 a0_0, .int .i64 a0_1] 23 (0, 0)) (by refine pk ?_; refine blk_far ?_ NB350_358.out _; refine pk ?_; refine blk_far ?_ NB350_358.out _; refine pk ?_; exact BK350.out) hb); have n1_ := Aside0.mk (blk_below (g := gb351) (o := .cells #[.int .i64 a1_0, .int .i64 a1_1] 23 (0, 0)) (by refine pk ?_; refine blk_far ?_ NB351_358.out _; refine pk ?_; refine blk_far ?_ NB351_358.out _; refine pk ?_; exact BK351.out) hb); have n2_ := Aside0.mk (blk_below (g := gb358) (o := .cells #[.int .i64 t355, .int .i64 t356] 23 (0, 0)) (by refine pk ?_; refine blk_put (cs := #[.int .i64 t355, .int .i64 0]) ?_ 1 _ rfl; refine pk ?_; refine blk_put (cs := #[.int .i64 0, .int .i64 0]) ?_ 0 _ rfl; refine pk ?_; exact BK358.out) hb); have n3_ := Aside0.mk (below_step (bk HB.out) hb); clear BK350 BK351; clear BK358 HB; have BK350 := n0_; have BK351 := n1_; have BK358 := n2_; have HB := n3_; clear n0_ n1_ n2_ n3_; (try clear hb); (try clear hb2); (try clear hk); (try clear hi); have hnb130 := NB350_358.out; have hnc130 := NB358_350.out; have hcz131_0 : w129.cell? ⟨gb350, 0, none⟩ = some (.int .i64 a0_0) := (blk_cell BK350.out 0).trans rfl; have hcz131_1 : w129.cell? ⟨gb350, 1, none⟩ = some (.int .i64 a0_1) := (blk_cell BK350.out 1).trans rfl; have hfz131_0 := blk_frozen BK350.out 0; have hfz131_1 := blk_frozen BK350.out 1) | (go_at_call 23; (with_reducible refine (clock_Before.calls a0_0 a0_1 a2 true _ A119.out).mono ?_); rintro e w132 ⟨rfl, hb⟩; have n0_ := Aside0.mk (blk_below (pk BK350.out) hb); have n1_ := Aside0.mk (blk_below (pk BK351.out) hb); have n2_ := Aside0.mk (blk_below (pk BK358.out) hb); have n3_ := Aside0.mk (below_step (bk HB.out) hb); clear BK350 BK351; clear BK358 HB; have BK350 := n0_; have BK351 := n1_; have BK358 := n2_; have HB := n3_; clear n0_ n1_ n2_ n3_; (try clear hb); (try clear hb2); (try clear hk); (try clear hi); have hcz133_0 : w132.cell? ⟨gb351, 0, none⟩ = some (.int .i64 a1_0) := (blk_cell BK351.out 0).trans rfl; have hcz133_1 : w132.cell? ⟨gb351, 1, none⟩ = some (.int .i64 a1_1) := (blk_cell BK351.out 1).trans rfl; have hfz133_0 := blk_frozen BK351.out 0; have hfz133_1 := blk_frozen BK351.out 1) | (go_at_call 23; (with_reducible refine (clock_Before.calls a1_0 a1_1 a2 true _ A121.out).mono ?_); rintro e w134 ⟨rfl, hb⟩; have n0_ := Aside0.mk (blk_below (pk BK350.out) hb); have n1_ := Aside0.mk (blk_below (pk BK351.out) hb); have n2_ := Aside0.mk (blk_below (pk BK358.out) hb); have n3_ := Aside0.mk (below_step (bk HB.out) hb); clear BK350 BK351; clear BK358 HB; have BK350 := n0_; have BK351 := n1_; have BK358 := n2_; have HB := n3_; clear n0_ n1_ n2_ n3_; (try clear hb); (try clear hb2); (try clear hk); (try clear hi); have hcz135_0 : w134.cell? ⟨gb350, 0, none⟩ = some (.int .i64 a0_0) := (blk_cell BK350.out 0).trans rfl; have hcz135_1 : w134.cell? ⟨gb350, 1, none⟩ = some (.int .i64 a0_1) := (blk_cell BK350.out 1).trans rfl; have hfz135_0 := blk_frozen BK350.out 0; have hfz135_1 := blk_frozen BK350.out 1) | (go_at_call 31; (with_reducible refine (clock_From.calls a0_0 a0_1 a2 true _ A123.out).mono ?_); rintro e w136 ⟨rfl, hb⟩; have n0_ := Aside0.mk (blk_below (pk BK350.out) hb); have n1_ := Aside0.mk (blk_below (pk BK351.out) hb); have n2_ := Aside0.mk (blk_below (pk BK358.out) hb); have n3_ := Aside0.mk (below_step (bk HB.out) hb); clear BK350 BK351; clear BK358 HB; have BK350 := n0_; have BK351 := n1_; have BK358 := n2_; have HB := n3_; clear n0_ n1_ n2_ n3_; (try clear hb); (try clear hb2); (try clear hk); (try clear hi); have hcz137_0 : w136.cell? ⟨gb351, 0, none⟩ = some (.int .i64 a1_0) := (blk_cell BK351.out 0).trans rfl; have hcz137_1 : w136.cell? ⟨gb351, 1, none⟩ = some (.int .i64 a1_1) := (blk_cell BK351.out 1).trans rfl; have hfz137_0 := blk_frozen BK351.out 0; have hfz137_1 := blk_frozen BK351.out 1) | (go_at_call 31; (with_reducible refine (clock_From.calls a1_0 a1_1 a2 t370 _ A125.out).mono ?_); rintro e w138 ⟨rfl, hb⟩; have n0_ := Aside0.mk (blk_below (pk BK350.out) hb); have n1_ := Aside0.mk (blk_below (pk BK351.out) hb); have n2_ := Aside0.mk (blk_below (pk BK358.out) hb); have n3_ := Aside0.mk (below_step (bk HB.out) hb); clear BK350 BK351; clear BK358 HB; have BK350 := n0_; have BK351 := n1_; have BK358 := n2_; have HB := n3_; clear n0_ n1_ n2_ n3_; (try clear hb); (try clear hb2); (try clear hk); (try clear hi)))
                  go_meet
                  case rel => exact ⟨_, (!t370), (by first | rfl | (simp; done) | (simp [*]; done) | (simp only [show ∀ p : Prop, Aside0 p = p from fun p => propext ⟨Aside0.out, Aside0.mk⟩] at *; simp_all; done)), H', ⟨by have := HJ5.out; first | omega | exact Nat.le_refl _⟩, ⟨pk BK350.out⟩, ⟨pk BK351.out⟩, ⟨pk BK358.out⟩, ⟨bk HB.out⟩⟩
                · replace c124 := Bool.eq_false_iff.mpr c124
                  subst c124
                  have H1 : (weirgatelaw05_ClockIsSureOrNot.j1 kj5 t357 false a0_0 a0_1 a1_0 a1_1 t355 t356) = some r := by rw [if_neg (show ¬ (false = true) by decide)] at H; exact H
                  clear H
                  have H := H1
                  clear H1
                  have H' := Aside0.mk H
                  clear H
                  have hnb139 := NB351_350.out
                  have hnc139 := NB350_351.out
                  have hnb140 := NB351_358.out
                  have hnc140 := NB358_351.out
                  have hcz141_0 : w32.cell? ⟨gb351, 0, none⟩ = some (.int .i64 a1_0) := (blk_cell BK351.out 0).trans rfl
                  have hcz141_1 : w32.cell? ⟨gb351, 1, none⟩ = some (.int .i64 a1_1) := (blk_cell BK351.out 1).trans rfl
                  have hfz141_0 := blk_frozen BK351.out 0
                  have hfz141_1 := blk_frozen BK351.out 1
                  go_wp2_with (first | ((with_reducible refine gate_callee (f := 23) rfl ?_); refine goesL_ (some 44) rfl rfl Try.func23 (by kernel_rfl) rfl #[.agg #[.int .i64 a1_0, .int .i64 a1_1], .int .i64 a2] rfl (by (try simp only [List.map_toArray, List.map_cons, List.map_nil]); first | done | rfl | (simp only [List.length_drop, List.length_take]; rfl)) ?_; (with_reducible refine (clock_Before.calls a1_0 a1_1 a2 false _ A36.out).mono ?_); rintro e w142 ⟨rfl, hb⟩; refine ⟨_, rfl, ?_⟩; have n0_ := Aside0.mk (blk_below (g := gb350) (o := .cells #[.int .i64 a0_0, .int .i64 a0_1] 23 (0, 0)) (by refine pk ?_; refine blk_far ?_ NB350_358.out _; refine pk ?_; refine blk_far ?_ NB350_358.out _; refine pk ?_; exact BK350.out) hb); have n1_ := Aside0.mk (blk_below (g := gb351) (o := .cells #[.int .i64 a1_0, .int .i64 a1_1] 23 (0, 0)) (by refine pk ?_; refine blk_far ?_ NB351_358.out _; refine pk ?_; refine blk_far ?_ NB351_358.out _; refine pk ?_; exact BK351.out) hb); have n2_ := Aside0.mk (blk_below (g := gb358) (o := .cells #[.int .i64 t355, .int .i64 t356] 23 (0, 0)) (by refine pk ?_; refine blk_put (cs := #[.int .i64 t355, .int .i64 0]) ?_ 1 _ rfl; refine pk ?_; refine blk_put (cs := #[.int .i64 0, .int .i64 0]) ?_ 0 _ rfl; refine pk ?_; exact BK358.out) hb); have n3_ := Aside0.mk (below_step (bk HB.out) hb); clear BK350 BK351; clear BK358 HB; have BK350 := n0_; have BK351 := n1_; have BK358 := n2_; have HB := n3_; clear n0_ n1_ n2_ n3_; (try clear hb); (try clear hb2); (try clear hk); (try clear hi); have hnb143 := NB350_358.out; have hnc143 := NB358_350.out; have hcz144_0 : w142.cell? ⟨gb350, 0, none⟩ = some (.int .i64 a0_0) := (blk_cell BK350.out 0).trans rfl; have hcz144_1 : w142.cell? ⟨gb350, 1, none⟩ = some (.int .i64 a0_1) := (blk_cell BK350.out 1).trans rfl; have hfz144_0 := blk_frozen BK350.out 0; have hfz144_1 := blk_frozen BK350.out 1) | (go_at_call 23; (with_reducible refine (clock_Before.calls a0_0 a0_1 a2 true _ A119.out).mono ?_); rintro e w145 ⟨rfl, hb⟩; have n0_ := Aside0.mk (blk_below (pk BK350.out) hb); have n1_ := Aside0.mk (blk_below (pk BK351.out) hb); have n2_ := Aside0.mk (blk_below (pk BK358.out) hb); have n3_ := Aside0.mk (below_step (bk HB.out) hb); clear BK350 BK351; clear BK358 HB; have BK350 := n0_; have BK351 := n1_; have BK358 := n2_; have HB := n3_; clear n0_ n1_ n2_ n3_; (try clear hb); (try clear hb2); (try clear hk); (try clear hi); have hcz146_0 : w145.cell? ⟨gb351, 0, none⟩ = some (.int .i64 a1_0) := (blk_cell BK351.out 0).trans rfl; have hcz146_1 : w145.cell? ⟨gb351, 1, none⟩ = some (.int .i64 a1_1) := (blk_cell BK351.out 1).trans rfl; have hfz146_0 := blk_frozen BK351.out 0; have hfz146_1 := blk_frozen BK351.out 1) | (go_at_call 23; (with_reducible refine (clock_Before.calls a1_0 a1_1 a2 true _ A121.out).mono ?_); rintro e w147 ⟨rfl, hb⟩; have n0_ := Aside0.mk (blk_below (pk BK350.out) hb); have n1_ := Aside0.mk (blk_below (pk BK351.out) hb); have n2_ := Aside0.mk (blk_below (pk BK358.out) hb); have n3_ := Aside0.mk (below_step (bk HB.out) hb); clear BK350 BK351; clear BK358 HB; have BK350 := n0_; have BK351 := n1_; have BK358 := n2_; have HB := n3_; clear n0_ n1_ n2_ n3_; (try clear hb); (try clear hb2); (try clear hk); (try clear hi); have hcz148_0 : w147.cell? ⟨gb350, 0, none⟩ = some (.int .i64 a0_0) := (blk_cell BK350.out 0).trans rfl; have hcz148_1 : w147.cell? ⟨gb350, 1, none⟩ = some (.int .i64 a0_1) := (blk_cell BK350.out 1).trans rfl; have hfz148_0 := blk_frozen BK350.out 0; have hfz148_1 := blk_frozen BK350.out 1) | (go_at_call 31; (with_reducible refine (clock_From.calls a0_0 a0_1 a2 false _ A123.out).mono ?_); rintro e w149 ⟨rfl, hb⟩; have n0_ := Aside0.mk (blk_below (pk BK350.out) hb); have n1_ := Aside0.mk (blk_below (pk BK351.out) hb); have n2_ := Aside0.mk (blk_below (pk BK358.out) hb); have n3_ := Aside0.mk (below_step (bk HB.out) hb); clear BK350 BK351; clear BK358 HB; have BK350 := n0_; have BK351 := n1_; have BK358 := n2_; have HB := n3_; clear n0_ n1_ n2_ n3_; (try clear hb); (try clear hb2); (try clear hk); (try clear hi)))
                  go_meet
                  case rel => exact ⟨_, (false), (by first | rfl | (simp; done) | (simp [*]; done) | (simp only [show ∀ p : Prop, Aside0 p = p from fun p => propext ⟨Aside0.out, Aside0.mk⟩] at *; simp_all; done)), H', ⟨by have := HJ5.out; first | omega | exact Nat.le_refl _⟩, ⟨pk BK350.out⟩, ⟨pk BK351.out⟩, ⟨pk BK358.out⟩, ⟨bk HB.out⟩⟩
              · replace c122 := Bool.eq_false_iff.mpr c122
                subst c122
                have H1 : (weirgatelaw05_ClockIsSureOrNot.j1 kj5 t357 true a0_0 a0_1 a1_0 a1_1 t355 t356) = some r := by rw [if_neg (show ¬ (false = true) by decide)] at H; exact H
                clear H
                have H := H1
                clear H1
                have H' := Aside0.mk H
                clear H
                have hnb150 := NB351_350.out
                have hnc150 := NB350_351.out
                have hnb151 := NB351_358.out
                have hnc151 := NB358_351.out
                have hcz152_0 : w32.cell? ⟨gb351, 0, none⟩ = some (.int .i64 a1_0) := (blk_cell BK351.out 0).trans rfl
                have hcz152_1 : w32.cell? ⟨gb351, 1, none⟩ = some (.int .i64 a1_1) := (blk_cell BK351.out 1).trans rfl
                have hfz152_0 := blk_frozen BK351.out 0
                have hfz152_1 := blk_frozen BK351.out 1
                go_wp2_with (first | ((with_reducible refine gate_callee (f := 23) rfl ?_); refine goesL_ (some 44) rfl rfl Try.func23 (by kernel_rfl) rfl #[.agg #[.int .i64 a1_0, .int .i64 a1_1], .int .i64 a2] rfl (by (try simp only [List.map_toArray, List.map_cons, List.map_nil]); first | done | rfl | (simp only [List.length_drop, List.length_take]; rfl)) ?_; (with_reducible refine (clock_Before.calls a1_0 a1_1 a2 false _ A36.out).mono ?_); rintro e w153 ⟨rfl, hb⟩; refine ⟨_, rfl, ?_⟩; have n0_ := Aside0.mk (blk_below (g := gb350) (o := .cells #[.int .i64 a0_0, .int .i64 a0_1] 23 (0, 0)) (by refine pk ?_; refine blk_far ?_ NB350_358.out _; refine pk ?_; refine blk_far ?_ NB350_358.out _; refine pk ?_; exact BK350.out) hb); have n1_ := Aside0.mk (blk_below (g := gb351) (o := .cells #[.int .i64 a1_0, .int .i64 a1_1] 23 (0, 0)) (by refine pk ?_; refine blk_far ?_ NB351_358.out _; refine pk ?_; refine blk_far ?_ NB351_358.out _; refine pk ?_; exact BK351.out) hb); have n2_ := Aside0.mk (blk_below (g := gb358) (o := .cells #[.int .i64 t355, .int .i64 t356] 23 (0, 0)) (by refine pk ?_; refine blk_put (cs := #[.int .i64 t355, .int .i64 0]) ?_ 1 _ rfl; refine pk ?_; refine blk_put (cs := #[.int .i64 0, .int .i64 0]) ?_ 0 _ rfl; refine pk ?_; exact BK358.out) hb); have n3_ := Aside0.mk (below_step (bk HB.out) hb); clear BK350 BK351; clear BK358 HB; have BK350 := n0_; have BK351 := n1_; have BK358 := n2_; have HB := n3_; clear n0_ n1_ n2_ n3_; (try clear hb); (try clear hb2); (try clear hk); (try clear hi); have hnb154 := NB350_358.out; have hnc154 := NB358_350.out; have hcz155_0 : w153.cell? ⟨gb350, 0, none⟩ = some (.int .i64 a0_0) := (blk_cell BK350.out 0).trans rfl; have hcz155_1 : w153.cell? ⟨gb350, 1, none⟩ = some (.int .i64 a0_1) := (blk_cell BK350.out 1).trans rfl; have hfz155_0 := blk_frozen BK350.out 0; have hfz155_1 := blk_frozen BK350.out 1) | (go_at_call 23; (with_reducible refine (clock_Before.calls a0_0 a0_1 a2 true _ A119.out).mono ?_); rintro e w156 ⟨rfl, hb⟩; have n0_ := Aside0.mk (blk_below (pk BK350.out) hb); have n1_ := Aside0.mk (blk_below (pk BK351.out) hb); have n2_ := Aside0.mk (blk_below (pk BK358.out) hb); have n3_ := Aside0.mk (below_step (bk HB.out) hb); clear BK350 BK351; clear BK358 HB; have BK350 := n0_; have BK351 := n1_; have BK358 := n2_; have HB := n3_; clear n0_ n1_ n2_ n3_; (try clear hb); (try clear hb2); (try clear hk); (try clear hi); have hcz157_0 : w156.cell? ⟨gb351, 0, none⟩ = some (.int .i64 a1_0) := (blk_cell BK351.out 0).trans rfl; have hcz157_1 : w156.cell? ⟨gb351, 1, none⟩ = some (.int .i64 a1_1) := (blk_cell BK351.out 1).trans rfl; have hfz157_0 := blk_frozen BK351.out 0; have hfz157_1 := blk_frozen BK351.out 1) | (go_at_call 23; (with_reducible refine (clock_Before.calls a1_0 a1_1 a2 false _ A121.out).mono ?_); rintro e w158 ⟨rfl, hb⟩; have n0_ := Aside0.mk (blk_below (pk BK350.out) hb); have n1_ := Aside0.mk (blk_below (pk BK351.out) hb); have n2_ := Aside0.mk (blk_below (pk BK358.out) hb); have n3_ := Aside0.mk (below_step (bk HB.out) hb); clear BK350 BK351; clear BK358 HB; have BK350 := n0_; have BK351 := n1_; have BK358 := n2_; have HB := n3_; clear n0_ n1_ n2_ n3_; (try clear hb); (try clear hb2); (try clear hk); (try clear hi)))
                go_meet
                case rel => exact ⟨_, (true), (by first | rfl | (simp; done) | (simp [*]; done) | (simp only [show ∀ p : Prop, Aside0 p = p from fun p => propext ⟨Aside0.out, Aside0.mk⟩] at *; simp_all; done)), H', ⟨by have := HJ5.out; first | omega | exact Nat.le_refl _⟩, ⟨pk BK350.out⟩, ⟨pk BK351.out⟩, ⟨pk BK358.out⟩, ⟨bk HB.out⟩⟩
            · replace c120 := Bool.eq_false_iff.mpr c120
              subst c120
              have H1 : ((clock_From.f a0_0 a0_1 a2).bind fun t371 => (if t371 = true then ((clock_From.f a1_0 a1_1 a2).bind fun t372 => (weirgatelaw05_ClockIsSureOrNot.j1 kj5 t357 (!t372) a0_0 a0_1 a1_0 a1_1 t355 t356)) else (weirgatelaw05_ClockIsSureOrNot.j1 kj5 t357 false a0_0 a0_1 a1_0 a1_1 t355 t356))) = some r := by rw [if_neg (show ¬ (false = true) by decide)] at H; exact H
              clear H
              have H := H1
              clear H1
              replace H := Option.bind_eq_some_iff.mp H
              obtain ⟨t371, A1590, H⟩ := H
              replace H : (if t371 = true then ((clock_From.f a1_0 a1_1 a2).bind fun t372 => (weirgatelaw05_ClockIsSureOrNot.j1 kj5 t357 (!t372) a0_0 a0_1 a1_0 a1_1 t355 t356)) else (weirgatelaw05_ClockIsSureOrNot.j1 kj5 t357 false a0_0 a0_1 a1_0 a1_1 t355 t356)) = some r := H
              have A159 := Aside0.mk A1590
              clear A1590
              by_cases c160 : t371 = true
              · subst c160
                have H1 : ((clock_From.f a1_0 a1_1 a2).bind fun t372 => (weirgatelaw05_ClockIsSureOrNot.j1 kj5 t357 (!t372) a0_0 a0_1 a1_0 a1_1 t355 t356)) = some r := by rw [if_pos rfl] at H; exact H
                clear H
                have H := H1
                clear H1
                replace H := Option.bind_eq_some_iff.mp H
                obtain ⟨t372, A1610, H⟩ := H
                replace H : (weirgatelaw05_ClockIsSureOrNot.j1 kj5 t357 (!t372) a0_0 a0_1 a1_0 a1_1 t355 t356) = some r := H
                have A161 := Aside0.mk A1610
                clear A1610
                have H' := Aside0.mk H
                clear H
                have hnb162 := NB351_350.out
                have hnc162 := NB350_351.out
                have hnb163 := NB351_358.out
                have hnc163 := NB358_351.out
                have hcz164_0 : w32.cell? ⟨gb351, 0, none⟩ = some (.int .i64 a1_0) := (blk_cell BK351.out 0).trans rfl
                have hcz164_1 : w32.cell? ⟨gb351, 1, none⟩ = some (.int .i64 a1_1) := (blk_cell BK351.out 1).trans rfl
                have hfz164_0 := blk_frozen BK351.out 0
                have hfz164_1 := blk_frozen BK351.out 1
                go_wp2_with (first | ((with_reducible refine gate_callee (f := 23) rfl ?_); refine goesL_ (some 44) rfl rfl Try.func23 (by kernel_rfl) rfl #[.agg #[.int .i64 a1_0, .int .i64 a1_1], .int .i64 a2] rfl (by (try simp only [List.map_toArray, List.map_cons, List.map_nil]); first | done | rfl | (simp only [List.length_drop, List.length_take]; rfl)) ?_; (with_reducible refine (clock_Before.calls a1_0 a1_1 a2 false _ A36.out).mono ?_); rintro e w165 ⟨rfl, hb⟩; refine ⟨_, rfl, ?_⟩; have n0_ := Aside0.mk (blk_below (g := gb350) (o := .cells #[.int .i64 a0_0, .int .i64 a0_1] 23 (0, 0)) (by refine pk ?_; refine blk_far ?_ NB350_358.out _; refine pk ?_; refine blk_far ?_ NB350_358.out _; refine pk ?_; exact BK350.out) hb); have n1_ := Aside0.mk (blk_below (g := gb351) (o := .cells #[.int .i64 a1_0, .int .i64 a1_1] 23 (0, 0)) (by refine pk ?_; refine blk_far ?_ NB351_358.out _; refine pk ?_; refine blk_far ?_ NB351_358.out _; refine pk ?_; exact BK351.out) hb); have n2_ := Aside0.mk (blk_below (g := gb358) (o := .cells #[.int .i64 t355, .int .i64 t356] 23 (0, 0)) (by refine pk ?_; refine blk_put (cs := #[.int .i64 t355, .int .i64 0]) ?_ 1 _ rfl; refine pk ?_; refine blk_put (cs := #[.int .i64 0, .int .i64 0]) ?_ 0 _ rfl; refine pk ?_; exact BK358.out) hb); have n3_ := Aside0.mk (below_step (bk HB.out) hb); clear BK350 BK351; clear BK358 HB; have BK350 := n0_; have BK351 := n1_; have BK358 := n2_; have HB := n3_; clear n0_ n1_ n2_ n3_; (try clear hb); (try clear hb2); (try clear hk); (try clear hi); have hnb166 := NB350_358.out; have hnc166 := NB358_350.out; have hcz167_0 : w165.cell? ⟨gb350, 0, none⟩ = some (.int .i64 a0_0) := (blk_cell BK350.out 0).trans rfl; have hcz167_1 : w165.cell? ⟨gb350, 1, none⟩ = some (.int .i64 a0_1) := (blk_cell BK350.out 1).trans rfl; have hfz167_0 := blk_frozen BK350.out 0; have hfz167_1 := blk_frozen BK350.out 1) | (go_at_call 23; (with_reducible refine (clock_Before.calls a0_0 a0_1 a2 false _ A119.out).mono ?_); rintro e w168 ⟨rfl, hb⟩; have n0_ := Aside0.mk (blk_below (pk BK350.out) hb); have n1_ := Aside0.mk (blk_below (pk BK351.out) hb); have n2_ := Aside0.mk (blk_below (pk BK358.out) hb); have n3_ := Aside0.mk (below_step (bk HB.out) hb); clear BK350 BK351; clear BK358 HB; have BK350 := n0_; have BK351 := n1_; have BK358 := n2_; have HB := n3_; clear n0_ n1_ n2_ n3_; (try clear hb); (try clear hb2); (try clear hk); (try clear hi); have hcz169_0 : w168.cell? ⟨gb350, 0, none⟩ = some (.int .i64 a0_0) := (blk_cell BK350.out 0).trans rfl; have hcz169_1 : w168.cell? ⟨gb350, 1, none⟩ = some (.int .i64 a0_1) := (blk_cell BK350.out 1).trans rfl; have hfz169_0 := blk_frozen BK350.out 0; have hfz169_1 := blk_frozen BK350.out 1) | (go_at_call 31; (with_reducible refine (clock_From.calls a0_0 a0_1 a2 true _ A159.out).mono ?_); rintro e w170 ⟨rfl, hb⟩; have n0_ := Aside0.mk (blk_below (pk BK350.out) hb); have n1_ := Aside0.mk (blk_below (pk BK351.out) hb); have n2_ := Aside0.mk (blk_below (pk BK358.out) hb); have n3_ := Aside0.mk (below_step (bk HB.out) hb); clear BK350 BK351; clear BK358 HB; have BK350 := n0_; have BK351 := n1_; have BK358 := n2_; have HB := n3_; clear n0_ n1_ n2_ n3_; (try clear hb); (try clear hb2); (try clear hk); (try clear hi); have hcz171_0 : w170.cell? ⟨gb351, 0, none⟩ = some (.int .i64 a1_0) := (blk_cell BK351.out 0).trans rfl; have hcz171_1 : w170.cell? ⟨gb351, 1, none⟩ = some (.int .i64 a1_1) := (blk_cell BK351.out 1).trans rfl; have hfz171_0 := blk_frozen BK351.out 0; have hfz171_1 := blk_frozen BK351.out 1) | (go_at_call 31; (with_reducible refine (clock_From.calls a1_0 a1_1 a2 t372 _ A161.out).mono ?_); rintro e w172 ⟨rfl, hb⟩; have n0_ := Aside0.mk (blk_below (pk BK350.out) hb); have n1_ := Aside0.mk (blk_below (pk BK351.out) hb); have n2_ := Aside0.mk (blk_below (pk BK358.out) hb); have n3_ := Aside0.mk (below_step (bk HB.out) hb); clear BK350 BK351; clear BK358 HB; have BK350 := n0_; have BK351 := n1_; have BK358 := n2_; have HB := n3_; clear n0_ n1_ n2_ n3_; (try clear hb); (try clear hb2); (try clear hk); (try clear hi)))
                go_meet
                case rel => exact ⟨_, (!t372), (by first | rfl | (simp; done) | (simp [*]; done) | (simp only [show ∀ p : Prop, Aside0 p = p from fun p => propext ⟨Aside0.out, Aside0.mk⟩] at *; simp_all; done)), H', ⟨by have := HJ5.out; first | omega | exact Nat.le_refl _⟩, ⟨pk BK350.out⟩, ⟨pk BK351.out⟩, ⟨pk BK358.out⟩, ⟨bk HB.out⟩⟩
              · replace c160 := Bool.eq_false_iff.mpr c160
                subst c160
                have H1 : (weirgatelaw05_ClockIsSureOrNot.j1 kj5 t357 false a0_0 a0_1 a1_0 a1_1 t355 t356) = some r := by rw [if_neg (show ¬ (false = true) by decide)] at H; exact H
                clear H
                have H := H1
                clear H1
                have H' := Aside0.mk H
                clear H
                have hnb173 := NB351_350.out
                have hnc173 := NB350_351.out
                have hnb174 := NB351_358.out
                have hnc174 := NB358_351.out
                have hcz175_0 : w32.cell? ⟨gb351, 0, none⟩ = some (.int .i64 a1_0) := (blk_cell BK351.out 0).trans rfl
                have hcz175_1 : w32.cell? ⟨gb351, 1, none⟩ = some (.int .i64 a1_1) := (blk_cell BK351.out 1).trans rfl
                have hfz175_0 := blk_frozen BK351.out 0
                have hfz175_1 := blk_frozen BK351.out 1
                go_wp2_with (first | ((with_reducible refine gate_callee (f := 23) rfl ?_); refine goesL_ (some 44) rfl rfl Try.func23 (by kernel_rfl) rfl #[.agg #[.int .i64 a1_0, .int .i64 a1_1], .int .i64 a2] rfl (by (try simp only [List.map_toArray, List.map_cons, List.map_nil]); first | done | rfl | (simp only [List.length_drop, List.length_take]; rfl)) ?_; (with_reducible refine (clock_Before.calls a1_0 a1_1 a2 false _ A36.out).mono ?_); rintro e w176 ⟨rfl, hb⟩; refine ⟨_, rfl, ?_⟩; have n0_ := Aside0.mk (blk_below (g := gb350) (o := .cells #[.int .i64 a0_0, .int .i64 a0_1] 23 (0, 0)) (by refine pk ?_; refine blk_far ?_ NB350_358.out _; refine pk ?_; refine blk_far ?_ NB350_358.out _; refine pk ?_; exact BK350.out) hb); have n1_ := Aside0.mk (blk_below (g := gb351) (o := .cells #[.int .i64 a1_0, .int .i64 a1_1] 23 (0, 0)) (by refine pk ?_; refine blk_far ?_ NB351_358.out _; refine pk ?_; refine blk_far ?_ NB351_358.out _; refine pk ?_; exact BK351.out) hb); have n2_ := Aside0.mk (blk_below (g := gb358) (o := .cells #[.int .i64 t355, .int .i64 t356] 23 (0, 0)) (by refine pk ?_; refine blk_put (cs := #[.int .i64 t355, .int .i64 0]) ?_ 1 _ rfl; refine pk ?_; refine blk_put (cs := #[.int .i64 0, .int .i64 0]) ?_ 0 _ rfl; refine pk ?_; exact BK358.out) hb); have n3_ := Aside0.mk (below_step (bk HB.out) hb); clear BK350 BK351; clear BK358 HB; have BK350 := n0_; have BK351 := n1_; have BK358 := n2_; have HB := n3_; clear n0_ n1_ n2_ n3_; (try clear hb); (try clear hb2); (try clear hk); (try clear hi); have hnb177 := NB350_358.out; have hnc177 := NB358_350.out; have hcz178_0 : w176.cell? ⟨gb350, 0, none⟩ = some (.int .i64 a0_0) := (blk_cell BK350.out 0).trans rfl; have hcz178_1 : w176.cell? ⟨gb350, 1, none⟩ = some (.int .i64 a0_1) := (blk_cell BK350.out 1).trans rfl; have hfz178_0 := blk_frozen BK350.out 0; have hfz178_1 := blk_frozen BK350.out 1) | (go_at_call 23; (with_reducible refine (clock_Before.calls a0_0 a0_1 a2 false _ A119.out).mono ?_); rintro e w179 ⟨rfl, hb⟩; have n0_ := Aside0.mk (blk_below (pk BK350.out) hb); have n1_ := Aside0.mk (blk_below (pk BK351.out) hb); have n2_ := Aside0.mk (blk_below (pk BK358.out) hb); have n3_ := Aside0.mk (below_step (bk HB.out) hb); clear BK350 BK351; clear BK358 HB; have BK350 := n0_; have BK351 := n1_; have BK358 := n2_; have HB := n3_; clear n0_ n1_ n2_ n3_; (try clear hb); (try clear hb2); (try clear hk); (try clear hi); have hcz180_0 : w179.cell? ⟨gb350, 0, none⟩ = some (.int .i64 a0_0) := (blk_cell BK350.out 0).trans rfl; have hcz180_1 : w179.cell? ⟨gb350, 1, none⟩ = some (.int .i64 a0_1) := (blk_cell BK350.out 1).trans rfl; have hfz180_0 := blk_frozen BK350.out 0; have hfz180_1 := blk_frozen BK350.out 1) | (go_at_call 31; (with_reducible refine (clock_From.calls a0_0 a0_1 a2 false _ A159.out).mono ?_); rintro e w181 ⟨rfl, hb⟩; have n0_ := Aside0.mk (blk_below (pk BK350.out) hb); have n1_ := Aside0.mk (blk_below (pk BK351.out) hb); have n2_ := Aside0.mk (blk_below (pk BK358.out) hb); have n3_ := Aside0.mk (below_step (bk HB.out) hb); clear BK350 BK351; clear BK358 HB; have BK350 := n0_; have BK351 := n1_; have BK358 := n2_; have HB := n3_; clear n0_ n1_ n2_ n3_; (try clear hb); (try clear hb2); (try clear hk); (try clear hi)))
                go_meet
                case rel => exact ⟨_, (false), (by first | rfl | (simp; done) | (simp [*]; done) | (simp only [show ∀ p : Prop, Aside0 p = p from fun p => propext ⟨Aside0.out, Aside0.mk⟩] at *; simp_all; done)), H', ⟨by have := HJ5.out; first | omega | exact Nat.le_refl _⟩, ⟨pk BK350.out⟩, ⟨pk BK351.out⟩, ⟨pk BK358.out⟩, ⟨bk HB.out⟩⟩
        case rest =>
          clear HC27
          try clear c1
          try clear c2
          try clear p2
          try clear c3
          try clear c4
          try clear c5
          try clear c6
          try clear c7
          try clear c8
          try clear c9
          try clear c10
          try clear c11
          try clear c12
          try clear c13
          try clear c14
          try clear c15
          try clear c16
          try clear c16b0
          try clear c17
          try clear c20
          try clear c23
          try clear c25
          try clear c28
          try clear c30
          try clear c33
          try clear c34
          try clear c37
          try clear c39
          try clear c40
          try clear c41
          try clear c47
          try clear c49
          try clear c51
          try clear c53
          try clear c54
          try clear c59
          try clear c68
          try clear c69
          try clear c74
          try clear c81
          try clear c82
          try clear c87
          try clear c93
          try clear c95
          try clear c96
          try clear c101
          try clear c108
          try clear c109
          try clear c114
          try clear c120
          try clear c122
          try clear c124
          try clear c126
          try clear c127
          try clear c130
          try clear c139
          try clear c140
          try clear c143
          try clear c150
          try clear c151
          try clear c154
          try clear c160
          try clear c162
          try clear c163
          try clear c166
          try clear c173
          try clear c174
          try clear c177
          try clear hcz102_0
          try clear hcz102_1
          try clear hcz104_0
          try clear hcz104_1
          try clear hcz106_0
          try clear hcz106_1
          try clear hcz10_0
          try clear hcz10_1
          try clear hcz110_0
          try clear hcz110_1
          try clear hcz112_0
          try clear hcz112_1
          try clear hcz115_0
          try clear hcz115_1
          try clear hcz117_0
          try clear hcz117_1
          try clear hcz128_0
          try clear hcz128_1
          try clear hcz12_0
          try clear hcz12_1
          try clear hcz131_0
          try clear hcz131_1
          try clear hcz133_0
          try clear hcz133_1
          try clear hcz135_0
          try clear hcz135_1
          try clear hcz137_0
          try clear hcz137_1
          try clear hcz141_0
          try clear hcz141_1
          try clear hcz144_0
          try clear hcz144_1
          try clear hcz146_0
          try clear hcz146_1
          try clear hcz148_0
          try clear hcz148_1
          try clear hcz152_0
          try clear hcz152_1
          try clear hcz155_0
          try clear hcz155_1
          try clear hcz157_0
          try clear hcz157_1
          try clear hcz164_0
          try clear hcz164_1
          try clear hcz167_0
          try clear hcz167_1
          try clear hcz169_0
          try clear hcz169_1
          try clear hcz171_0
          try clear hcz171_1
          try clear hcz175_0
          try clear hcz175_1
          try clear hcz178_0
          try clear hcz178_1
          try clear hcz180_0
          try clear hcz180_1
          try clear hcz18_0
          try clear hcz18_1
          try clear hcz19_0
          try clear hcz19_1
          try clear hcz21_0
          try clear hcz21_1
          try clear hcz22_0
          try clear hcz22_1
          try clear hcz29_0
          try clear hcz29_1
          try clear hcz30_0
          try clear hcz30_1
          try clear hcz35_0
          try clear hcz35_1
          try clear hcz42_0
          try clear hcz42_1
          try clear hcz44_0
          try clear hcz44_1
          try clear hcz55_0
          try clear hcz55_1
          try clear hcz57_0
          try clear hcz57_1
          try clear hcz60_0
          try clear hcz60_1
          try clear hcz62_0
          try clear hcz62_1
          try clear hcz64_0
          try clear hcz64_1
          try clear hcz66_0
          try clear hcz66_1
          try clear hcz70_0
          try clear hcz70_1
          try clear hcz72_0
          try clear hcz72_1
          try clear hcz75_0
          try clear hcz75_1
          try clear hcz77_0
          try clear hcz77_1
          try clear hcz79_0
          try clear hcz79_1
          try clear hcz83_0
          try clear hcz83_1
          try clear hcz85_0
          try clear hcz85_1
          try clear hcz88_0
          try clear hcz88_1
          try clear hcz90_0
          try clear hcz90_1
          try clear hcz97_0
          try clear hcz97_1
          try clear hcz99_0
          try clear hcz99_1
          try clear hfz102_0
          try clear hfz102_1
          try clear hfz104_0
          try clear hfz104_1
          try clear hfz106_0
          try clear hfz106_1
          try clear hfz10_0
          try clear hfz10_1
          try clear hfz110_0
          try clear hfz110_1
          try clear hfz112_0
          try clear hfz112_1
          try clear hfz115_0
          try clear hfz115_1
          try clear hfz117_0
          try clear hfz117_1
          try clear hfz128_0
          try clear hfz128_1
          try clear hfz12_0
          try clear hfz12_1
          try clear hfz131_0
          try clear hfz131_1
          try clear hfz133_0
          try clear hfz133_1
          try clear hfz135_0
          try clear hfz135_1
          try clear hfz137_0
          try clear hfz137_1
          try clear hfz141_0
          try clear hfz141_1
          try clear hfz144_0
          try clear hfz144_1
          try clear hfz146_0
          try clear hfz146_1
          try clear hfz148_0
          try clear hfz148_1
          try clear hfz152_0
          try clear hfz152_1
          try clear hfz155_0
          try clear hfz155_1
          try clear hfz157_0
          try clear hfz157_1
          try clear hfz164_0
          try clear hfz164_1
          try clear hfz167_0
          try clear hfz167_1
          try clear hfz169_0
          try clear hfz169_1
          try clear hfz171_0
          try clear hfz171_1
          try clear hfz175_0
          try clear hfz175_1
          try clear hfz178_0
          try clear hfz178_1
          try clear hfz180_0
          try clear hfz180_1
          try clear hfz18_0
          try clear hfz18_1
          try clear hfz19_0
          try clear hfz19_1
          try clear hfz21_0
          try clear hfz21_1
          try clear hfz22_0
          try clear hfz22_1
          try clear hfz29_0
          try clear hfz29_1
          try clear hfz30_0
          try clear hfz30_1
          try clear hfz35_0
          try clear hfz35_1
          try clear hfz42_0
          try clear hfz42_1
          try clear hfz44_0
          try clear hfz44_1
          try clear hfz55_0
          try clear hfz55_1
          try clear hfz57_0
          try clear hfz57_1
          try clear hfz60_0
          try clear hfz60_1
          try clear hfz62_0
          try clear hfz62_1
          try clear hfz64_0
          try clear hfz64_1
          try clear hfz66_0
          try clear hfz66_1
          try clear hfz70_0
          try clear hfz70_1
          try clear hfz72_0
          try clear hfz72_1
          try clear hfz75_0
          try clear hfz75_1
          try clear hfz77_0
          try clear hfz77_1
          try clear hfz79_0
          try clear hfz79_1
          try clear hfz83_0
          try clear hfz83_1
          try clear hfz85_0
          try clear hfz85_1
          try clear hfz88_0
          try clear hfz88_1
          try clear hfz90_0
          try clear hfz90_1
          try clear hfz97_0
          try clear hfz97_1
          try clear hfz99_0
          try clear hfz99_1
          try clear p2
          obtain ⟨kq, x71_26, rfl, HA, HJ26, BK350, BK351, BK358, HB⟩ := hcut
          cases kq with
          | zero => exact absurd HA.out (by simp [weirgatelaw05_ClockIsSureOrNot.j1])
          | succ kj26 =>
            have H := HA.out
            clear HA
            simp only [weirgatelaw05_ClockIsSureOrNot.j1] at H
            by_cases c182 : x71_26 = true
            · subst c182
              have H1 : (some false) = some r := by rw [if_pos rfl] at H; exact H
              clear H
              have H := H1
              clear H1
              obtain rfl := Option.some.inj H
              go_wp2
              go_ret
              exact ⟨by first | rfl | (simp [errW_none, errW_some] <;> rfl) | (simp [*, errW_none, errW_some] <;> rfl), bk HB.out⟩
            · replace c182 := Bool.eq_false_iff.mpr c182
              subst c182
              have H1 : ((weirgatelaw05_sanity.f kj26).bind fun t373 => (if t373 = true then (if t357 = true then (if (t355 == a1_0 && (t356 == a1_1)) = true then ((clock_Hull.f a0_0 a0_1 a1_0 a1_1).bind fun bt374 => (if (bt374.1 == a0_0 && (bt374.2 == a0_1)) = true then ((clock_Hull.f a1_0 a1_1 a0_0 a0_1).bind fun bt376 => (some (bt376.1 == a0_0 && (bt376.2 == a0_1)))) else (some false))) else (some false)) else (some false)) else (some false))) = some r := by rw [if_neg (show ¬ (false = true) by decide)] at H; exact H
              clear H
              have H := H1
              clear H1
              replace H := Option.bind_eq_some_iff.mp H
              obtain ⟨t373, A1830, H⟩ := H
              replace H : (if t373 = true then (if t357 = true then (if (t355 == a1_0 && (t356 == a1_1)) = true then ((clock_Hull.f a0_0 a0_1 a1_0 a1_1).bind fun bt374 => (if (bt374.1 == a0_0 && (bt374.2 == a0_1)) = true then ((clock_Hull.f a1_0 a1_1 a0_0 a0_1).bind fun bt376 => (some (bt376.1 == a0_0 && (bt376.2 == a0_1)))) else (some false))) else (some false)) else (some false)) else (some false)) = some r := H
              have A183 := Aside0.mk A1830
              clear A1830
              by_cases c184 : t373 = true
              · subst c184
                have H1 : (if t357 = true then (if (t355 == a1_0 && (t356 == a1_1)) = true then ((clock_Hull.f a0_0 a0_1 a1_0 a1_1).bind fun bt374 => (if (bt374.1 == a0_0 && (bt374.2 == a0_1)) = true then ((clock_Hull.f a1_0 a1_1 a0_0 a0_1).bind fun bt376 => (some (bt376.1 == a0_0 && (bt376.2 == a0_1)))) else (some false))) else (some false)) else (some false)) = some r := by rw [if_pos rfl] at H; exact H
                clear H
                have H := H1
                clear H1
                by_cases c185 : t357 = true
                · subst c185
                  have H1 : (if (t355 == a1_0 && (t356 == a1_1)) = true then ((clock_Hull.f a0_0 a0_1 a1_0 a1_1).bind fun bt374 => (if (bt374.1 == a0_0 && (bt374.2 == a0_1)) = true then ((clock_Hull.f a1_0 a1_1 a0_0 a0_1).bind fun bt376 => (some (bt376.1 == a0_0 && (bt376.2 == a0_1)))) else (some false))) else (some false)) = some r := by rw [if_pos rfl] at H; exact H
                  clear H
                  have H := H1
                  clear H1
                  by_cases c186 : (t355 == a1_0 && (t356 == a1_1)) = true
                  · rw [if_pos c186] at H
                    have c186b0 : (t355 == a1_0 && (t356 == a1_1)) = true := c186
                    (try (have c186b1 : decide (t355 = a1_0 && (t356 == a1_1)) = true := by simpa using c186))
                    (try (have c186b2 : (t355 == a1_0 && (t356 == a1_1)) = true := by simpa using c186))
                    clear c186
                    replace H := Option.bind_eq_some_iff.mp H
                    obtain ⟨⟨t374, t375⟩, A1870, H⟩ := H
                    replace H : (if (t374 == a0_0 && (t375 == a0_1)) = true then ((clock_Hull.f a1_0 a1_1 a0_0 a0_1).bind fun bt376 => (some (bt376.1 == a0_0 && (bt376.2 == a0_1)))) else (some false)) = some r := H
                    have A187 := Aside0.mk A1870
                    clear A1870
                    by_cases c188 : (t374 == a0_0 && (t375 == a0_1)) = true
                    · rw [if_pos c188] at H
                      have c188b0 : (t374 == a0_0 && (t375 == a0_1)) = true := c188
                      (try (have c188b1 : decide (t374 = a0_0 && (t375 == a0_1)) = true := by simpa using c188))
                      (try (have c188b2 : (t374 == a0_0 && (t375 == a0_1)) = true := by simpa using c188))
                      clear c188
                      replace H := Option.bind_eq_some_iff.mp H
                      obtain ⟨⟨t376, t377⟩, A1890, H⟩ := H
                      replace H : (some (t376 == a0_0 && (t377 == a0_1))) = some r := H
                      have A189 := Aside0.mk A1890
                      clear A1890
                      obtain rfl := Option.some.inj H
                      try go_wp2
                      have n0_ := Aside0.mk (blk_drew BK350.out)
                      have n1_ := Aside0.mk (blk_drew BK351.out)
                      have n2_ := Aside0.mk (blk_drew BK358.out)
                      have n3_ := Aside0.mk (below_drew1 HB.out)
                      clear BK350
                      clear BK351
                      clear BK358
                      clear HB
                      have BK350 := n0_
                      have BK351 := n1_
                      have BK358 := n2_
                      have HB := n3_
                      clear n0_ n1_ n2_ n3_
                      refine start_ (n := 24) (S := fun w' => w'.cell? ⟨gb358, 0, none⟩ = some (.int .i64 t355) ∧ w'.cell? ⟨gb358, 1, none⟩ = some (.int .i64 t356) ∧ w'.cell? ⟨gb351, 0, none⟩ = some (.int .i64 a1_0) ∧ w'.cell? ⟨gb351, 1, none⟩ = some (.int .i64 a1_1) ∧ w'.cell? ⟨gb350, 0, none⟩ = some (.int .i64 a0_0) ∧ w'.cell? ⟨gb350, 1, none⟩ = some (.int .i64 a0_1)) (ds := []) #[false, false, false, false, false, false, false, false, false, false, false, false, false, false, false, false, false, false, false, false, false, false, false, false] (by kernel_rfl) rfl rfl ⟨(blk_cell BK358.out 0).trans rfl, (blk_cell BK358.out 1).trans rfl, (blk_cell BK351.out 0).trans rfl, (blk_cell BK351.out 1).trans rfl, (blk_cell BK350.out 0).trans rfl, (blk_cell BK350.out 1).trans rfl⟩ (fun hHeld => ?_); refine with_tabW weirgatelaw05_ClockIsSureOrNot.tab8 weirgatelaw05_ClockIsSureOrNot.bits8 (fun HT_ HW_ => ?_)
                      generalize wc.drew = w190 at BK350 BK351 BK358 HB hHeld ⊢
                      refine one_ (i := 0) (N := some 72) #[true, false, false, false, false, false, false, false, false, false, false, false, false, false, false, false, false, false, false, false, false, false, false, false] rfl rfl (one_of HT_.out (by kernel_rfl)) (by decide) (fun K hK => ?_)
                      refine goes_ Try.func13 (by kernel_rfl) rfl #[] (by rfl) rfl rfl (by (try simp only [List.map_toArray, List.map_cons, List.map_nil]); first | done | rfl | (simp only [List.length_drop, List.length_take]; rfl)) ?_
                      with_reducible refine (weirgatelaw05_sanity.calls kj26  true _ A183.out).mono ?_
                      rintro e w191 ⟨rfl, hb⟩
                      refine ⟨_, rfl, ?_⟩
                      have n0_ := Aside0.mk (blk_below (pk BK350.out) hb)
                      have n1_ := Aside0.mk (blk_below (pk BK351.out) hb)
                      have n2_ := Aside0.mk (blk_below (pk BK358.out) hb)
                      have n3_ := Aside0.mk (below_step (bk HB.out) hb)
                      clear BK350
                      clear BK351
                      clear BK358
                      clear HB
                      have BK350 := n0_
                      have BK351 := n1_
                      have BK358 := n2_
                      have HB := n3_
                      clear n0_ n1_ n2_ n3_
                      (try clear hb)
                      (try clear hb2)
                      (try clear hk)
                      (try clear hi)
                      refine hK.out _ _ ⟨(blk_cell BK358.out 0).trans rfl, (blk_cell BK358.out 1).trans rfl, (blk_cell BK351.out 0).trans rfl, (blk_cell BK351.out 1).trans rfl, (blk_cell BK350.out 0).trans rfl, (blk_cell BK350.out 1).trans rfl⟩ (fun hHeld => ?_)
                      clear hK K
                      refine norm_ (a' := ?_) ?_ ?_
                      rotate_left
                      · show Act.put _ (some 72) _ = _
                        simp only [Act.put, List.setIfInBounds_toArray, List.set_cons_zero, List.set_cons_succ, i64_w, i32_w]
                        rfl
                      refine pure_ (i := 1) (N := some 73) (v := ?_) (a' := ?_) #[true, true, false, false, false, false, false, false, false, false, false, false, false, false, false, false, false, false, false, false, false, false, false, false] rfl rfl (any_of HT_.out (by kernel_rfl)) (fun _ _ _ h => h) (Or.inl ⟨by rfl, ?_⟩) ?_ ?_
                      rotate_left
                      · intro w'
                        go_simp
                        with_reducible rfl
                      rotate_left
                      · simp only [Act.put, List.setIfInBounds_toArray, List.set_cons_zero, List.set_cons_succ, i64_w, i32_w]
                        rfl
                      refine pure_ (i := 2) (N := some 74) (v := ?_) (a' := ?_) #[true, true, true, false, false, false, false, false, false, false, false, false, false, false, false, false, false, false, false, false, false, false, false, false] rfl rfl (any_of HT_.out (by kernel_rfl)) (fun _ _ _ h => h) (Or.inl ⟨by rfl, ?_⟩) ?_ ?_
                      rotate_left
                      · intro w'
                        go_simp
                        with_reducible rfl
                      rotate_left
                      · simp only [Act.put, List.setIfInBounds_toArray, List.set_cons_zero, List.set_cons_succ, i64_w, i32_w]
                        rfl
                      refine pure_ (i := 3) (N := some 75) (v := ?_) (a' := ?_) #[true, true, true, true, false, false, false, false, false, false, false, false, false, false, false, false, false, false, false, false, false, false, false, false] rfl rfl (any_of HT_.out (by kernel_rfl)) (fun _ _ _ h => h) (Or.inl ⟨by rfl, ?_⟩) ?_ ?_
                      rotate_left
                      · intro w'
                        go_simp
                        with_reducible rfl
                      rotate_left
                      · simp only [Act.put, List.setIfInBounds_toArray, List.set_cons_zero, List.set_cons_succ, i64_w, i32_w]
                        rfl
                      refine pure_ (i := 4) (N := some 76) (v := ?_) (a' := ?_) #[true, true, true, true, true, false, false, false, false, false, false, false, false, false, false, false, false, false, false, false, false, false, false, false] rfl rfl (any_of HT_.out (by kernel_rfl)) (fun _ _ _ h => h) (Or.inl ⟨by rfl, ?_⟩) ?_ ?_
                      rotate_left
                      · intro w'
                        go_simp
                        with_reducible rfl
                      rotate_left
                      · simp only [Act.put, List.setIfInBounds_toArray, List.set_cons_zero, List.set_cons_succ, i64_w, i32_w]
                        rfl
                      refine take_ (i := 5) (N := some 77) (v := ?_) (a' := ?_) #[true, true, true, true, true, true, false, false, false, false, false, false, false, false, false, false, false, false, false, false, false, false, false, false] rfl rfl (take_ofW HT_.out HW_.out (by kernel_rfl)) (fun _ _ _ h => h) (Or.inl ⟨by rfl, ?_⟩) hHeld ?_ ?_
                      rotate_left
                      · rintro w' ⟨s0, s1, s2, s3, s4, s5⟩
                        go_simp
                        with_reducible rfl
                      rotate_left
                      · simp only [Act.put, List.setIfInBounds_toArray, List.set_cons_zero, List.set_cons_succ, i64_w, i32_w]
                        rfl
                      refine take_ (i := 6) (N := some 78) (v := ?_) (a' := ?_) #[true, true, true, true, true, true, true, false, false, false, false, false, false, false, false, false, false, false, false, false, false, false, false, false] rfl rfl (take_ofW HT_.out HW_.out (by kernel_rfl)) (fun _ _ _ h => h) (Or.inl ⟨by rfl, ?_⟩) hHeld ?_ ?_
                      rotate_left
                      · rintro w' ⟨s0, s1, s2, s3, s4, s5⟩
                        go_simp
                        with_reducible rfl
                      rotate_left
                      · simp only [Act.put, List.setIfInBounds_toArray, List.set_cons_zero, List.set_cons_succ, i64_w, i32_w]
                        rfl
                      refine pure_ (i := 7) (N := some 79) (v := ?_) (a' := ?_) #[true, true, true, true, true, true, true, true, false, false, false, false, false, false, false, false, false, false, false, false, false, false, false, false] rfl rfl (any_of HT_.out (by kernel_rfl)) (fun _ _ _ h => h) (Or.inl ⟨by rfl, ?_⟩) ?_ ?_
                      rotate_left
                      · intro w'
                        go_simp
                        with_reducible rfl
                      rotate_left
                      · simp only [Act.put, List.setIfInBounds_toArray, List.set_cons_zero, List.set_cons_succ, i64_w, i32_w]
                        rfl
                      refine pure_ (i := 8) (N := some 80) (v := ?_) (a' := ?_) #[true, true, true, true, true, true, true, true, true, false, false, false, false, false, false, false, false, false, false, false, false, false, false, false] rfl rfl (any_of HT_.out (by kernel_rfl)) (fun _ _ _ h => h) (Or.inl ⟨by rfl, ?_⟩) ?_ ?_
                      rotate_left
                      · intro w'
                        go_simp
                        with_reducible rfl
                      rotate_left
                      · simp only [Act.put, List.setIfInBounds_toArray, List.set_cons_zero, List.set_cons_succ, i64_w, i32_w]
                        rfl
                      refine pure_ (i := 9) (N := some 81) (v := ?_) (a' := ?_) #[true, true, true, true, true, true, true, true, true, true, false, false, false, false, false, false, false, false, false, false, false, false, false, false] rfl rfl (any_of HT_.out (by kernel_rfl)) (fun _ _ _ h => h) (Or.inl ⟨by rfl, ?_⟩) ?_ ?_
                      rotate_left
                      · intro w'
                        go_simp
                        with_reducible rfl
                      rotate_left
                      · simp only [Act.put, List.setIfInBounds_toArray, List.set_cons_zero, List.set_cons_succ, i64_w, i32_w]
                        rfl
                      refine take_ (i := 10) (N := some 82) (v := ?_) (a' := ?_) #[true, true, true, true, true, true, true, true, true, true, true, false, false, false, false, false, false, false, false, false, false, false, false, false] rfl rfl (take_ofW HT_.out HW_.out (by kernel_rfl)) (fun _ _ _ h => h) (Or.inl ⟨by rfl, ?_⟩) hHeld ?_ ?_
                      rotate_left
                      · rintro w' ⟨s0, s1, s2, s3, s4, s5⟩
                        go_simp
                        with_reducible rfl
                      rotate_left
                      · simp only [Act.put, List.setIfInBounds_toArray, List.set_cons_zero, List.set_cons_succ, i64_w, i32_w]
                        rfl
                      refine take_ (i := 11) (N := some 83) (v := ?_) (a' := ?_) #[true, true, true, true, true, true, true, true, true, true, true, true, false, false, false, false, false, false, false, false, false, false, false, false] rfl rfl (take_ofW HT_.out HW_.out (by kernel_rfl)) (fun _ _ _ h => h) (Or.inl ⟨by rfl, ?_⟩) hHeld ?_ ?_
                      rotate_left
                      · rintro w' ⟨s0, s1, s2, s3, s4, s5⟩
                        go_simp
                        with_reducible rfl
                      rotate_left
                      · simp only [Act.put, List.setIfInBounds_toArray, List.set_cons_zero, List.set_cons_succ, i64_w, i32_w]
                        rfl
                      refine take_ (i := 13) (N := some 85) (v := ?_) (a' := ?_) #[true, true, true, true, true, true, true, true, true, true, true, true, false, true, false, false, false, false, false, false, false, false, false, false] rfl rfl (take_ofW HT_.out HW_.out (by kernel_rfl)) (fun _ _ _ h => h) (Or.inl ⟨by rfl, ?_⟩) hHeld ?_ ?_
                      rotate_left
                      · rintro w' ⟨s0, s1, s2, s3, s4, s5⟩
                        go_simp
                        with_reducible rfl
                      rotate_left
                      · simp only [Act.put, List.setIfInBounds_toArray, List.set_cons_zero, List.set_cons_succ, i64_w, i32_w]
                        rfl
                      refine one_ (i := 12) (N := some 84) #[true, true, true, true, true, true, true, true, true, true, true, true, true, true, false, false, false, false, false, false, false, false, false, false] rfl rfl (one_of HT_.out (by kernel_rfl)) (by decide) (fun K hK => ?_)
                      refine goes_ Try.func32 (by kernel_rfl) rfl #[.agg #[.int .i64 a0_0, .int .i64 a0_1], .agg #[.int .i64 a1_0, .int .i64 a1_1]] (by rfl) rfl rfl (by (try simp only [List.map_toArray, List.map_cons, List.map_nil]); first | done | rfl | (simp only [List.length_drop, List.length_take]; rfl)) ?_
                      with_reducible refine (clock_Hull.calls a0_0 a0_1 a1_0 a1_1 t374 t375 _ A187.out).mono ?_
                      rintro e w192 ⟨rfl, hb⟩
                      refine ⟨_, rfl, ?_⟩
                      have n0_ := Aside0.mk (blk_below (pk BK350.out) hb)
                      have n1_ := Aside0.mk (blk_below (pk BK351.out) hb)
                      have n2_ := Aside0.mk (blk_below (pk BK358.out) hb)
                      have n3_ := Aside0.mk (below_step (bk HB.out) hb)
                      clear BK350
                      clear BK351
                      clear BK358
                      clear HB
                      have BK350 := n0_
                      have BK351 := n1_
                      have BK358 := n2_
                      have HB := n3_
                      clear n0_ n1_ n2_ n3_
                      (try clear hb)
                      (try clear hb2)
                      (try clear hk)
                      (try clear hi)
                      refine hK.out _ _ ⟨(blk_cell BK358.out 0).trans rfl, (blk_cell BK358.out 1).trans rfl, (blk_cell BK351.out 0).trans rfl, (blk_cell BK351.out 1).trans rfl, (blk_cell BK350.out 0).trans rfl, (blk_cell BK350.out 1).trans rfl⟩ (fun hHeld => ?_)
                      clear hK K
                      refine norm_ (a' := ?_) ?_ ?_
                      rotate_left
                      · show Act.put _ (some 84) _ = _
                        simp only [Act.put, List.setIfInBounds_toArray, List.set_cons_zero, List.set_cons_succ, i64_w, i32_w]
                        rfl
                      refine pure_ (i := 14) (N := some 86) (v := ?_) (a' := ?_) #[true, true, true, true, true, true, true, true, true, true, true, true, true, true, true, false, false, false, false, false, false, false, false, false] rfl rfl (any_of HT_.out (by kernel_rfl)) (fun _ _ _ h => h) (Or.inl ⟨by rfl, ?_⟩) ?_ ?_
                      rotate_left
                      · intro w'
                        go_simp
                        with_reducible rfl
                      rotate_left
                      · simp only [Act.put, List.setIfInBounds_toArray, List.set_cons_zero, List.set_cons_succ, i64_w, i32_w]
                        rfl
                      refine pure_ (i := 15) (N := some 87) (v := ?_) (a' := ?_) #[true, true, true, true, true, true, true, true, true, true, true, true, true, true, true, true, false, false, false, false, false, false, false, false] rfl rfl (any_of HT_.out (by kernel_rfl)) (fun _ _ _ h => h) (Or.inl ⟨by rfl, ?_⟩) ?_ ?_
                      rotate_left
                      · intro w'
                        go_simp
                        with_reducible rfl
                      rotate_left
                      · simp only [Act.put, List.setIfInBounds_toArray, List.set_cons_zero, List.set_cons_succ, i64_w, i32_w]
                        rfl
                      refine pure_ (i := 16) (N := some 88) (v := ?_) (a' := ?_) #[true, true, true, true, true, true, true, true, true, true, true, true, true, true, true, true, true, false, false, false, false, false, false, false] rfl rfl (any_of HT_.out (by kernel_rfl)) (fun _ _ _ h => h) (Or.inl ⟨by rfl, ?_⟩) ?_ ?_
                      rotate_left
                      · intro w'
                        go_simp
                        with_reducible rfl
                      rotate_left
                      · simp only [Act.put, List.setIfInBounds_toArray, List.set_cons_zero, List.set_cons_succ, i64_w, i32_w]
                        rfl
                      refine take_ (i := 17) (N := some 89) (v := ?_) (a' := ?_) #[true, true, true, true, true, true, true, true, true, true, true, true, true, true, true, true, true, true, false, false, false, false, false, false] rfl rfl (take_ofW HT_.out HW_.out (by kernel_rfl)) (fun _ _ _ h => h) (Or.inl ⟨by rfl, ?_⟩) hHeld ?_ ?_
                      rotate_left
                      · rintro w' ⟨s0, s1, s2, s3, s4, s5⟩
                        go_simp
                        with_reducible rfl
                      rotate_left
                      · simp only [Act.put, List.setIfInBounds_toArray, List.set_cons_zero, List.set_cons_succ, i64_w, i32_w]
                        rfl
                      refine take_ (i := 18) (N := some 90) (v := ?_) (a' := ?_) #[true, true, true, true, true, true, true, true, true, true, true, true, true, true, true, true, true, true, true, false, false, false, false, false] rfl rfl (take_ofW HT_.out HW_.out (by kernel_rfl)) (fun _ _ _ h => h) (Or.inl ⟨by rfl, ?_⟩) hHeld ?_ ?_
                      rotate_left
                      · rintro w' ⟨s0, s1, s2, s3, s4, s5⟩
                        go_simp
                        with_reducible rfl
                      rotate_left
                      · simp only [Act.put, List.setIfInBounds_toArray, List.set_cons_zero, List.set_cons_succ, i64_w, i32_w]
                        rfl
                      refine take_ (i := 20) (N := some 92) (v := ?_) (a' := ?_) #[true, true, true, true, true, true, true, true, true, true, true, true, true, true, true, true, true, true, true, false, true, false, false, false] rfl rfl (take_ofW HT_.out HW_.out (by kernel_rfl)) (fun _ _ _ h => h) (Or.inl ⟨by rfl, ?_⟩) hHeld ?_ ?_
                      rotate_left
                      · rintro w' ⟨s0, s1, s2, s3, s4, s5⟩
                        go_simp
                        with_reducible rfl
                      rotate_left
                      · simp only [Act.put, List.setIfInBounds_toArray, List.set_cons_zero, List.set_cons_succ, i64_w, i32_w]
                        rfl
                      refine one_ (i := 19) (N := some 91) #[true, true, true, true, true, true, true, true, true, true, true, true, true, true, true, true, true, true, true, true, true, false, false, false] rfl rfl (one_of HT_.out (by kernel_rfl)) (by decide) (fun K hK => ?_)
                      refine goes_ Try.func32 (by kernel_rfl) rfl #[.agg #[.int .i64 a1_0, .int .i64 a1_1], .agg #[.int .i64 a0_0, .int .i64 a0_1]] (by rfl) rfl rfl (by (try simp only [List.map_toArray, List.map_cons, List.map_nil]); first | done | rfl | (simp only [List.length_drop, List.length_take]; rfl)) ?_
                      with_reducible refine (clock_Hull.calls a1_0 a1_1 a0_0 a0_1 t376 t377 _ A189.out).mono ?_
                      rintro e w193 ⟨rfl, hb⟩
                      refine ⟨_, rfl, ?_⟩
                      have n0_ := Aside0.mk (blk_below (pk BK350.out) hb)
                      have n1_ := Aside0.mk (blk_below (pk BK351.out) hb)
                      have n2_ := Aside0.mk (blk_below (pk BK358.out) hb)
                      have n3_ := Aside0.mk (below_step (bk HB.out) hb)
                      clear BK350
                      clear BK351
                      clear BK358
                      clear HB
                      have BK350 := n0_
                      have BK351 := n1_
                      have BK358 := n2_
                      have HB := n3_
                      clear n0_ n1_ n2_ n3_
                      (try clear hb)
                      (try clear hb2)
                      (try clear hk)
                      (try clear hi)
                      refine hK.out _ _ ⟨(blk_cell BK358.out 0).trans rfl, (blk_cell BK358.out 1).trans rfl, (blk_cell BK351.out 0).trans rfl, (blk_cell BK351.out 1).trans rfl, (blk_cell BK350.out 0).trans rfl, (blk_cell BK350.out 1).trans rfl⟩ (fun hHeld => ?_)
                      clear hK K
                      refine norm_ (a' := ?_) ?_ ?_
                      rotate_left
                      · show Act.put _ (some 91) _ = _
                        simp only [Act.put, List.setIfInBounds_toArray, List.set_cons_zero, List.set_cons_succ, i64_w, i32_w]
                        rfl
                      refine pure_ (i := 21) (N := some 93) (v := ?_) (a' := ?_) #[true, true, true, true, true, true, true, true, true, true, true, true, true, true, true, true, true, true, true, true, true, true, false, false] rfl rfl (any_of HT_.out (by kernel_rfl)) (fun _ _ _ h => h) (Or.inl ⟨by rfl, ?_⟩) ?_ ?_
                      rotate_left
                      · intro w'
                        go_simp
                        with_reducible rfl
                      rotate_left
                      · simp only [Act.put, List.setIfInBounds_toArray, List.set_cons_zero, List.set_cons_succ, i64_w, i32_w]
                        rfl
                      refine pure_ (i := 22) (N := some 94) (v := ?_) (a' := ?_) #[true, true, true, true, true, true, true, true, true, true, true, true, true, true, true, true, true, true, true, true, true, true, true, false] rfl rfl (any_of HT_.out (by kernel_rfl)) (fun _ _ _ h => h) (Or.inl ⟨by rfl, ?_⟩) ?_ ?_
                      rotate_left
                      · intro w'
                        go_simp
                        with_reducible rfl
                      rotate_left
                      · simp only [Act.put, List.setIfInBounds_toArray, List.set_cons_zero, List.set_cons_succ, i64_w, i32_w]
                        rfl
                      refine pure_ (i := 23) (N := some 6) (v := ?_) (a' := ?_) #[true, true, true, true, true, true, true, true, true, true, true, true, true, true, true, true, true, true, true, true, true, true, true, true] rfl rfl (any_of HT_.out (by kernel_rfl)) (fun _ _ _ h => h) (Or.inl ⟨by rfl, ?_⟩) ?_ ?_
                      rotate_left
                      · intro w'
                        go_simp
                        with_reducible rfl
                      rotate_left
                      · simp only [Act.put, List.setIfInBounds_toArray, List.set_cons_zero, List.set_cons_succ, i64_w, i32_w]
                        rfl
                      refine done_ (done_of HT_.out (by kernel_rfl)) ?_
                      try go_wp2
                      go_ret
                      exact ⟨by first | rfl | (simp [errW_none, errW_some] <;> rfl) | (simp [*, errW_none, errW_some] <;> rfl), bk HB.out⟩
                    · rw [if_neg c188] at H
                      have c188b0 : (t374 == a0_0 && (t375 == a0_1)) = false := by simpa using c188
                      (try (have c188b1 : decide (t374 = a0_0 && (t375 == a0_1)) = false := by simpa using c188))
                      (try (have c188b2 : (t374 == a0_0 && (t375 == a0_1)) = false := by simpa using c188))
                      (try (have c188b3 : ¬ (t374 = a0_0 && (t375 == a0_1)) := by simpa using c188))
                      clear c188
                      obtain rfl := Option.some.inj H
                      try go_wp2
                      have n0_ := Aside0.mk (blk_drew BK350.out)
                      have n1_ := Aside0.mk (blk_drew BK351.out)
                      have n2_ := Aside0.mk (blk_drew BK358.out)
                      have n3_ := Aside0.mk (below_drew1 HB.out)
                      clear BK350
                      clear BK351
                      clear BK358
                      clear HB
                      have BK350 := n0_
                      have BK351 := n1_
                      have BK358 := n2_
                      have HB := n3_
                      clear n0_ n1_ n2_ n3_
                      refine start_ (n := 24) (S := fun w' => w'.cell? ⟨gb358, 0, none⟩ = some (.int .i64 t355) ∧ w'.cell? ⟨gb358, 1, none⟩ = some (.int .i64 t356) ∧ w'.cell? ⟨gb351, 0, none⟩ = some (.int .i64 a1_0) ∧ w'.cell? ⟨gb351, 1, none⟩ = some (.int .i64 a1_1) ∧ w'.cell? ⟨gb350, 0, none⟩ = some (.int .i64 a0_0) ∧ w'.cell? ⟨gb350, 1, none⟩ = some (.int .i64 a0_1)) (ds := []) #[false, false, false, false, false, false, false, false, false, false, false, false, false, false, false, false, false, false, false, false, false, false, false, false] (by kernel_rfl) rfl rfl ⟨(blk_cell BK358.out 0).trans rfl, (blk_cell BK358.out 1).trans rfl, (blk_cell BK351.out 0).trans rfl, (blk_cell BK351.out 1).trans rfl, (blk_cell BK350.out 0).trans rfl, (blk_cell BK350.out 1).trans rfl⟩ (fun hHeld => ?_); refine with_tabW weirgatelaw05_ClockIsSureOrNot.tab8 weirgatelaw05_ClockIsSureOrNot.bits8 (fun HT_ HW_ => ?_)
                      generalize wc.drew = w194 at BK350 BK351 BK358 HB hHeld ⊢
                      refine one_ (i := 0) (N := some 72) #[true, false, false, false, false, false, false, false, false, false, false, false, false, false, false, false, false, false, false, false, false, false, false, false] rfl rfl (one_of HT_.out (by kernel_rfl)) (by decide) (fun K hK => ?_)
                      refine goes_ Try.func13 (by kernel_rfl) rfl #[] (by rfl) rfl rfl (by (try simp only [List.map_toArray, List.map_cons, List.map_nil]); first | done | rfl | (simp only [List.length_drop, List.length_take]; rfl)) ?_
                      with_reducible refine (weirgatelaw05_sanity.calls kj26  true _ A183.out).mono ?_
                      rintro e w195 ⟨rfl, hb⟩
                      refine ⟨_, rfl, ?_⟩
                      have n0_ := Aside0.mk (blk_below (pk BK350.out) hb)
                      have n1_ := Aside0.mk (blk_below (pk BK351.out) hb)
                      have n2_ := Aside0.mk (blk_below (pk BK358.out) hb)
                      have n3_ := Aside0.mk (below_step (bk HB.out) hb)
                      clear BK350
                      clear BK351
                      clear BK358
                      clear HB
                      have BK350 := n0_
                      have BK351 := n1_
                      have BK358 := n2_
                      have HB := n3_
                      clear n0_ n1_ n2_ n3_
                      (try clear hb)
                      (try clear hb2)
                      (try clear hk)
                      (try clear hi)
                      refine hK.out _ _ ⟨(blk_cell BK358.out 0).trans rfl, (blk_cell BK358.out 1).trans rfl, (blk_cell BK351.out 0).trans rfl, (blk_cell BK351.out 1).trans rfl, (blk_cell BK350.out 0).trans rfl, (blk_cell BK350.out 1).trans rfl⟩ (fun hHeld => ?_)
                      clear hK K
                      refine norm_ (a' := ?_) ?_ ?_
                      rotate_left
                      · show Act.put _ (some 72) _ = _
                        simp only [Act.put, List.setIfInBounds_toArray, List.set_cons_zero, List.set_cons_succ, i64_w, i32_w]
                        rfl
                      refine pure_ (i := 1) (N := some 73) (v := ?_) (a' := ?_) #[true, true, false, false, false, false, false, false, false, false, false, false, false, false, false, false, false, false, false, false, false, false, false, false] rfl rfl (any_of HT_.out (by kernel_rfl)) (fun _ _ _ h => h) (Or.inl ⟨by rfl, ?_⟩) ?_ ?_
                      rotate_left
                      · intro w'
                        go_simp
                        with_reducible rfl
                      rotate_left
                      · simp only [Act.put, List.setIfInBounds_toArray, List.set_cons_zero, List.set_cons_succ, i64_w, i32_w]
                        rfl
                      refine pure_ (i := 2) (N := some 74) (v := ?_) (a' := ?_) #[true, true, true, false, false, false, false, false, false, false, false, false, false, false, false, false, false, false, false, false, false, false, false, false] rfl rfl (any_of HT_.out (by kernel_rfl)) (fun _ _ _ h => h) (Or.inl ⟨by rfl, ?_⟩) ?_ ?_
                      rotate_left
                      · intro w'
                        go_simp
                        with_reducible rfl
                      rotate_left
                      · simp only [Act.put, List.setIfInBounds_toArray, List.set_cons_zero, List.set_cons_succ, i64_w, i32_w]
                        rfl
                      refine pure_ (i := 3) (N := some 75) (v := ?_) (a' := ?_) #[true, true, true, true, false, false, false, false, false, false, false, false, false, false, false, false, false, false, false, false, false, false, false, false] rfl rfl (any_of HT_.out (by kernel_rfl)) (fun _ _ _ h => h) (Or.inl ⟨by rfl, ?_⟩) ?_ ?_
                      rotate_left
                      · intro w'
                        go_simp
                        with_reducible rfl
                      rotate_left
                      · simp only [Act.put, List.setIfInBounds_toArray, List.set_cons_zero, List.set_cons_succ, i64_w, i32_w]
                        rfl
                      refine pure_ (i := 4) (N := some 76) (v := ?_) (a' := ?_) #[true, true, true, true, true, false, false, false, false, false, false, false, false, false, false, false, false, false, false, false, false, false, false, false] rfl rfl (any_of HT_.out (by kernel_rfl)) (fun _ _ _ h => h) (Or.inl ⟨by rfl, ?_⟩) ?_ ?_
                      rotate_left
                      · intro w'
                        go_simp
                        with_reducible rfl
                      rotate_left
                      · simp only [Act.put, List.setIfInBounds_toArray, List.set_cons_zero, List.set_cons_succ, i64_w, i32_w]
                        rfl
                      refine take_ (i := 5) (N := some 77) (v := ?_) (a' := ?_) #[true, true, true, true, true, true, false, false, false, false, false, false, false, false, false, false, false, false, false, false, false, false, false, false] rfl rfl (take_ofW HT_.out HW_.out (by kernel_rfl)) (fun _ _ _ h => h) (Or.inl ⟨by rfl, ?_⟩) hHeld ?_ ?_
                      rotate_left
                      · rintro w' ⟨s0, s1, s2, s3, s4, s5⟩
                        go_simp
                        with_reducible rfl
                      rotate_left
                      · simp only [Act.put, List.setIfInBounds_toArray, List.set_cons_zero, List.set_cons_succ, i64_w, i32_w]
                        rfl
                      refine take_ (i := 6) (N := some 78) (v := ?_) (a' := ?_) #[true, true, true, true, true, true, true, false, false, false, false, false, false, false, false, false, false, false, false, false, false, false, false, false] rfl rfl (take_ofW HT_.out HW_.out (by kernel_rfl)) (fun _ _ _ h => h) (Or.inl ⟨by rfl, ?_⟩) hHeld ?_ ?_
                      rotate_left
                      · rintro w' ⟨s0, s1, s2, s3, s4, s5⟩
                        go_simp
                        with_reducible rfl
                      rotate_left
                      · simp only [Act.put, List.setIfInBounds_toArray, List.set_cons_zero, List.set_cons_succ, i64_w, i32_w]
                        rfl
                      refine pure_ (i := 7) (N := some 79) (v := ?_) (a' := ?_) #[true, true, true, true, true, true, true, true, false, false, false, false, false, false, false, false, false, false, false, false, false, false, false, false] rfl rfl (any_of HT_.out (by kernel_rfl)) (fun _ _ _ h => h) (Or.inl ⟨by rfl, ?_⟩) ?_ ?_
                      rotate_left
                      · intro w'
                        go_simp
                        with_reducible rfl
                      rotate_left
                      · simp only [Act.put, List.setIfInBounds_toArray, List.set_cons_zero, List.set_cons_succ, i64_w, i32_w]
                        rfl
                      refine pure_ (i := 8) (N := some 80) (v := ?_) (a' := ?_) #[true, true, true, true, true, true, true, true, true, false, false, false, false, false, false, false, false, false, false, false, false, false, false, false] rfl rfl (any_of HT_.out (by kernel_rfl)) (fun _ _ _ h => h) (Or.inl ⟨by rfl, ?_⟩) ?_ ?_
                      rotate_left
                      · intro w'
                        go_simp
                        with_reducible rfl
                      rotate_left
                      · simp only [Act.put, List.setIfInBounds_toArray, List.set_cons_zero, List.set_cons_succ, i64_w, i32_w]
                        rfl
                      refine pure_ (i := 9) (N := some 81) (v := ?_) (a' := ?_) #[true, true, true, true, true, true, true, true, true, true, false, false, false, false, false, false, false, false, false, false, false, false, false, false] rfl rfl (any_of HT_.out (by kernel_rfl)) (fun _ _ _ h => h) (Or.inl ⟨by rfl, ?_⟩) ?_ ?_
                      rotate_left
                      · intro w'
                        go_simp
                        with_reducible rfl
                      rotate_left
                      · simp only [Act.put, List.setIfInBounds_toArray, List.set_cons_zero, List.set_cons_succ, i64_w, i32_w]
                        rfl
                      refine take_ (i := 10) (N := some 82) (v := ?_) (a' := ?_) #[true, true, true, true, true, true, true, true, true, true, true, false, false, false, false, false, false, false, false, false, false, false, false, false] rfl rfl (take_ofW HT_.out HW_.out (by kernel_rfl)) (fun _ _ _ h => h) (Or.inl ⟨by rfl, ?_⟩) hHeld ?_ ?_
                      rotate_left
                      · rintro w' ⟨s0, s1, s2, s3, s4, s5⟩
                        go_simp
                        with_reducible rfl
                      rotate_left
                      · simp only [Act.put, List.setIfInBounds_toArray, List.set_cons_zero, List.set_cons_succ, i64_w, i32_w]
                        rfl
                      refine take_ (i := 11) (N := some 83) (v := ?_) (a' := ?_) #[true, true, true, true, true, true, true, true, true, true, true, true, false, false, false, false, false, false, false, false, false, false, false, false] rfl rfl (take_ofW HT_.out HW_.out (by kernel_rfl)) (fun _ _ _ h => h) (Or.inl ⟨by rfl, ?_⟩) hHeld ?_ ?_
                      rotate_left
                      · rintro w' ⟨s0, s1, s2, s3, s4, s5⟩
                        go_simp
                        with_reducible rfl
                      rotate_left
                      · simp only [Act.put, List.setIfInBounds_toArray, List.set_cons_zero, List.set_cons_succ, i64_w, i32_w]
                        rfl
                      refine take_ (i := 13) (N := some 85) (v := ?_) (a' := ?_) #[true, true, true, true, true, true, true, true, true, true, true, true, false, true, false, false, false, false, false, false, false, false, false, false] rfl rfl (take_ofW HT_.out HW_.out (by kernel_rfl)) (fun _ _ _ h => h) (Or.inl ⟨by rfl, ?_⟩) hHeld ?_ ?_
                      rotate_left
                      · rintro w' ⟨s0, s1, s2, s3, s4, s5⟩
                        go_simp
                        with_reducible rfl
                      rotate_left
                      · simp only [Act.put, List.setIfInBounds_toArray, List.set_cons_zero, List.set_cons_succ, i64_w, i32_w]
                        rfl
                      refine one_ (i := 12) (N := some 84) #[true, true, true, true, true, true, true, true, true, true, true, true, true, true, false, false, false, false, false, false, false, false, false, false] rfl rfl (one_of HT_.out (by kernel_rfl)) (by decide) (fun K hK => ?_)
                      refine goes_ Try.func32 (by kernel_rfl) rfl #[.agg #[.int .i64 a0_0, .int .i64 a0_1], .agg #[.int .i64 a1_0, .int .i64 a1_1]] (by rfl) rfl rfl (by (try simp only [List.map_toArray, List.map_cons, List.map_nil]); first | done | rfl | (simp only [List.length_drop, List.length_take]; rfl)) ?_
                      with_reducible refine (clock_Hull.calls a0_0 a0_1 a1_0 a1_1 t374 t375 _ A187.out).mono ?_
                      rintro e w196 ⟨rfl, hb⟩
                      refine ⟨_, rfl, ?_⟩
                      have n0_ := Aside0.mk (blk_below (pk BK350.out) hb)
                      have n1_ := Aside0.mk (blk_below (pk BK351.out) hb)
                      have n2_ := Aside0.mk (blk_below (pk BK358.out) hb)
                      have n3_ := Aside0.mk (below_step (bk HB.out) hb)
                      clear BK350
                      clear BK351
                      clear BK358
                      clear HB
                      have BK350 := n0_
                      have BK351 := n1_
                      have BK358 := n2_
                      have HB := n3_
                      clear n0_ n1_ n2_ n3_
                      (try clear hb)
                      (try clear hb2)
                      (try clear hk)
                      (try clear hi)
                      refine hK.out _ _ ⟨(blk_cell BK358.out 0).trans rfl, (blk_cell BK358.out 1).trans rfl, (blk_cell BK351.out 0).trans rfl, (blk_cell BK351.out 1).trans rfl, (blk_cell BK350.out 0).trans rfl, (blk_cell BK350.out 1).trans rfl⟩ (fun hHeld => ?_)
                      clear hK K
                      refine norm_ (a' := ?_) ?_ ?_
                      rotate_left
                      · show Act.put _ (some 84) _ = _
                        simp only [Act.put, List.setIfInBounds_toArray, List.set_cons_zero, List.set_cons_succ, i64_w, i32_w]
                        rfl
                      refine pure_ (i := 14) (N := some 86) (v := ?_) (a' := ?_) #[true, true, true, true, true, true, true, true, true, true, true, true, true, true, true, false, false, false, false, false, false, false, false, false] rfl rfl (any_of HT_.out (by kernel_rfl)) (fun _ _ _ h => h) (Or.inl ⟨by rfl, ?_⟩) ?_ ?_
                      rotate_left
                      · intro w'
                        go_simp
                        with_reducible rfl
                      rotate_left
                      · simp only [Act.put, List.setIfInBounds_toArray, List.set_cons_zero, List.set_cons_succ, i64_w, i32_w]
                        rfl
                      refine pure_ (i := 15) (N := some 87) (v := ?_) (a' := ?_) #[true, true, true, true, true, true, true, true, true, true, true, true, true, true, true, true, false, false, false, false, false, false, false, false] rfl rfl (any_of HT_.out (by kernel_rfl)) (fun _ _ _ h => h) (Or.inl ⟨by rfl, ?_⟩) ?_ ?_
                      rotate_left
                      · intro w'
                        go_simp
                        with_reducible rfl
                      rotate_left
                      · simp only [Act.put, List.setIfInBounds_toArray, List.set_cons_zero, List.set_cons_succ, i64_w, i32_w]
                        rfl
                      refine pure_ (i := 16) (N := some 88) (v := ?_) (a' := ?_) #[true, true, true, true, true, true, true, true, true, true, true, true, true, true, true, true, true, false, false, false, false, false, false, false] rfl rfl (any_of HT_.out (by kernel_rfl)) (fun _ _ _ h => h) (Or.inl ⟨by rfl, ?_⟩) ?_ ?_
                      rotate_left
                      · intro w'
                        go_simp
                        with_reducible rfl
                      rotate_left
                      · simp only [Act.put, List.setIfInBounds_toArray, List.set_cons_zero, List.set_cons_succ, i64_w, i32_w]
                        rfl
                      refine pure_ (i := 17) (N := some 89) (v := undef) (a' := ?_) #[true, true, true, true, true, true, true, true, true, true, true, true, true, true, true, true, true, true, false, false, false, false, false, false] rfl rfl (any_of HT_.out (by kernel_rfl)) (fun _ _ _ h => h) (Or.inr ⟨by rfl, rfl⟩) ?_ ?_
                      rotate_left
                      · simp only [Act.put, List.setIfInBounds_toArray, List.set_cons_zero, List.set_cons_succ, i64_w, i32_w]
                        rfl
                      refine pure_ (i := 18) (N := some 90) (v := undef) (a' := ?_) #[true, true, true, true, true, true, true, true, true, true, true, true, true, true, true, true, true, true, true, false, false, false, false, false] rfl rfl (any_of HT_.out (by kernel_rfl)) (fun _ _ _ h => h) (Or.inr ⟨by rfl, rfl⟩) ?_ ?_
                      rotate_left
                      · simp only [Act.put, List.setIfInBounds_toArray, List.set_cons_zero, List.set_cons_succ, i64_w, i32_w]
                        rfl
                      refine pure_ (i := 19) (N := some 91) (v := undef) (a' := ?_) #[true, true, true, true, true, true, true, true, true, true, true, true, true, true, true, true, true, true, true, true, false, false, false, false] rfl rfl (any_of HT_.out (by kernel_rfl)) (fun _ _ _ h => h) (Or.inr ⟨by rfl, rfl⟩) ?_ ?_
                      rotate_left
                      · simp only [Act.put, List.setIfInBounds_toArray, List.set_cons_zero, List.set_cons_succ, i64_w, i32_w]
                        rfl
                      refine pure_ (i := 20) (N := some 92) (v := undef) (a' := ?_) #[true, true, true, true, true, true, true, true, true, true, true, true, true, true, true, true, true, true, true, true, true, false, false, false] rfl rfl (any_of HT_.out (by kernel_rfl)) (fun _ _ _ h => h) (Or.inr ⟨by rfl, rfl⟩) ?_ ?_
                      rotate_left
                      · simp only [Act.put, List.setIfInBounds_toArray, List.set_cons_zero, List.set_cons_succ, i64_w, i32_w]
                        rfl
                      refine pure_ (i := 21) (N := some 93) (v := undef) (a' := ?_) #[true, true, true, true, true, true, true, true, true, true, true, true, true, true, true, true, true, true, true, true, true, true, false, false] rfl rfl (any_of HT_.out (by kernel_rfl)) (fun _ _ _ h => h) (Or.inr ⟨by rfl, rfl⟩) ?_ ?_
                      rotate_left
                      · simp only [Act.put, List.setIfInBounds_toArray, List.set_cons_zero, List.set_cons_succ, i64_w, i32_w]
                        rfl
                      refine pure_ (i := 22) (N := some 94) (v := ?_) (a' := ?_) #[true, true, true, true, true, true, true, true, true, true, true, true, true, true, true, true, true, true, true, true, true, true, true, false] rfl rfl (any_of HT_.out (by kernel_rfl)) (fun _ _ _ h => h) (Or.inl ⟨by rfl, ?_⟩) ?_ ?_
                      rotate_left
                      · intro w'
                        go_simp
                        with_reducible rfl
                      rotate_left
                      · simp only [Act.put, List.setIfInBounds_toArray, List.set_cons_zero, List.set_cons_succ, i64_w, i32_w]
                        rfl
                      refine pure_ (i := 23) (N := some 6) (v := ?_) (a' := ?_) #[true, true, true, true, true, true, true, true, true, true, true, true, true, true, true, true, true, true, true, true, true, true, true, true] rfl rfl (any_of HT_.out (by kernel_rfl)) (fun _ _ _ h => h) (Or.inl ⟨by rfl, ?_⟩) ?_ ?_
                      rotate_left
                      · intro w'
                        go_simp
                        with_reducible rfl
                      rotate_left
                      · simp only [Act.put, List.setIfInBounds_toArray, List.set_cons_zero, List.set_cons_succ, i64_w, i32_w]
                        rfl
                      refine done_ (done_of HT_.out (by kernel_rfl)) ?_
                      try go_wp2
                      go_ret
                      exact ⟨by first | rfl | (simp [errW_none, errW_some] <;> rfl) | (simp [*, errW_none, errW_some] <;> rfl), bk HB.out⟩
                  · rw [if_neg c186] at H
                    have c186b0 : (t355 == a1_0 && (t356 == a1_1)) = false := by simpa using c186
                    (try (have c186b1 : decide (t355 = a1_0 && (t356 == a1_1)) = false := by simpa using c186))
                    (try (have c186b2 : (t355 == a1_0 && (t356 == a1_1)) = false := by simpa using c186))
                    (try (have c186b3 : ¬ (t355 = a1_0 && (t356 == a1_1)) := by simpa using c186))
                    clear c186
                    obtain rfl := Option.some.inj H
                    try go_wp2
                    have n0_ := Aside0.mk (blk_drew BK350.out)
                    have n1_ := Aside0.mk (blk_drew BK351.out)
                    have n2_ := Aside0.mk (blk_drew BK358.out)
                    have n3_ := Aside0.mk (below_drew1 HB.out)
                    clear BK350
                    clear BK351
                    clear BK358
                    clear HB
                    have BK350 := n0_
                    have BK351 := n1_
                    have BK358 := n2_
                    have HB := n3_
                    clear n0_ n1_ n2_ n3_
                    refine start_ (n := 24) (S := fun w' => w'.cell? ⟨gb358, 0, none⟩ = some (.int .i64 t355) ∧ w'.cell? ⟨gb358, 1, none⟩ = some (.int .i64 t356) ∧ w'.cell? ⟨gb351, 0, none⟩ = some (.int .i64 a1_0) ∧ w'.cell? ⟨gb351, 1, none⟩ = some (.int .i64 a1_1)) (ds := []) #[false, false, false, false, false, false, false, false, false, false, false, false, false, false, false, false, false, false, false, false, false, false, false, false] (by kernel_rfl) rfl rfl ⟨(blk_cell BK358.out 0).trans rfl, (blk_cell BK358.out 1).trans rfl, (blk_cell BK351.out 0).trans rfl, (blk_cell BK351.out 1).trans rfl⟩ (fun hHeld => ?_); refine with_tabW weirgatelaw05_ClockIsSureOrNot.tab8 weirgatelaw05_ClockIsSureOrNot.bits8 (fun HT_ HW_ => ?_)
                    generalize wc.drew = w197 at BK350 BK351 BK358 HB hHeld ⊢
                    refine one_ (i := 0) (N := some 72) #[true, false, false, false, false, false, false, false, false, false, false, false, false, false, false, false, false, false, false, false, false, false, false, false] rfl rfl (one_of HT_.out (by kernel_rfl)) (by decide) (fun K hK => ?_)
                    refine goes_ Try.func13 (by kernel_rfl) rfl #[] (by rfl) rfl rfl (by (try simp only [List.map_toArray, List.map_cons, List.map_nil]); first | done | rfl | (simp only [List.length_drop, List.length_take]; rfl)) ?_
                    with_reducible refine (weirgatelaw05_sanity.calls kj26  true _ A183.out).mono ?_
                    rintro e w198 ⟨rfl, hb⟩
                    refine ⟨_, rfl, ?_⟩
                    have n0_ := Aside0.mk (blk_below (pk BK350.out) hb)
                    have n1_ := Aside0.mk (blk_below (pk BK351.out) hb)
                    have n2_ := Aside0.mk (blk_below (pk BK358.out) hb)
                    have n3_ := Aside0.mk (below_step (bk HB.out) hb)
                    clear BK350
                    clear BK351
                    clear BK358
                    clear HB
                    have BK350 := n0_
                    have BK351 := n1_
                    have BK358 := n2_
                    have HB := n3_
                    clear n0_ n1_ n2_ n3_
                    (try clear hb)
                    (try clear hb2)
                    (try clear hk)
                    (try clear hi)
                    refine hK.out _ _ ⟨(blk_cell BK358.out 0).trans rfl, (blk_cell BK358.out 1).trans rfl, (blk_cell BK351.out 0).trans rfl, (blk_cell BK351.out 1).trans rfl⟩ (fun hHeld => ?_)
                    clear hK K
                    refine norm_ (a' := ?_) ?_ ?_
                    rotate_left
                    · show Act.put _ (some 72) _ = _
                      simp only [Act.put, List.setIfInBounds_toArray, List.set_cons_zero, List.set_cons_succ, i64_w, i32_w]
                      rfl
                    refine pure_ (i := 1) (N := some 73) (v := ?_) (a' := ?_) #[true, true, false, false, false, false, false, false, false, false, false, false, false, false, false, false, false, false, false, false, false, false, false, false] rfl rfl (any_of HT_.out (by kernel_rfl)) (fun _ _ _ h => h) (Or.inl ⟨by rfl, ?_⟩) ?_ ?_
                    rotate_left
                    · intro w'
                      go_simp
                      with_reducible rfl
                    rotate_left
                    · simp only [Act.put, List.setIfInBounds_toArray, List.set_cons_zero, List.set_cons_succ, i64_w, i32_w]
                      rfl
                    refine pure_ (i := 2) (N := some 74) (v := ?_) (a' := ?_) #[true, true, true, false, false, false, false, false, false, false, false, false, false, false, false, false, false, false, false, false, false, false, false, false] rfl rfl (any_of HT_.out (by kernel_rfl)) (fun _ _ _ h => h) (Or.inl ⟨by rfl, ?_⟩) ?_ ?_
                    rotate_left
                    · intro w'
                      go_simp
                      with_reducible rfl
                    rotate_left
                    · simp only [Act.put, List.setIfInBounds_toArray, List.set_cons_zero, List.set_cons_succ, i64_w, i32_w]
                      rfl
                    refine pure_ (i := 3) (N := some 75) (v := ?_) (a' := ?_) #[true, true, true, true, false, false, false, false, false, false, false, false, false, false, false, false, false, false, false, false, false, false, false, false] rfl rfl (any_of HT_.out (by kernel_rfl)) (fun _ _ _ h => h) (Or.inl ⟨by rfl, ?_⟩) ?_ ?_
                    rotate_left
                    · intro w'
                      go_simp
                      with_reducible rfl
                    rotate_left
                    · simp only [Act.put, List.setIfInBounds_toArray, List.set_cons_zero, List.set_cons_succ, i64_w, i32_w]
                      rfl
                    refine pure_ (i := 4) (N := some 76) (v := ?_) (a' := ?_) #[true, true, true, true, true, false, false, false, false, false, false, false, false, false, false, false, false, false, false, false, false, false, false, false] rfl rfl (any_of HT_.out (by kernel_rfl)) (fun _ _ _ h => h) (Or.inl ⟨by rfl, ?_⟩) ?_ ?_
                    rotate_left
                    · intro w'
                      go_simp
                      with_reducible rfl
                    rotate_left
                    · simp only [Act.put, List.setIfInBounds_toArray, List.set_cons_zero, List.set_cons_succ, i64_w, i32_w]
                      rfl
                    refine take_ (i := 5) (N := some 77) (v := ?_) (a' := ?_) #[true, true, true, true, true, true, false, false, false, false, false, false, false, false, false, false, false, false, false, false, false, false, false, false] rfl rfl (take_ofW HT_.out HW_.out (by kernel_rfl)) (fun _ _ _ h => h) (Or.inl ⟨by rfl, ?_⟩) hHeld ?_ ?_
                    rotate_left
                    · rintro w' ⟨s0, s1, s2, s3⟩
                      go_simp
                      with_reducible rfl
                    rotate_left
                    · simp only [Act.put, List.setIfInBounds_toArray, List.set_cons_zero, List.set_cons_succ, i64_w, i32_w]
                      rfl
                    refine take_ (i := 6) (N := some 78) (v := ?_) (a' := ?_) #[true, true, true, true, true, true, true, false, false, false, false, false, false, false, false, false, false, false, false, false, false, false, false, false] rfl rfl (take_ofW HT_.out HW_.out (by kernel_rfl)) (fun _ _ _ h => h) (Or.inl ⟨by rfl, ?_⟩) hHeld ?_ ?_
                    rotate_left
                    · rintro w' ⟨s0, s1, s2, s3⟩
                      go_simp
                      with_reducible rfl
                    rotate_left
                    · simp only [Act.put, List.setIfInBounds_toArray, List.set_cons_zero, List.set_cons_succ, i64_w, i32_w]
                      rfl
                    refine pure_ (i := 7) (N := some 79) (v := ?_) (a' := ?_) #[true, true, true, true, true, true, true, true, false, false, false, false, false, false, false, false, false, false, false, false, false, false, false, false] rfl rfl (any_of HT_.out (by kernel_rfl)) (fun _ _ _ h => h) (Or.inl ⟨by rfl, ?_⟩) ?_ ?_
                    rotate_left
                    · intro w'
                      go_simp
                      with_reducible rfl
                    rotate_left
                    · simp only [Act.put, List.setIfInBounds_toArray, List.set_cons_zero, List.set_cons_succ, i64_w, i32_w]
                      rfl
                    refine pure_ (i := 8) (N := some 80) (v := ?_) (a' := ?_) #[true, true, true, true, true, true, true, true, true, false, false, false, false, false, false, false, false, false, false, false, false, false, false, false] rfl rfl (any_of HT_.out (by kernel_rfl)) (fun _ _ _ h => h) (Or.inl ⟨by rfl, ?_⟩) ?_ ?_
                    rotate_left
                    · intro w'
                      go_simp
                      with_reducible rfl
                    rotate_left
                    · simp only [Act.put, List.setIfInBounds_toArray, List.set_cons_zero, List.set_cons_succ, i64_w, i32_w]
                      rfl
                    refine pure_ (i := 9) (N := some 81) (v := ?_) (a' := ?_) #[true, true, true, true, true, true, true, true, true, true, false, false, false, false, false, false, false, false, false, false, false, false, false, false] rfl rfl (any_of HT_.out (by kernel_rfl)) (fun _ _ _ h => h) (Or.inl ⟨by rfl, ?_⟩) ?_ ?_
                    rotate_left
                    · intro w'
                      go_simp
                      with_reducible rfl
                    rotate_left
                    · simp only [Act.put, List.setIfInBounds_toArray, List.set_cons_zero, List.set_cons_succ, i64_w, i32_w]
                      rfl
                    refine pure_ (i := 10) (N := some 82) (v := undef) (a' := ?_) #[true, true, true, true, true, true, true, true, true, true, true, false, false, false, false, false, false, false, false, false, false, false, false, false] rfl rfl (any_of HT_.out (by kernel_rfl)) (fun _ _ _ h => h) (Or.inr ⟨by rfl, rfl⟩) ?_ ?_
                    rotate_left
                    · simp only [Act.put, List.setIfInBounds_toArray, List.set_cons_zero, List.set_cons_succ, i64_w, i32_w]
                      rfl
                    refine pure_ (i := 11) (N := some 83) (v := undef) (a' := ?_) #[true, true, true, true, true, true, true, true, true, true, true, true, false, false, false, false, false, false, false, false, false, false, false, false] rfl rfl (any_of HT_.out (by kernel_rfl)) (fun _ _ _ h => h) (Or.inr ⟨by rfl, rfl⟩) ?_ ?_
                    rotate_left
                    · simp only [Act.put, List.setIfInBounds_toArray, List.set_cons_zero, List.set_cons_succ, i64_w, i32_w]
                      rfl
                    refine pure_ (i := 12) (N := some 84) (v := undef) (a' := ?_) #[true, true, true, true, true, true, true, true, true, true, true, true, true, false, false, false, false, false, false, false, false, false, false, false] rfl rfl (any_of HT_.out (by kernel_rfl)) (fun _ _ _ h => h) (Or.inr ⟨by rfl, rfl⟩) ?_ ?_
                    rotate_left
                    · simp only [Act.put, List.setIfInBounds_toArray, List.set_cons_zero, List.set_cons_succ, i64_w, i32_w]
                      rfl
                    refine pure_ (i := 13) (N := some 85) (v := undef) (a' := ?_) #[true, true, true, true, true, true, true, true, true, true, true, true, true, true, false, false, false, false, false, false, false, false, false, false] rfl rfl (any_of HT_.out (by kernel_rfl)) (fun _ _ _ h => h) (Or.inr ⟨by rfl, rfl⟩) ?_ ?_
                    rotate_left
                    · simp only [Act.put, List.setIfInBounds_toArray, List.set_cons_zero, List.set_cons_succ, i64_w, i32_w]
                      rfl
                    refine pure_ (i := 14) (N := some 86) (v := undef) (a' := ?_) #[true, true, true, true, true, true, true, true, true, true, true, true, true, true, true, false, false, false, false, false, false, false, false, false] rfl rfl (any_of HT_.out (by kernel_rfl)) (fun _ _ _ h => h) (Or.inr ⟨by rfl, rfl⟩) ?_ ?_
                    rotate_left
                    · simp only [Act.put, List.setIfInBounds_toArray, List.set_cons_zero, List.set_cons_succ, i64_w, i32_w]
                      rfl
                    refine pure_ (i := 15) (N := some 87) (v := ?_) (a' := ?_) #[true, true, true, true, true, true, true, true, true, true, true, true, true, true, true, true, false, false, false, false, false, false, false, false] rfl rfl (any_of HT_.out (by kernel_rfl)) (fun _ _ _ h => h) (Or.inl ⟨by rfl, ?_⟩) ?_ ?_
                    rotate_left
                    · intro w'
                      go_simp
                      with_reducible rfl
                    rotate_left
                    · simp only [Act.put, List.setIfInBounds_toArray, List.set_cons_zero, List.set_cons_succ, i64_w, i32_w]
                      rfl
                    refine pure_ (i := 16) (N := some 88) (v := ?_) (a' := ?_) #[true, true, true, true, true, true, true, true, true, true, true, true, true, true, true, true, true, false, false, false, false, false, false, false] rfl rfl (any_of HT_.out (by kernel_rfl)) (fun _ _ _ h => h) (Or.inl ⟨by rfl, ?_⟩) ?_ ?_
                    rotate_left
                    · intro w'
                      go_simp
                      with_reducible rfl
                    rotate_left
                    · simp only [Act.put, List.setIfInBounds_toArray, List.set_cons_zero, List.set_cons_succ, i64_w, i32_w]
                      rfl
                    refine pure_ (i := 17) (N := some 89) (v := undef) (a' := ?_) #[true, true, true, true, true, true, true, true, true, true, true, true, true, true, true, true, true, true, false, false, false, false, false, false] rfl rfl (any_of HT_.out (by kernel_rfl)) (fun _ _ _ h => h) (Or.inr ⟨by rfl, rfl⟩) ?_ ?_
                    rotate_left
                    · simp only [Act.put, List.setIfInBounds_toArray, List.set_cons_zero, List.set_cons_succ, i64_w, i32_w]
                      rfl
                    refine pure_ (i := 18) (N := some 90) (v := undef) (a' := ?_) #[true, true, true, true, true, true, true, true, true, true, true, true, true, true, true, true, true, true, true, false, false, false, false, false] rfl rfl (any_of HT_.out (by kernel_rfl)) (fun _ _ _ h => h) (Or.inr ⟨by rfl, rfl⟩) ?_ ?_
                    rotate_left
                    · simp only [Act.put, List.setIfInBounds_toArray, List.set_cons_zero, List.set_cons_succ, i64_w, i32_w]
                      rfl
                    refine pure_ (i := 19) (N := some 91) (v := undef) (a' := ?_) #[true, true, true, true, true, true, true, true, true, true, true, true, true, true, true, true, true, true, true, true, false, false, false, false] rfl rfl (any_of HT_.out (by kernel_rfl)) (fun _ _ _ h => h) (Or.inr ⟨by rfl, rfl⟩) ?_ ?_
                    rotate_left
                    · simp only [Act.put, List.setIfInBounds_toArray, List.set_cons_zero, List.set_cons_succ, i64_w, i32_w]
                      rfl
                    refine pure_ (i := 20) (N := some 92) (v := undef) (a' := ?_) #[true, true, true, true, true, true, true, true, true, true, true, true, true, true, true, true, true, true, true, true, true, false, false, false] rfl rfl (any_of HT_.out (by kernel_rfl)) (fun _ _ _ h => h) (Or.inr ⟨by rfl, rfl⟩) ?_ ?_
                    rotate_left
                    · simp only [Act.put, List.setIfInBounds_toArray, List.set_cons_zero, List.set_cons_succ, i64_w, i32_w]
                      rfl
                    refine pure_ (i := 21) (N := some 93) (v := undef) (a' := ?_) #[true, true, true, true, true, true, true, true, true, true, true, true, true, true, true, true, true, true, true, true, true, true, false, false] rfl rfl (any_of HT_.out (by kernel_rfl)) (fun _ _ _ h => h) (Or.inr ⟨by rfl, rfl⟩) ?_ ?_
                    rotate_left
                    · simp only [Act.put, List.setIfInBounds_toArray, List.set_cons_zero, List.set_cons_succ, i64_w, i32_w]
                      rfl
                    refine pure_ (i := 22) (N := some 94) (v := ?_) (a' := ?_) #[true, true, true, true, true, true, true, true, true, true, true, true, true, true, true, true, true, true, true, true, true, true, true, false] rfl rfl (any_of HT_.out (by kernel_rfl)) (fun _ _ _ h => h) (Or.inl ⟨by rfl, ?_⟩) ?_ ?_
                    rotate_left
                    · intro w'
                      go_simp
                      with_reducible rfl
                    rotate_left
                    · simp only [Act.put, List.setIfInBounds_toArray, List.set_cons_zero, List.set_cons_succ, i64_w, i32_w]
                      rfl
                    refine pure_ (i := 23) (N := some 6) (v := ?_) (a' := ?_) #[true, true, true, true, true, true, true, true, true, true, true, true, true, true, true, true, true, true, true, true, true, true, true, true] rfl rfl (any_of HT_.out (by kernel_rfl)) (fun _ _ _ h => h) (Or.inl ⟨by rfl, ?_⟩) ?_ ?_
                    rotate_left
                    · intro w'
                      go_simp
                      with_reducible rfl
                    rotate_left
                    · simp only [Act.put, List.setIfInBounds_toArray, List.set_cons_zero, List.set_cons_succ, i64_w, i32_w]
                      rfl
                    refine done_ (done_of HT_.out (by kernel_rfl)) ?_
                    try go_wp2
                    go_ret
                    exact ⟨by first | rfl | (simp [errW_none, errW_some] <;> rfl) | (simp [*, errW_none, errW_some] <;> rfl), bk HB.out⟩
                · replace c185 := Bool.eq_false_iff.mpr c185
                  subst c185
                  have H1 : (some false) = some r := by rw [if_neg (show ¬ (false = true) by decide)] at H; exact H
                  clear H
                  have H := H1
                  clear H1
                  obtain rfl := Option.some.inj H
                  try go_wp2
                  have n0_ := Aside0.mk (blk_drew BK350.out)
                  have n1_ := Aside0.mk (blk_drew BK351.out)
                  have n2_ := Aside0.mk (blk_drew BK358.out)
                  have n3_ := Aside0.mk (below_drew1 HB.out)
                  clear BK350
                  clear BK351
                  clear BK358
                  clear HB
                  have BK350 := n0_
                  have BK351 := n1_
                  have BK358 := n2_
                  have HB := n3_
                  clear n0_ n1_ n2_ n3_
                  refine start_ (n := 24) (S := fun w' => True) (ds := []) #[false, false, false, false, false, false, false, false, false, false, false, false, false, false, false, false, false, false, false, false, false, false, false, false] (by kernel_rfl) rfl rfl trivial (fun hHeld => ?_); refine with_tabW weirgatelaw05_ClockIsSureOrNot.tab8 weirgatelaw05_ClockIsSureOrNot.bits8 (fun HT_ HW_ => ?_)
                  generalize wc.drew = w199 at BK350 BK351 BK358 HB hHeld ⊢
                  refine one_ (i := 0) (N := some 72) #[true, false, false, false, false, false, false, false, false, false, false, false, false, false, false, false, false, false, false, false, false, false, false, false] rfl rfl (one_of HT_.out (by kernel_rfl)) (by decide) (fun K hK => ?_)
                  refine goes_ Try.func13 (by kernel_rfl) rfl #[] (by rfl) rfl rfl (by (try simp only [List.map_toArray, List.map_cons, List.map_nil]); first | done | rfl | (simp only [List.length_drop, List.length_take]; rfl)) ?_
                  with_reducible refine (weirgatelaw05_sanity.calls kj26  true _ A183.out).mono ?_
                  rintro e w200 ⟨rfl, hb⟩
                  refine ⟨_, rfl, ?_⟩
                  have n0_ := Aside0.mk (blk_below (pk BK350.out) hb)
                  have n1_ := Aside0.mk (blk_below (pk BK351.out) hb)
                  have n2_ := Aside0.mk (blk_below (pk BK358.out) hb)
                  have n3_ := Aside0.mk (below_step (bk HB.out) hb)
                  clear BK350
                  clear BK351
                  clear BK358
                  clear HB
                  have BK350 := n0_
                  have BK351 := n1_
                  have BK358 := n2_
                  have HB := n3_
                  clear n0_ n1_ n2_ n3_
                  (try clear hb)
                  (try clear hb2)
                  (try clear hk)
                  (try clear hi)
                  refine hK.out _ _ trivial (fun hHeld => ?_)
                  clear hK K
                  refine norm_ (a' := ?_) ?_ ?_
                  rotate_left
                  · show Act.put _ (some 72) _ = _
                    simp only [Act.put, List.setIfInBounds_toArray, List.set_cons_zero, List.set_cons_succ, i64_w, i32_w]
                    rfl
                  refine pure_ (i := 1) (N := some 73) (v := ?_) (a' := ?_) #[true, true, false, false, false, false, false, false, false, false, false, false, false, false, false, false, false, false, false, false, false, false, false, false] rfl rfl (any_of HT_.out (by kernel_rfl)) (fun _ _ _ h => h) (Or.inl ⟨by rfl, ?_⟩) ?_ ?_
                  rotate_left
                  · intro w'
                    go_simp
                    with_reducible rfl
                  rotate_left
                  · simp only [Act.put, List.setIfInBounds_toArray, List.set_cons_zero, List.set_cons_succ, i64_w, i32_w]
                    rfl
                  refine pure_ (i := 2) (N := some 74) (v := ?_) (a' := ?_) #[true, true, true, false, false, false, false, false, false, false, false, false, false, false, false, false, false, false, false, false, false, false, false, false] rfl rfl (any_of HT_.out (by kernel_rfl)) (fun _ _ _ h => h) (Or.inl ⟨by rfl, ?_⟩) ?_ ?_
                  rotate_left
                  · intro w'
                    go_simp
                    with_reducible rfl
                  rotate_left
                  · simp only [Act.put, List.setIfInBounds_toArray, List.set_cons_zero, List.set_cons_succ, i64_w, i32_w]
                    rfl
                  refine pure_ (i := 3) (N := some 75) (v := ?_) (a' := ?_) #[true, true, true, true, false, false, false, false, false, false, false, false, false, false, false, false, false, false, false, false, false, false, false, false] rfl rfl (any_of HT_.out (by kernel_rfl)) (fun _ _ _ h => h) (Or.inl ⟨by rfl, ?_⟩) ?_ ?_
                  rotate_left
                  · intro w'
                    go_simp
                    with_reducible rfl
                  rotate_left
                  · simp only [Act.put, List.setIfInBounds_toArray, List.set_cons_zero, List.set_cons_succ, i64_w, i32_w]
                    rfl
                  refine pure_ (i := 4) (N := some 76) (v := ?_) (a' := ?_) #[true, true, true, true, true, false, false, false, false, false, false, false, false, false, false, false, false, false, false, false, false, false, false, false] rfl rfl (any_of HT_.out (by kernel_rfl)) (fun _ _ _ h => h) (Or.inl ⟨by rfl, ?_⟩) ?_ ?_
                  rotate_left
                  · intro w'
                    go_simp
                    with_reducible rfl
                  rotate_left
                  · simp only [Act.put, List.setIfInBounds_toArray, List.set_cons_zero, List.set_cons_succ, i64_w, i32_w]
                    rfl
                  refine pure_ (i := 5) (N := some 77) (v := undef) (a' := ?_) #[true, true, true, true, true, true, false, false, false, false, false, false, false, false, false, false, false, false, false, false, false, false, false, false] rfl rfl (any_of HT_.out (by kernel_rfl)) (fun _ _ _ h => h) (Or.inr ⟨by rfl, rfl⟩) ?_ ?_
                  rotate_left
                  · simp only [Act.put, List.setIfInBounds_toArray, List.set_cons_zero, List.set_cons_succ, i64_w, i32_w]
                    rfl
                  refine pure_ (i := 6) (N := some 78) (v := undef) (a' := ?_) #[true, true, true, true, true, true, true, false, false, false, false, false, false, false, false, false, false, false, false, false, false, false, false, false] rfl rfl (any_of HT_.out (by kernel_rfl)) (fun _ _ _ h => h) (Or.inr ⟨by rfl, rfl⟩) ?_ ?_
                  rotate_left
                  · simp only [Act.put, List.setIfInBounds_toArray, List.set_cons_zero, List.set_cons_succ, i64_w, i32_w]
                    rfl
                  refine pure_ (i := 7) (N := some 79) (v := undef) (a' := ?_) #[true, true, true, true, true, true, true, true, false, false, false, false, false, false, false, false, false, false, false, false, false, false, false, false] rfl rfl (any_of HT_.out (by kernel_rfl)) (fun _ _ _ h => h) (Or.inr ⟨by rfl, rfl⟩) ?_ ?_
                  rotate_left
                  · simp only [Act.put, List.setIfInBounds_toArray, List.set_cons_zero, List.set_cons_succ, i64_w, i32_w]
                    rfl
                  refine pure_ (i := 8) (N := some 80) (v := ?_) (a' := ?_) #[true, true, true, true, true, true, true, true, true, false, false, false, false, false, false, false, false, false, false, false, false, false, false, false] rfl rfl (any_of HT_.out (by kernel_rfl)) (fun _ _ _ h => h) (Or.inl ⟨by rfl, ?_⟩) ?_ ?_
                  rotate_left
                  · intro w'
                    go_simp
                    with_reducible rfl
                  rotate_left
                  · simp only [Act.put, List.setIfInBounds_toArray, List.set_cons_zero, List.set_cons_succ, i64_w, i32_w]
                    rfl
                  refine pure_ (i := 9) (N := some 81) (v := ?_) (a' := ?_) #[true, true, true, true, true, true, true, true, true, true, false, false, false, false, false, false, false, false, false, false, false, false, false, false] rfl rfl (any_of HT_.out (by kernel_rfl)) (fun _ _ _ h => h) (Or.inl ⟨by rfl, ?_⟩) ?_ ?_
                  rotate_left
                  · intro w'
                    go_simp
                    with_reducible rfl
                  rotate_left
                  · simp only [Act.put, List.setIfInBounds_toArray, List.set_cons_zero, List.set_cons_succ, i64_w, i32_w]
                    rfl
                  refine pure_ (i := 10) (N := some 82) (v := undef) (a' := ?_) #[true, true, true, true, true, true, true, true, true, true, true, false, false, false, false, false, false, false, false, false, false, false, false, false] rfl rfl (any_of HT_.out (by kernel_rfl)) (fun _ _ _ h => h) (Or.inr ⟨by rfl, rfl⟩) ?_ ?_
                  rotate_left
                  · simp only [Act.put, List.setIfInBounds_toArray, List.set_cons_zero, List.set_cons_succ, i64_w, i32_w]
                    rfl
                  refine pure_ (i := 11) (N := some 83) (v := undef) (a' := ?_) #[true, true, true, true, true, true, true, true, true, true, true, true, false, false, false, false, false, false, false, false, false, false, false, false] rfl rfl (any_of HT_.out (by kernel_rfl)) (fun _ _ _ h => h) (Or.inr ⟨by rfl, rfl⟩) ?_ ?_
                  rotate_left
                  · simp only [Act.put, List.setIfInBounds_toArray, List.set_cons_zero, List.set_cons_succ, i64_w, i32_w]
                    rfl
                  refine pure_ (i := 12) (N := some 84) (v := undef) (a' := ?_) #[true, true, true, true, true, true, true, true, true, true, true, true, true, false, false, false, false, false, false, false, false, false, false, false] rfl rfl (any_of HT_.out (by kernel_rfl)) (fun _ _ _ h => h) (Or.inr ⟨by rfl, rfl⟩) ?_ ?_
                  rotate_left
                  · simp only [Act.put, List.setIfInBounds_toArray, List.set_cons_zero, List.set_cons_succ, i64_w, i32_w]
                    rfl
                  refine pure_ (i := 13) (N := some 85) (v := undef) (a' := ?_) #[true, true, true, true, true, true, true, true, true, true, true, true, true, true, false, false, false, false, false, false, false, false, false, false] rfl rfl (any_of HT_.out (by kernel_rfl)) (fun _ _ _ h => h) (Or.inr ⟨by rfl, rfl⟩) ?_ ?_
                  rotate_left
                  · simp only [Act.put, List.setIfInBounds_toArray, List.set_cons_zero, List.set_cons_succ, i64_w, i32_w]
                    rfl
                  refine pure_ (i := 14) (N := some 86) (v := undef) (a' := ?_) #[true, true, true, true, true, true, true, true, true, true, true, true, true, true, true, false, false, false, false, false, false, false, false, false] rfl rfl (any_of HT_.out (by kernel_rfl)) (fun _ _ _ h => h) (Or.inr ⟨by rfl, rfl⟩) ?_ ?_
                  rotate_left
                  · simp only [Act.put, List.setIfInBounds_toArray, List.set_cons_zero, List.set_cons_succ, i64_w, i32_w]
                    rfl
                  refine pure_ (i := 15) (N := some 87) (v := ?_) (a' := ?_) #[true, true, true, true, true, true, true, true, true, true, true, true, true, true, true, true, false, false, false, false, false, false, false, false] rfl rfl (any_of HT_.out (by kernel_rfl)) (fun _ _ _ h => h) (Or.inl ⟨by rfl, ?_⟩) ?_ ?_
                  rotate_left
                  · intro w'
                    go_simp
                    with_reducible rfl
                  rotate_left
                  · simp only [Act.put, List.setIfInBounds_toArray, List.set_cons_zero, List.set_cons_succ, i64_w, i32_w]
                    rfl
                  refine pure_ (i := 16) (N := some 88) (v := ?_) (a' := ?_) #[true, true, true, true, true, true, true, true, true, true, true, true, true, true, true, true, true, false, false, false, false, false, false, false] rfl rfl (any_of HT_.out (by kernel_rfl)) (fun _ _ _ h => h) (Or.inl ⟨by rfl, ?_⟩) ?_ ?_
                  rotate_left
                  · intro w'
                    go_simp
                    with_reducible rfl
                  rotate_left
                  · simp only [Act.put, List.setIfInBounds_toArray, List.set_cons_zero, List.set_cons_succ, i64_w, i32_w]
                    rfl
                  refine pure_ (i := 17) (N := some 89) (v := undef) (a' := ?_) #[true, true, true, true, true, true, true, true, true, true, true, true, true, true, true, true, true, true, false, false, false, false, false, false] rfl rfl (any_of HT_.out (by kernel_rfl)) (fun _ _ _ h => h) (Or.inr ⟨by rfl, rfl⟩) ?_ ?_
                  rotate_left
                  · simp only [Act.put, List.setIfInBounds_toArray, List.set_cons_zero, List.set_cons_succ, i64_w, i32_w]
                    rfl
                  refine pure_ (i := 18) (N := some 90) (v := undef) (a' := ?_) #[true, true, true, true, true, true, true, true, true, true, true, true, true, true, true, true, true, true, true, false, false, false, false, false] rfl rfl (any_of HT_.out (by kernel_rfl)) (fun _ _ _ h => h) (Or.inr ⟨by rfl, rfl⟩) ?_ ?_
                  rotate_left
                  · simp only [Act.put, List.setIfInBounds_toArray, List.set_cons_zero, List.set_cons_succ, i64_w, i32_w]
                    rfl
                  refine pure_ (i := 19) (N := some 91) (v := undef) (a' := ?_) #[true, true, true, true, true, true, true, true, true, true, true, true, true, true, true, true, true, true, true, true, false, false, false, false] rfl rfl (any_of HT_.out (by kernel_rfl)) (fun _ _ _ h => h) (Or.inr ⟨by rfl, rfl⟩) ?_ ?_
                  rotate_left
                  · simp only [Act.put, List.setIfInBounds_toArray, List.set_cons_zero, List.set_cons_succ, i64_w, i32_w]
                    rfl
                  refine pure_ (i := 20) (N := some 92) (v := undef) (a' := ?_) #[true, true, true, true, true, true, true, true, true, true, true, true, true, true, true, true, true, true, true, true, true, false, false, false] rfl rfl (any_of HT_.out (by kernel_rfl)) (fun _ _ _ h => h) (Or.inr ⟨by rfl, rfl⟩) ?_ ?_
                  rotate_left
                  · simp only [Act.put, List.setIfInBounds_toArray, List.set_cons_zero, List.set_cons_succ, i64_w, i32_w]
                    rfl
                  refine pure_ (i := 21) (N := some 93) (v := undef) (a' := ?_) #[true, true, true, true, true, true, true, true, true, true, true, true, true, true, true, true, true, true, true, true, true, true, false, false] rfl rfl (any_of HT_.out (by kernel_rfl)) (fun _ _ _ h => h) (Or.inr ⟨by rfl, rfl⟩) ?_ ?_
                  rotate_left
                  · simp only [Act.put, List.setIfInBounds_toArray, List.set_cons_zero, List.set_cons_succ, i64_w, i32_w]
                    rfl
                  refine pure_ (i := 22) (N := some 94) (v := ?_) (a' := ?_) #[true, true, true, true, true, true, true, true, true, true, true, true, true, true, true, true, true, true, true, true, true, true, true, false] rfl rfl (any_of HT_.out (by kernel_rfl)) (fun _ _ _ h => h) (Or.inl ⟨by rfl, ?_⟩) ?_ ?_
                  rotate_left
                  · intro w'
                    go_simp
                    with_reducible rfl
                  rotate_left
                  · simp only [Act.put, List.setIfInBounds_toArray, List.set_cons_zero, List.set_cons_succ, i64_w, i32_w]
                    rfl
                  refine pure_ (i := 23) (N := some 6) (v := ?_) (a' := ?_) #[true, true, true, true, true, true, true, true, true, true, true, true, true, true, true, true, true, true, true, true, true, true, true, true] rfl rfl (any_of HT_.out (by kernel_rfl)) (fun _ _ _ h => h) (Or.inl ⟨by rfl, ?_⟩) ?_ ?_
                  rotate_left
                  · intro w'
                    go_simp
                    with_reducible rfl
                  rotate_left
                  · simp only [Act.put, List.setIfInBounds_toArray, List.set_cons_zero, List.set_cons_succ, i64_w, i32_w]
                    rfl
                  refine done_ (done_of HT_.out (by kernel_rfl)) ?_
                  try go_wp2
                  go_ret
                  exact ⟨by first | rfl | (simp [errW_none, errW_some] <;> rfl) | (simp [*, errW_none, errW_some] <;> rfl), bk HB.out⟩
              · replace c184 := Bool.eq_false_iff.mpr c184
                subst c184
                have H1 : (some false) = some r := by rw [if_neg (show ¬ (false = true) by decide)] at H; exact H
                clear H
                have H := H1
                clear H1
                obtain rfl := Option.some.inj H
                try go_wp2
                have n0_ := Aside0.mk (blk_drew BK350.out)
                have n1_ := Aside0.mk (blk_drew BK351.out)
                have n2_ := Aside0.mk (blk_drew BK358.out)
                have n3_ := Aside0.mk (below_drew1 HB.out)
                clear BK350
                clear BK351
                clear BK358
                clear HB
                have BK350 := n0_
                have BK351 := n1_
                have BK358 := n2_
                have HB := n3_
                clear n0_ n1_ n2_ n3_
                refine start_ (n := 24) (S := fun w' => True) (ds := []) #[false, false, false, false, false, false, false, false, false, false, false, false, false, false, false, false, false, false, false, false, false, false, false, false] (by kernel_rfl) rfl rfl trivial (fun hHeld => ?_); refine with_tabW weirgatelaw05_ClockIsSureOrNot.tab8 weirgatelaw05_ClockIsSureOrNot.bits8 (fun HT_ HW_ => ?_)
                generalize wc.drew = w201 at BK350 BK351 BK358 HB hHeld ⊢
                refine one_ (i := 0) (N := some 72) #[true, false, false, false, false, false, false, false, false, false, false, false, false, false, false, false, false, false, false, false, false, false, false, false] rfl rfl (one_of HT_.out (by kernel_rfl)) (by decide) (fun K hK => ?_)
                refine goes_ Try.func13 (by kernel_rfl) rfl #[] (by rfl) rfl rfl (by (try simp only [List.map_toArray, List.map_cons, List.map_nil]); first | done | rfl | (simp only [List.length_drop, List.length_take]; rfl)) ?_
                with_reducible refine (weirgatelaw05_sanity.calls kj26  false _ A183.out).mono ?_
                rintro e w202 ⟨rfl, hb⟩
                refine ⟨_, rfl, ?_⟩
                have n0_ := Aside0.mk (blk_below (pk BK350.out) hb)
                have n1_ := Aside0.mk (blk_below (pk BK351.out) hb)
                have n2_ := Aside0.mk (blk_below (pk BK358.out) hb)
                have n3_ := Aside0.mk (below_step (bk HB.out) hb)
                clear BK350
                clear BK351
                clear BK358
                clear HB
                have BK350 := n0_
                have BK351 := n1_
                have BK358 := n2_
                have HB := n3_
                clear n0_ n1_ n2_ n3_
                (try clear hb)
                (try clear hb2)
                (try clear hk)
                (try clear hi)
                refine hK.out _ _ trivial (fun hHeld => ?_)
                clear hK K
                refine norm_ (a' := ?_) ?_ ?_
                rotate_left
                · show Act.put _ (some 72) _ = _
                  simp only [Act.put, List.setIfInBounds_toArray, List.set_cons_zero, List.set_cons_succ, i64_w, i32_w]
                  rfl
                refine pure_ (i := 1) (N := some 73) (v := ?_) (a' := ?_) #[true, true, false, false, false, false, false, false, false, false, false, false, false, false, false, false, false, false, false, false, false, false, false, false] rfl rfl (any_of HT_.out (by kernel_rfl)) (fun _ _ _ h => h) (Or.inl ⟨by rfl, ?_⟩) ?_ ?_
                rotate_left
                · intro w'
                  go_simp
                  with_reducible rfl
                rotate_left
                · simp only [Act.put, List.setIfInBounds_toArray, List.set_cons_zero, List.set_cons_succ, i64_w, i32_w]
                  rfl
                refine pure_ (i := 2) (N := some 74) (v := undef) (a' := ?_) #[true, true, true, false, false, false, false, false, false, false, false, false, false, false, false, false, false, false, false, false, false, false, false, false] rfl rfl (any_of HT_.out (by kernel_rfl)) (fun _ _ _ h => h) (Or.inr ⟨by rfl, rfl⟩) ?_ ?_
                rotate_left
                · simp only [Act.put, List.setIfInBounds_toArray, List.set_cons_zero, List.set_cons_succ, i64_w, i32_w]
                  rfl
                refine pure_ (i := 3) (N := some 75) (v := ?_) (a' := ?_) #[true, true, true, true, false, false, false, false, false, false, false, false, false, false, false, false, false, false, false, false, false, false, false, false] rfl rfl (any_of HT_.out (by kernel_rfl)) (fun _ _ _ h => h) (Or.inl ⟨by rfl, ?_⟩) ?_ ?_
                rotate_left
                · intro w'
                  go_simp
                  with_reducible rfl
                rotate_left
                · simp only [Act.put, List.setIfInBounds_toArray, List.set_cons_zero, List.set_cons_succ, i64_w, i32_w]
                  rfl
                refine pure_ (i := 4) (N := some 76) (v := ?_) (a' := ?_) #[true, true, true, true, true, false, false, false, false, false, false, false, false, false, false, false, false, false, false, false, false, false, false, false] rfl rfl (any_of HT_.out (by kernel_rfl)) (fun _ _ _ h => h) (Or.inl ⟨by rfl, ?_⟩) ?_ ?_
                rotate_left
                · intro w'
                  go_simp
                  with_reducible rfl
                rotate_left
                · simp only [Act.put, List.setIfInBounds_toArray, List.set_cons_zero, List.set_cons_succ, i64_w, i32_w]
                  rfl
                refine pure_ (i := 5) (N := some 77) (v := undef) (a' := ?_) #[true, true, true, true, true, true, false, false, false, false, false, false, false, false, false, false, false, false, false, false, false, false, false, false] rfl rfl (any_of HT_.out (by kernel_rfl)) (fun _ _ _ h => h) (Or.inr ⟨by rfl, rfl⟩) ?_ ?_
                rotate_left
                · simp only [Act.put, List.setIfInBounds_toArray, List.set_cons_zero, List.set_cons_succ, i64_w, i32_w]
                  rfl
                refine pure_ (i := 6) (N := some 78) (v := undef) (a' := ?_) #[true, true, true, true, true, true, true, false, false, false, false, false, false, false, false, false, false, false, false, false, false, false, false, false] rfl rfl (any_of HT_.out (by kernel_rfl)) (fun _ _ _ h => h) (Or.inr ⟨by rfl, rfl⟩) ?_ ?_
                rotate_left
                · simp only [Act.put, List.setIfInBounds_toArray, List.set_cons_zero, List.set_cons_succ, i64_w, i32_w]
                  rfl
                refine pure_ (i := 7) (N := some 79) (v := undef) (a' := ?_) #[true, true, true, true, true, true, true, true, false, false, false, false, false, false, false, false, false, false, false, false, false, false, false, false] rfl rfl (any_of HT_.out (by kernel_rfl)) (fun _ _ _ h => h) (Or.inr ⟨by rfl, rfl⟩) ?_ ?_
                rotate_left
                · simp only [Act.put, List.setIfInBounds_toArray, List.set_cons_zero, List.set_cons_succ, i64_w, i32_w]
                  rfl
                refine pure_ (i := 8) (N := some 80) (v := ?_) (a' := ?_) #[true, true, true, true, true, true, true, true, true, false, false, false, false, false, false, false, false, false, false, false, false, false, false, false] rfl rfl (any_of HT_.out (by kernel_rfl)) (fun _ _ _ h => h) (Or.inl ⟨by rfl, ?_⟩) ?_ ?_
                rotate_left
                · intro w'
                  go_simp
                  with_reducible rfl
                rotate_left
                · simp only [Act.put, List.setIfInBounds_toArray, List.set_cons_zero, List.set_cons_succ, i64_w, i32_w]
                  rfl
                refine pure_ (i := 9) (N := some 81) (v := ?_) (a' := ?_) #[true, true, true, true, true, true, true, true, true, true, false, false, false, false, false, false, false, false, false, false, false, false, false, false] rfl rfl (any_of HT_.out (by kernel_rfl)) (fun _ _ _ h => h) (Or.inl ⟨by rfl, ?_⟩) ?_ ?_
                rotate_left
                · intro w'
                  go_simp
                  with_reducible rfl
                rotate_left
                · simp only [Act.put, List.setIfInBounds_toArray, List.set_cons_zero, List.set_cons_succ, i64_w, i32_w]
                  rfl
                refine pure_ (i := 10) (N := some 82) (v := undef) (a' := ?_) #[true, true, true, true, true, true, true, true, true, true, true, false, false, false, false, false, false, false, false, false, false, false, false, false] rfl rfl (any_of HT_.out (by kernel_rfl)) (fun _ _ _ h => h) (Or.inr ⟨by rfl, rfl⟩) ?_ ?_
                rotate_left
                · simp only [Act.put, List.setIfInBounds_toArray, List.set_cons_zero, List.set_cons_succ, i64_w, i32_w]
                  rfl
                refine pure_ (i := 11) (N := some 83) (v := undef) (a' := ?_) #[true, true, true, true, true, true, true, true, true, true, true, true, false, false, false, false, false, false, false, false, false, false, false, false] rfl rfl (any_of HT_.out (by kernel_rfl)) (fun _ _ _ h => h) (Or.inr ⟨by rfl, rfl⟩) ?_ ?_
                rotate_left
                · simp only [Act.put, List.setIfInBounds_toArray, List.set_cons_zero, List.set_cons_succ, i64_w, i32_w]
                  rfl
                refine pure_ (i := 12) (N := some 84) (v := undef) (a' := ?_) #[true, true, true, true, true, true, true, true, true, true, true, true, true, false, false, false, false, false, false, false, false, false, false, false] rfl rfl (any_of HT_.out (by kernel_rfl)) (fun _ _ _ h => h) (Or.inr ⟨by rfl, rfl⟩) ?_ ?_
                rotate_left
                · simp only [Act.put, List.setIfInBounds_toArray, List.set_cons_zero, List.set_cons_succ, i64_w, i32_w]
                  rfl
                refine pure_ (i := 13) (N := some 85) (v := undef) (a' := ?_) #[true, true, true, true, true, true, true, true, true, true, true, true, true, true, false, false, false, false, false, false, false, false, false, false] rfl rfl (any_of HT_.out (by kernel_rfl)) (fun _ _ _ h => h) (Or.inr ⟨by rfl, rfl⟩) ?_ ?_
                rotate_left
                · simp only [Act.put, List.setIfInBounds_toArray, List.set_cons_zero, List.set_cons_succ, i64_w, i32_w]
                  rfl
                refine pure_ (i := 14) (N := some 86) (v := undef) (a' := ?_) #[true, true, true, true, true, true, true, true, true, true, true, true, true, true, true, false, false, false, false, false, false, false, false, false] rfl rfl (any_of HT_.out (by kernel_rfl)) (fun _ _ _ h => h) (Or.inr ⟨by rfl, rfl⟩) ?_ ?_
                rotate_left
                · simp only [Act.put, List.setIfInBounds_toArray, List.set_cons_zero, List.set_cons_succ, i64_w, i32_w]
                  rfl
                refine pure_ (i := 15) (N := some 87) (v := ?_) (a' := ?_) #[true, true, true, true, true, true, true, true, true, true, true, true, true, true, true, true, false, false, false, false, false, false, false, false] rfl rfl (any_of HT_.out (by kernel_rfl)) (fun _ _ _ h => h) (Or.inl ⟨by rfl, ?_⟩) ?_ ?_
                rotate_left
                · intro w'
                  go_simp
                  with_reducible rfl
                rotate_left
                · simp only [Act.put, List.setIfInBounds_toArray, List.set_cons_zero, List.set_cons_succ, i64_w, i32_w]
                  rfl
                refine pure_ (i := 16) (N := some 88) (v := ?_) (a' := ?_) #[true, true, true, true, true, true, true, true, true, true, true, true, true, true, true, true, true, false, false, false, false, false, false, false] rfl rfl (any_of HT_.out (by kernel_rfl)) (fun _ _ _ h => h) (Or.inl ⟨by rfl, ?_⟩) ?_ ?_
                rotate_left
                · intro w'
                  go_simp
                  with_reducible rfl
                rotate_left
                · simp only [Act.put, List.setIfInBounds_toArray, List.set_cons_zero, List.set_cons_succ, i64_w, i32_w]
                  rfl
                refine pure_ (i := 17) (N := some 89) (v := undef) (a' := ?_) #[true, true, true, true, true, true, true, true, true, true, true, true, true, true, true, true, true, true, false, false, false, false, false, false] rfl rfl (any_of HT_.out (by kernel_rfl)) (fun _ _ _ h => h) (Or.inr ⟨by rfl, rfl⟩) ?_ ?_
                rotate_left
                · simp only [Act.put, List.setIfInBounds_toArray, List.set_cons_zero, List.set_cons_succ, i64_w, i32_w]
                  rfl
                refine pure_ (i := 18) (N := some 90) (v := undef) (a' := ?_) #[true, true, true, true, true, true, true, true, true, true, true, true, true, true, true, true, true, true, true, false, false, false, false, false] rfl rfl (any_of HT_.out (by kernel_rfl)) (fun _ _ _ h => h) (Or.inr ⟨by rfl, rfl⟩) ?_ ?_
                rotate_left
                · simp only [Act.put, List.setIfInBounds_toArray, List.set_cons_zero, List.set_cons_succ, i64_w, i32_w]
                  rfl
                refine pure_ (i := 19) (N := some 91) (v := undef) (a' := ?_) #[true, true, true, true, true, true, true, true, true, true, true, true, true, true, true, true, true, true, true, true, false, false, false, false] rfl rfl (any_of HT_.out (by kernel_rfl)) (fun _ _ _ h => h) (Or.inr ⟨by rfl, rfl⟩) ?_ ?_
                rotate_left
                · simp only [Act.put, List.setIfInBounds_toArray, List.set_cons_zero, List.set_cons_succ, i64_w, i32_w]
                  rfl
                refine pure_ (i := 20) (N := some 92) (v := undef) (a' := ?_) #[true, true, true, true, true, true, true, true, true, true, true, true, true, true, true, true, true, true, true, true, true, false, false, false] rfl rfl (any_of HT_.out (by kernel_rfl)) (fun _ _ _ h => h) (Or.inr ⟨by rfl, rfl⟩) ?_ ?_
                rotate_left
                · simp only [Act.put, List.setIfInBounds_toArray, List.set_cons_zero, List.set_cons_succ, i64_w, i32_w]
                  rfl
                refine pure_ (i := 21) (N := some 93) (v := undef) (a' := ?_) #[true, true, true, true, true, true, true, true, true, true, true, true, true, true, true, true, true, true, true, true, true, true, false, false] rfl rfl (any_of HT_.out (by kernel_rfl)) (fun _ _ _ h => h) (Or.inr ⟨by rfl, rfl⟩) ?_ ?_
                rotate_left
                · simp only [Act.put, List.setIfInBounds_toArray, List.set_cons_zero, List.set_cons_succ, i64_w, i32_w]
                  rfl
                refine pure_ (i := 22) (N := some 94) (v := ?_) (a' := ?_) #[true, true, true, true, true, true, true, true, true, true, true, true, true, true, true, true, true, true, true, true, true, true, true, false] rfl rfl (any_of HT_.out (by kernel_rfl)) (fun _ _ _ h => h) (Or.inl ⟨by rfl, ?_⟩) ?_ ?_
                rotate_left
                · intro w'
                  go_simp
                  with_reducible rfl
                rotate_left
                · simp only [Act.put, List.setIfInBounds_toArray, List.set_cons_zero, List.set_cons_succ, i64_w, i32_w]
                  rfl
                refine pure_ (i := 23) (N := some 6) (v := ?_) (a' := ?_) #[true, true, true, true, true, true, true, true, true, true, true, true, true, true, true, true, true, true, true, true, true, true, true, true] rfl rfl (any_of HT_.out (by kernel_rfl)) (fun _ _ _ h => h) (Or.inl ⟨by rfl, ?_⟩) ?_ ?_
                rotate_left
                · intro w'
                  go_simp
                  with_reducible rfl
                rotate_left
                · simp only [Act.put, List.setIfInBounds_toArray, List.set_cons_zero, List.set_cons_succ, i64_w, i32_w]
                  rfl
                refine done_ (done_of HT_.out (by kernel_rfl)) ?_
                try go_wp2
                go_ret
                exact ⟨by first | rfl | (simp [errW_none, errW_some] <;> rfl) | (simp [*, errW_none, errW_some] <;> rfl), bk HB.out⟩

end Go.Proofs.Ytijeiemdhpkklaa.PP
