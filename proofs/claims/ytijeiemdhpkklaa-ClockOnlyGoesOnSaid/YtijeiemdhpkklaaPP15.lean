-- laid by a program of this session (wip/xprint), out of the translation
import Derived.Test.YtijeiemdhpkklaaPP0
import Derived.Test.YtijeiemdhpkklaaPP3
import Derived.Test.YtijeiemdhpkklaaPP6
namespace Go.Proofs.Ytijeiemdhpkklaa.PP
open Go.RowKit Go.Proofs.YtijeiemdhpkklaaW.PrintWords Go.Proofs.YtijeiemdhpkklaaW.PrintLast Go.Proofs.YtijeiemdhpkklaaW.PrintMore
attribute [local go_sem] max2_int min2_int max_two min_two max_three min_three max_four min_four   -- for this text's walks alone
set_option linter.unusedVariables false
set_option linter.unusedSimpArgs false

attribute [local go_sem] isSome_put
/-! ### weirgatelaw05_ClockOnlyGoesOn: function 6 -/
mutual
def weirgatelaw05_ClockOnlyGoesOn.j0 : Nat → Int → Int → Bool → Int → Int → Int → Int → Int → Int → Option (Bool)
  | 0, _, _, _, _, _, _, _, _, _ => none
  | k + 1, x1, x2, x24, x304000, x304001, x304002, x304003, x305000, x305001 => if x24 = true then ((weirgatelaw05_sanity.f k).bind fun t306 => (some t306)) else ((clock_Read.f k x304000 x304001 x304002 x304003 x1).bind fun bt307 => ((clock_Read.f k x304000 x304001 x304002 x304003 x2).bind fun bt311 => (if bt307.2.2 = 0 then (weirgatelaw05_ClockOnlyGoesOn.j1 k x2 (bt311.2.2 != 0) x304000 x304001 x304002 x304003 x305000 x305001 bt307.1 bt307.2.1 bt311.1 bt311.2.1) else (weirgatelaw05_ClockOnlyGoesOn.j1 k x2 true x304000 x304001 x304002 x304003 x305000 x305001 bt307.1 bt307.2.1 bt311.1 bt311.2.1))))
def weirgatelaw05_ClockOnlyGoesOn.j1 : Nat → Int → Bool → Int → Int → Int → Int → Int → Int → Int → Int → Int → Int → Option (Bool)
  | 0, _, _, _, _, _, _, _, _, _, _, _, _ => none
  | k + 1, x2, x43, x304000, x304001, x304002, x304003, x305000, x305001, x311000, x311001, x315000, x315001 => if x43 = true then ((weirgatelaw05_sanity.f k).bind fun t315 => (some t315)) else (if x311000 > x315000 then (weirgatelaw05_ClockOnlyGoesOn.j2 k x2 true x304000 x304001 x304002 x304003 x305000 x305001 x315000 x315001) else (if x311001 > x315001 then (weirgatelaw05_ClockOnlyGoesOn.j2 k x2 true x304000 x304001 x304002 x304003 x305000 x305001 x315000 x315001) else (weirgatelaw05_ClockOnlyGoesOn.j2 k x2 (decide (x311000 > x311001)) x304000 x304001 x304002 x304003 x305000 x305001 x315000 x315001)))
def weirgatelaw05_ClockOnlyGoesOn.j2 : Nat → Int → Bool → Int → Int → Int → Int → Int → Int → Int → Int → Option (Bool)
  | 0, _, _, _, _, _, _, _, _, _, _ => none
  | k + 1, x2, x63, x304000, x304001, x304002, x304003, x305000, x305001, x315000, x315001 => if x63 = true then (some false) else ((clock_Sync.f k x304000 x304001 x304002 x304003 x2 x305000 x305001).bind fun bt316 => (if bt316.2.2.2.2 = 0 then ((clock_Read.f k bt316.1 bt316.2.1 bt316.2.2.1 bt316.2.2.2.1 x2).bind fun bt322 => ((weirgatelaw05_sanity.f k).bind fun t326 => (if t326 = true then (if bt322.2.2 = 0 then (some (decide ((wrap64 (bt322.2.1 - bt322.1)) ≤ (wrap64 ((wrap64 (x315001 - x315000)) + 2))))) else (some false)) else (some false)))) else ((weirgatelaw05_sanity.f k).bind fun t327 => (some t327))))
end
def weirgatelaw05_ClockOnlyGoesOn.f (k : Nat) (a0_0 : Int) (a0_1 : Int) (a0_2 : Int) (a0_3 : Int) (a1 : Int) (a2 : Int) (a3_0 : Int) (a3_1 : Int) : Option (Bool) := (weirgateref05_Check.f a0_0 a0_1 a0_2 a0_3).bind fun t305 => (if t305 = 0 then (weirgatelaw05_ClockOnlyGoesOn.j0 k a1 a2 (decide (a1 > a2)) a0_0 a0_1 a0_2 a0_3 a3_0 a3_1) else (weirgatelaw05_ClockOnlyGoesOn.j0 k a1 a2 true a0_0 a0_1 a0_2 a0_3 a3_0 a3_1))
theorem weirgatelaw05_ClockOnlyGoesOn.mono_l : ∀ k, (∀ y0 y1 y2 y3 y4 y5 y6 y7 y8, LeO (weirgatelaw05_ClockOnlyGoesOn.j0 k y0 y1 y2 y3 y4 y5 y6 y7 y8) (weirgatelaw05_ClockOnlyGoesOn.j0 (k + 1) y0 y1 y2 y3 y4 y5 y6 y7 y8)) ∧ (∀ y0 y1 y2 y3 y4 y5 y6 y7 y8 y9 y10 y11, LeO (weirgatelaw05_ClockOnlyGoesOn.j1 k y0 y1 y2 y3 y4 y5 y6 y7 y8 y9 y10 y11) (weirgatelaw05_ClockOnlyGoesOn.j1 (k + 1) y0 y1 y2 y3 y4 y5 y6 y7 y8 y9 y10 y11)) ∧ (∀ y0 y1 y2 y3 y4 y5 y6 y7 y8 y9, LeO (weirgatelaw05_ClockOnlyGoesOn.j2 k y0 y1 y2 y3 y4 y5 y6 y7 y8 y9) (weirgatelaw05_ClockOnlyGoesOn.j2 (k + 1) y0 y1 y2 y3 y4 y5 y6 y7 y8 y9))
  | 0 => ⟨fun _ _ _ _ _ _ _ _ _ r h => by simp [weirgatelaw05_ClockOnlyGoesOn.j0] at h, fun _ _ _ _ _ _ _ _ _ _ _ _ r h => by simp [weirgatelaw05_ClockOnlyGoesOn.j1] at h, fun _ _ _ _ _ _ _ _ _ _ r h => by simp [weirgatelaw05_ClockOnlyGoesOn.j2] at h⟩
  | k + 1 => by
    obtain ⟨ih0, ih1, ih2⟩ := weirgatelaw05_ClockOnlyGoesOn.mono_l k
    refine ⟨?_, ?_, ?_⟩
    · intro y0 y1 y2 y3 y4 y5 y6 y7 y8
      unfold weirgatelaw05_ClockOnlyGoesOn.j0
      repeat' first
      | (with_reducible exact ih0 _ _ _ _ _ _ _ _ _)
      | (with_reducible exact ih1 _ _ _ _ _ _ _ _ _ _ _ _)
      | (with_reducible exact ih2 _ _ _ _ _ _ _ _ _ _)
      | (with_reducible exact clock_Read.mono _ _ _ _ _ _)
      | (with_reducible exact clock_Sync.mono _ _ _ _ _ _ _ _)
      | (with_reducible exact weirgatelaw05_sanity.mono _)
      | (with_reducible exact LeO.refl _)
      | (with_reducible exact LeO.none _)
      | (with_reducible refine LeO.ite ?_ ?_)
      | (with_reducible refine LeO.bind ?_ (fun _ => ?_))
      | exact ih0 _ _ _ _ _ _ _ _ _
      | exact ih1 _ _ _ _ _ _ _ _ _ _ _ _
      | exact ih2 _ _ _ _ _ _ _ _ _ _
      | exact clock_Read.mono _ _ _ _ _ _
      | exact clock_Sync.mono _ _ _ _ _ _ _ _
      | exact weirgatelaw05_sanity.mono _
      | exact LeO.none _
      | refine LeO.ite ?_ ?_
      | refine LeO.bind ?_ (fun _ => ?_)
    · intro y0 y1 y2 y3 y4 y5 y6 y7 y8 y9 y10 y11
      unfold weirgatelaw05_ClockOnlyGoesOn.j1
      repeat' first
      | (with_reducible exact ih0 _ _ _ _ _ _ _ _ _)
      | (with_reducible exact ih1 _ _ _ _ _ _ _ _ _ _ _ _)
      | (with_reducible exact ih2 _ _ _ _ _ _ _ _ _ _)
      | (with_reducible exact clock_Read.mono _ _ _ _ _ _)
      | (with_reducible exact clock_Sync.mono _ _ _ _ _ _ _ _)
      | (with_reducible exact weirgatelaw05_sanity.mono _)
      | (with_reducible exact LeO.refl _)
      | (with_reducible exact LeO.none _)
      | (with_reducible refine LeO.ite ?_ ?_)
      | (with_reducible refine LeO.bind ?_ (fun _ => ?_))
      | exact ih0 _ _ _ _ _ _ _ _ _
      | exact ih1 _ _ _ _ _ _ _ _ _ _ _ _
      | exact ih2 _ _ _ _ _ _ _ _ _ _
      | exact clock_Read.mono _ _ _ _ _ _
      | exact clock_Sync.mono _ _ _ _ _ _ _ _
      | exact weirgatelaw05_sanity.mono _
      | exact LeO.none _
      | refine LeO.ite ?_ ?_
      | refine LeO.bind ?_ (fun _ => ?_)
    · intro y0 y1 y2 y3 y4 y5 y6 y7 y8 y9
      unfold weirgatelaw05_ClockOnlyGoesOn.j2
      repeat' first
      | (with_reducible exact ih0 _ _ _ _ _ _ _ _ _)
      | (with_reducible exact ih1 _ _ _ _ _ _ _ _ _ _ _ _)
      | (with_reducible exact ih2 _ _ _ _ _ _ _ _ _ _)
      | (with_reducible exact clock_Read.mono _ _ _ _ _ _)
      | (with_reducible exact clock_Sync.mono _ _ _ _ _ _ _ _)
      | (with_reducible exact weirgatelaw05_sanity.mono _)
      | (with_reducible exact LeO.refl _)
      | (with_reducible exact LeO.none _)
      | (with_reducible refine LeO.ite ?_ ?_)
      | (with_reducible refine LeO.bind ?_ (fun _ => ?_))
      | exact ih0 _ _ _ _ _ _ _ _ _
      | exact ih1 _ _ _ _ _ _ _ _ _ _ _ _
      | exact ih2 _ _ _ _ _ _ _ _ _ _
      | exact clock_Read.mono _ _ _ _ _ _
      | exact clock_Sync.mono _ _ _ _ _ _ _ _
      | exact weirgatelaw05_sanity.mono _
      | exact LeO.none _
      | refine LeO.ite ?_ ?_
      | refine LeO.bind ?_ (fun _ => ?_)
theorem weirgatelaw05_ClockOnlyGoesOn.mono : ∀ a0 a1 a2 a3 a4 a5 a6 a7 k, LeO (weirgatelaw05_ClockOnlyGoesOn.f k a0 a1 a2 a3 a4 a5 a6 a7) (weirgatelaw05_ClockOnlyGoesOn.f (k + 1) a0 a1 a2 a3 a4 a5 a6 a7) := by
  intro a0 a1 a2 a3 a4 a5 a6 a7 k
  obtain ⟨ih0, ih1, ih2⟩ := weirgatelaw05_ClockOnlyGoesOn.mono_l k
  unfold weirgatelaw05_ClockOnlyGoesOn.f
  repeat' first
      | (with_reducible exact ih0 _ _ _ _ _ _ _ _ _)
      | (with_reducible exact ih1 _ _ _ _ _ _ _ _ _ _ _ _)
      | (with_reducible exact ih2 _ _ _ _ _ _ _ _ _ _)
      | (with_reducible exact clock_Read.mono _ _ _ _ _ _)
      | (with_reducible exact clock_Sync.mono _ _ _ _ _ _ _ _)
      | (with_reducible exact weirgatelaw05_sanity.mono _)
      | (with_reducible exact LeO.refl _)
      | (with_reducible exact LeO.none _)
      | (with_reducible refine LeO.ite ?_ ?_)
      | (with_reducible refine LeO.bind ?_ (fun _ => ?_))
      | exact ih0 _ _ _ _ _ _ _ _ _
      | exact ih1 _ _ _ _ _ _ _ _ _ _ _ _
      | exact ih2 _ _ _ _ _ _ _ _ _ _
      | exact clock_Read.mono _ _ _ _ _ _
      | exact clock_Sync.mono _ _ _ _ _ _ _ _
      | exact weirgatelaw05_sanity.mono _
      | exact LeO.none _
      | refine LeO.ite ?_ ?_
      | refine LeO.bind ?_ (fun _ => ?_)
set_option maxHeartbeats 8000000 in
set_option maxRecDepth 100000 in
theorem weirgatelaw05_ClockOnlyGoesOn.calls (k : Nat) (a0_0 : Int) (a0_1 : Int) (a0_2 : Int) (a0_3 : Int) (a1 : Int) (a2 : Int) (a3_0 : Int) (a3_1 : Int) (r : Bool) (w : World) (h : weirgatelaw05_ClockOnlyGoesOn.f k a0_0 a0_1 a0_2 a0_3 a1 a2 a3_0 a3_1 = some r) :
    Calls Try.prog 6 #[.agg #[.int .i64 a0_0, .int .i64 a0_1, .int .i64 a0_2, .int .i64 a0_3], .int .i64 a1, .int .i64 a2, .agg #[.int .i64 a3_0, .int .i64 a3_1]] w fun e w' => e = .returned (.bool r) ∧ Below w.heap.size w w' := by
  have hu25 := Try.underlying25
  have hu23 := Try.underlying23
  have HB := Aside0.mk (Below.refl w.heap.size w)
  have H : ((weirgateref05_Check.f a0_0 a0_1 a0_2 a0_3).bind fun t305 => (if t305 = 0 then (weirgatelaw05_ClockOnlyGoesOn.j0 k a1 a2 (decide (a1 > a2)) a0_0 a0_1 a0_2 a0_3 a3_0 a3_1) else (weirgatelaw05_ClockOnlyGoesOn.j0 k a1 a2 true a0_0 a0_1 a0_2 a0_3 a3_0 a3_1))) = some r := h
  clear h
  have HC5 := Aside0.mk H
  clear H
  go_enter Try.func6, Try.ntmps6
  go_upto_region 1 with (first | ((with_reducible refine gate_dst (N := 4) rfl ?_); refine box_event ?hg (N := 4) ?hd (cs := #[.int .i64 a0_0, .int .i64 a0_1, .int .i64 a0_2, .int .i64 a0_3]) (t := 25) ?hr ?_; (case hd => rfl); (case hg => rfl); (case hr => first | (go_simp; done) | (go_simp; rfl)); intro gb303 hg w6 hbox hb; have n0_ := Aside0.mk (below_step (bk HB.out) hb); have n1_ := Aside0.mk (hbox); have n2_ := Aside0.mk ((by rw [hg]; exact (below_size (bk HB.out)) : w.heap.size ≤ gb303)); have n3_ := Aside0.mk ((by rw [hg]; exact (below_size (bk HB.out)) : w.heap.size ≤ gb303)); clear HB; have HB := n0_; have BK303 := n1_; have GW303 := n2_; have GE303 := n3_; clear n0_ n1_ n2_ n3_; clear hb hbox hg) | ((with_reducible refine gate_dst (N := 7) rfl ?_); refine box_event ?hg (N := 7) ?hd (cs := #[.int .i64 a3_0, .int .i64 a3_1]) (t := 23) ?hr ?_; (case hd => rfl); (case hg => rfl); (case hr => first | (go_simp; done) | (go_simp; rfl)); intro gb304 hg w7 hbox hb; have n0_ := Aside0.mk (blk_below (pk BK303.out) hb); have n1_ := Aside0.mk (below_step (bk HB.out) hb); have n2_ := Aside0.mk (hbox); have n3_ := Aside0.mk ((by rw [hg]; exact (below_size (bk HB.out)) : w.heap.size ≤ gb304)); have n4_ := Aside0.mk ((by rw [hg]; exact (below_size (bk HB.out)) : w.heap.size ≤ gb304)); have n5_ := Aside0.mk ((by rw [hg]; exact Nat.ne_of_lt (blk_lt (g := gb303) (o := .cells #[.int .i64 a0_0, .int .i64 a0_1, .int .i64 a0_2, .int .i64 a0_3] 25 (0, 0)) (pk BK303.out)) : gb303 ≠ gb304)); have n6_ := Aside0.mk ((by rw [hg]; exact Nat.ne_of_gt (blk_lt (g := gb303) (o := .cells #[.int .i64 a0_0, .int .i64 a0_1, .int .i64 a0_2, .int .i64 a0_3] 25 (0, 0)) (pk BK303.out)) : gb304 ≠ gb303)); clear BK303 HB; have BK303 := n0_; have HB := n1_; have BK304 := n2_; have GW304 := n3_; have GE304 := n4_; have NB303_304 := n5_; have NB304_303 := n6_; clear n0_ n1_ n2_ n3_ n4_ n5_ n6_; clear hb hbox hg))
  (try simp only [Act.put, List.setIfInBounds_toArray, List.set_cons_zero, List.set_cons_succ])
  go_cut [24] (fun v24 wc => ∃ (kq : Nat) (x24_4 : Bool), v24 = .bool x24_4 ∧ Aside0 (weirgatelaw05_ClockOnlyGoesOn.j0 kq a1 a2 x24_4 a0_0 a0_1 a0_2 a0_3 a3_0 a3_1 = some r) ∧ Aside0 (kq ≤ k) ∧ Aside0 (wc.heap[gb303]? = some (.cells #[.int .i64 a0_0, .int .i64 a0_1, .int .i64 a0_2, .int .i64 a0_3] 25 (0, 0))) ∧ Aside0 (wc.heap[gb304]? = some (.cells #[.int .i64 a3_0, .int .i64 a3_1] 23 (0, 0))) ∧ Aside0 (Below w.heap.size w wc))
  case first =>
    have H := HC5.out
    clear HC5
    replace H := Option.bind_eq_some_iff.mp H
    obtain ⟨t305, A80, H⟩ := H
    replace H : (if t305 = 0 then (weirgatelaw05_ClockOnlyGoesOn.j0 k a1 a2 (decide (a1 > a2)) a0_0 a0_1 a0_2 a0_3 a3_0 a3_1) else (weirgatelaw05_ClockOnlyGoesOn.j0 k a1 a2 true a0_0 a0_1 a0_2 a0_3 a3_0 a3_1)) = some r := H
    have A8 := Aside0.mk A80
    clear A80
    by_cases c9 : t305 = 0
    · rw [if_pos c9] at H
      have c9b0 : (t305 == 0) = true := beq_iff_eq.mpr c9
      have c9b1 : (t305 != 0) = false := bne_eq_false_iff_eq.mpr c9
      clear c9
      (first | rw [c9b0] | (simp only [i64_w, i32_w]; rw [c9b0]) | skip)
      have H' := Aside0.mk H
      clear H
      have hnb10 := NB303_304.out
      have hnc10 := NB304_303.out
      have hcz11_0 : w7.cell? ⟨gb303, 0, none⟩ = some (.int .i64 a0_0) := (blk_cell BK303.out 0).trans rfl
      have hcz11_1 : w7.cell? ⟨gb303, 1, none⟩ = some (.int .i64 a0_1) := (blk_cell BK303.out 1).trans rfl
      have hcz11_2 : w7.cell? ⟨gb303, 2, none⟩ = some (.int .i64 a0_2) := (blk_cell BK303.out 2).trans rfl
      have hcz11_3 : w7.cell? ⟨gb303, 3, none⟩ = some (.int .i64 a0_3) := (blk_cell BK303.out 3).trans rfl
      have hfz11_0 := blk_frozen BK303.out 0
      have hfz11_1 := blk_frozen BK303.out 1
      have hfz11_2 := blk_frozen BK303.out 2
      have hfz11_3 := blk_frozen BK303.out 3
      go_wp2_with (first | ((with_reducible refine gate_callee (f := 11) rfl ?_); refine goesL_ (some 18) rfl rfl Try.func11 (by kernel_rfl) rfl #[.agg #[.int .i64 a0_0, .int .i64 a0_1, .int .i64 a0_2, .int .i64 a0_3]] rfl (by (try simp only [List.map_toArray, List.map_cons, List.map_nil]); first | done | rfl | (simp only [List.length_drop, List.length_take]; rfl)) ?_; (with_reducible refine (weirgateref05_Check.calls a0_0 a0_1 a0_2 a0_3 t305 _ A8.out).mono ?_); rintro e w12 ⟨rfl, hb⟩; refine ⟨_, rfl, ?_⟩; have n0_ := Aside0.mk (blk_below (pk BK303.out) hb); have n1_ := Aside0.mk (blk_below (pk BK304.out) hb); have n2_ := Aside0.mk (below_step (bk HB.out) hb); clear BK303 BK304 HB; have BK303 := n0_; have BK304 := n1_; have HB := n2_; clear n0_ n1_ n2_; (try clear hb); (try clear hb2); (try clear hk); (try clear hi)))
      go_meet
      case rel => exact ⟨_, (decide (a1 > a2)), (by first | rfl | (simp; done) | (simp [*]; done) | (simp only [show ∀ p : Prop, Aside0 p = p from fun p => propext ⟨Aside0.out, Aside0.mk⟩] at *; simp_all; done)), H', ⟨by first | omega | exact Nat.le_refl _⟩, ⟨pk BK303.out⟩, ⟨pk BK304.out⟩, ⟨bk HB.out⟩⟩
    · rw [if_neg c9] at H
      have c9b0 : (t305 == 0) = false := beq_eq_false_iff_ne.mpr c9
      have c9b1 : (t305 != 0) = true := bne_iff_ne.mpr c9
      (first | rw [c9b0] | (simp only [i64_w, i32_w]; rw [c9b0]) | skip)
      have H' := Aside0.mk H
      clear H
      have hnb13 := NB303_304.out
      have hnc13 := NB304_303.out
      have hcz14_0 : w7.cell? ⟨gb303, 0, none⟩ = some (.int .i64 a0_0) := (blk_cell BK303.out 0).trans rfl
      have hcz14_1 : w7.cell? ⟨gb303, 1, none⟩ = some (.int .i64 a0_1) := (blk_cell BK303.out 1).trans rfl
      have hcz14_2 : w7.cell? ⟨gb303, 2, none⟩ = some (.int .i64 a0_2) := (blk_cell BK303.out 2).trans rfl
      have hcz14_3 : w7.cell? ⟨gb303, 3, none⟩ = some (.int .i64 a0_3) := (blk_cell BK303.out 3).trans rfl
      have hfz14_0 := blk_frozen BK303.out 0
      have hfz14_1 := blk_frozen BK303.out 1
      have hfz14_2 := blk_frozen BK303.out 2
      have hfz14_3 := blk_frozen BK303.out 3
      go_wp2_with (first | ((with_reducible refine gate_callee (f := 11) rfl ?_); refine goesL_ (some 18) rfl rfl Try.func11 (by kernel_rfl) rfl #[.agg #[.int .i64 a0_0, .int .i64 a0_1, .int .i64 a0_2, .int .i64 a0_3]] rfl (by (try simp only [List.map_toArray, List.map_cons, List.map_nil]); first | done | rfl | (simp only [List.length_drop, List.length_take]; rfl)) ?_; (with_reducible refine (weirgateref05_Check.calls a0_0 a0_1 a0_2 a0_3 t305 _ A8.out).mono ?_); rintro e w15 ⟨rfl, hb⟩; refine ⟨_, rfl, ?_⟩; have n0_ := Aside0.mk (blk_below (pk BK303.out) hb); have n1_ := Aside0.mk (blk_below (pk BK304.out) hb); have n2_ := Aside0.mk (below_step (bk HB.out) hb); clear BK303 BK304 HB; have BK303 := n0_; have BK304 := n1_; have HB := n2_; clear n0_ n1_ n2_; (try clear hb); (try clear hb2); (try clear hk); (try clear hi)))
      go_meet
      case rel => exact ⟨_, (true), (by first | rfl | (simp; done) | (simp [*]; done) | (simp only [show ∀ p : Prop, Aside0 p = p from fun p => propext ⟨Aside0.out, Aside0.mk⟩] at *; simp_all; done)), H', ⟨by first | omega | exact Nat.le_refl _⟩, ⟨pk BK303.out⟩, ⟨pk BK304.out⟩, ⟨bk HB.out⟩⟩
  case rest =>
    clear HC5
    try clear c1
    try clear p2
    try clear c6
    try clear c9
    try clear c9b0
    try clear c9b1
    try clear c10
    try clear c11
    try clear c13
    try clear hcz11_0
    try clear hcz11_1
    try clear hcz11_2
    try clear hcz11_3
    try clear hcz14_0
    try clear hcz14_1
    try clear hcz14_2
    try clear hcz14_3
    try clear hfz11_0
    try clear hfz11_1
    try clear hfz11_2
    try clear hfz11_3
    try clear hfz14_0
    try clear hfz14_1
    try clear hfz14_2
    try clear hfz14_3
    obtain ⟨kq, x24_4, rfl, HA, HJ4, BK303, BK304, HB⟩ := hcut
    cases kq with
    | zero => exact absurd HA.out (by simp [weirgatelaw05_ClockOnlyGoesOn.j0])
    | succ kj4 =>
      have H := HA.out
      clear HA
      simp only [weirgatelaw05_ClockOnlyGoesOn.j0] at H
      by_cases c16 : x24_4 = true
      · subst c16
        have H1 : ((weirgatelaw05_sanity.f kj4).bind fun t306 => (some t306)) = some r := by rw [if_pos rfl] at H; exact H
        clear H
        have H := H1
        clear H1
        replace H := Option.bind_eq_some_iff.mp H
        obtain ⟨t306, A170, H⟩ := H
        replace H : (some t306) = some r := H
        have A17 := Aside0.mk A170
        clear A170
        obtain rfl := Option.some.inj H
        go_wp2_with (first | ((with_reducible refine gate_callee (f := 13) rfl ?_); refine goesL_ (some 25) rfl rfl Try.func13 (by kernel_rfl) rfl #[] rfl (by (try simp only [List.map_toArray, List.map_cons, List.map_nil]); first | done | rfl | (simp only [List.length_drop, List.length_take]; rfl)) ?_; (with_reducible refine (weirgatelaw05_sanity.calls kj4  t306 _ A17.out).mono ?_); rintro e w18 ⟨rfl, hb⟩; refine ⟨_, rfl, ?_⟩; have n0_ := Aside0.mk (blk_below (pk BK303.out) hb); have n1_ := Aside0.mk (blk_below (pk BK304.out) hb); have n2_ := Aside0.mk (below_step (bk HB.out) hb); clear BK303 BK304 HB; have BK303 := n0_; have BK304 := n1_; have HB := n2_; clear n0_ n1_ n2_; (try clear hb); (try clear hb2); (try clear hk); (try clear hi)))
        go_ret
        exact ⟨by first | rfl | (simp [errW_none, errW_some] <;> rfl) | (simp [*, errW_none, errW_some] <;> rfl), bk HB.out⟩
      · replace c16 := Bool.eq_false_iff.mpr c16
        subst c16
        have H1 : ((clock_Read.f kj4 a0_0 a0_1 a0_2 a0_3 a1).bind fun bt307 => ((clock_Read.f kj4 a0_0 a0_1 a0_2 a0_3 a2).bind fun bt311 => (if bt307.2.2 = 0 then (weirgatelaw05_ClockOnlyGoesOn.j1 kj4 a2 (bt311.2.2 != 0) a0_0 a0_1 a0_2 a0_3 a3_0 a3_1 bt307.1 bt307.2.1 bt311.1 bt311.2.1) else (weirgatelaw05_ClockOnlyGoesOn.j1 kj4 a2 true a0_0 a0_1 a0_2 a0_3 a3_0 a3_1 bt307.1 bt307.2.1 bt311.1 bt311.2.1)))) = some r := by rw [if_neg (show ¬ (false = true) by decide)] at H; exact H
        clear H
        have H := H1
        clear H1
        replace H := Option.bind_eq_some_iff.mp H
        obtain ⟨⟨t307, t308, t309⟩, A190, H⟩ := H
        replace H : ((clock_Read.f kj4 a0_0 a0_1 a0_2 a0_3 a2).bind fun bt311 => (if t309 = 0 then (weirgatelaw05_ClockOnlyGoesOn.j1 kj4 a2 (bt311.2.2 != 0) a0_0 a0_1 a0_2 a0_3 a3_0 a3_1 t307 t308 bt311.1 bt311.2.1) else (weirgatelaw05_ClockOnlyGoesOn.j1 kj4 a2 true a0_0 a0_1 a0_2 a0_3 a3_0 a3_1 t307 t308 bt311.1 bt311.2.1))) = some r := H
        have A19 := Aside0.mk A190
        clear A190
        replace H := Option.bind_eq_some_iff.mp H
        obtain ⟨⟨t311, t312, t313⟩, A200, H⟩ := H
        replace H : (if t309 = 0 then (weirgatelaw05_ClockOnlyGoesOn.j1 kj4 a2 (t313 != 0) a0_0 a0_1 a0_2 a0_3 a3_0 a3_1 t307 t308 t311 t312) else (weirgatelaw05_ClockOnlyGoesOn.j1 kj4 a2 true a0_0 a0_1 a0_2 a0_3 a3_0 a3_1 t307 t308 t311 t312)) = some r := H
        have A20 := Aside0.mk A200
        clear A200
        have HC21 := Aside0.mk H
        clear H
        have hnb22 := NB303_304.out
        have hnc22 := NB304_303.out
        have hcz23_0 : wc.cell? ⟨gb303, 0, none⟩ = some (.int .i64 a0_0) := (blk_cell BK303.out 0).trans rfl
        have hcz23_1 : wc.cell? ⟨gb303, 1, none⟩ = some (.int .i64 a0_1) := (blk_cell BK303.out 1).trans rfl
        have hcz23_2 : wc.cell? ⟨gb303, 2, none⟩ = some (.int .i64 a0_2) := (blk_cell BK303.out 2).trans rfl
        have hcz23_3 : wc.cell? ⟨gb303, 3, none⟩ = some (.int .i64 a0_3) := (blk_cell BK303.out 3).trans rfl
        have hfz23_0 := blk_frozen BK303.out 0
        have hfz23_1 := blk_frozen BK303.out 1
        have hfz23_2 := blk_frozen BK303.out 2
        have hfz23_3 := blk_frozen BK303.out 3
        go_upto_region 5 with (first | ((with_reducible refine gate_callee (f := 14) rfl ?_); refine goesL_ (some 29) rfl rfl Try.func14 (by kernel_rfl) rfl #[.agg #[.int .i64 a0_0, .int .i64 a0_1, .int .i64 a0_2, .int .i64 a0_3], .int .i64 a1] rfl (by (try simp only [List.map_toArray, List.map_cons, List.map_nil]); first | done | rfl | (simp only [List.length_drop, List.length_take]; rfl)) ?_; (with_reducible refine (clock_Read.calls kj4 a0_0 a0_1 a0_2 a0_3 a1 t307 t308 t309 _ A19.out).mono ?_); rintro e w24 ⟨rfl, hb⟩; refine ⟨_, rfl, ?_⟩; have n0_ := Aside0.mk (blk_below (pk BK303.out) hb); have n1_ := Aside0.mk (blk_below (pk BK304.out) hb); have n2_ := Aside0.mk (below_step (bk HB.out) hb); clear BK303 BK304 HB; have BK303 := n0_; have BK304 := n1_; have HB := n2_; clear n0_ n1_ n2_; (try clear hb); (try clear hb2); (try clear hk); (try clear hi)) | ((with_reducible refine gate_dst (N := 9) rfl ?_); refine box_event ?hg (N := 9) ?hd (cs := #[.int .i64 0, .int .i64 0]) (t := 23) ?hr ?_; (case hd => rfl); (case hg => rfl); (case hr => first | (go_simp; done) | (go_simp; rfl)); intro gb310 hg w25 hbox hb; have n0_ := Aside0.mk (blk_below (pk BK303.out) hb); have n1_ := Aside0.mk (blk_below (pk BK304.out) hb); have n2_ := Aside0.mk (below_step (bk HB.out) hb); have n3_ := Aside0.mk (hbox); have n4_ := Aside0.mk ((by rw [hg]; exact (below_size (bk HB.out)) : w.heap.size ≤ gb310)); have n5_ := Aside0.mk ((by rw [hg]; exact (below_size (bk HB.out)) : w.heap.size ≤ gb310)); have n6_ := Aside0.mk ((by rw [hg]; exact Nat.ne_of_lt (blk_lt (g := gb303) (o := .cells #[.int .i64 a0_0, .int .i64 a0_1, .int .i64 a0_2, .int .i64 a0_3] 25 (0, 0)) (pk BK303.out)) : gb303 ≠ gb310)); have n7_ := Aside0.mk ((by rw [hg]; exact Nat.ne_of_gt (blk_lt (g := gb303) (o := .cells #[.int .i64 a0_0, .int .i64 a0_1, .int .i64 a0_2, .int .i64 a0_3] 25 (0, 0)) (pk BK303.out)) : gb310 ≠ gb303)); have n8_ := Aside0.mk ((by rw [hg]; exact Nat.ne_of_lt (blk_lt (g := gb304) (o := .cells #[.int .i64 a3_0, .int .i64 a3_1] 23 (0, 0)) (pk BK304.out)) : gb304 ≠ gb310)); have n9_ := Aside0.mk ((by rw [hg]; exact Nat.ne_of_gt (blk_lt (g := gb304) (o := .cells #[.int .i64 a3_0, .int .i64 a3_1] 23 (0, 0)) (pk BK304.out)) : gb310 ≠ gb304)); clear BK303 BK304 HB; have BK303 := n0_; have BK304 := n1_; have HB := n2_; have BK310 := n3_; have GW310 := n4_; have GE310 := n5_; have NB303_310 := n6_; have NB310_303 := n7_; have NB304_310 := n8_; have NB310_304 := n9_; clear n0_ n1_ n2_ n3_ n4_ n5_ n6_ n7_ n8_ n9_; clear hb hbox hg; have hnb26 := NB310_303.out; have hnc26 := NB303_310.out; have hnb27 := NB310_304.out; have hnc27 := NB304_310.out; have hcz28_0 : w25.cell? ⟨gb310, 0, none⟩ = some (.int .i64 0) := (blk_cell BK310.out 0).trans rfl; have hcz28_1 : w25.cell? ⟨gb310, 1, none⟩ = some (.int .i64 0) := (blk_cell BK310.out 1).trans rfl; have hfz28_0 := blk_frozen BK310.out 0; have hfz28_1 := blk_frozen BK310.out 1; have hcz29_0 : w25.cell? ⟨gb303, 0, none⟩ = some (.int .i64 a0_0) := (blk_cell BK303.out 0).trans rfl; have hcz29_1 : w25.cell? ⟨gb303, 1, none⟩ = some (.int .i64 a0_1) := (blk_cell BK303.out 1).trans rfl; have hcz29_2 : w25.cell? ⟨gb303, 2, none⟩ = some (.int .i64 a0_2) := (blk_cell BK303.out 2).trans rfl; have hcz29_3 : w25.cell? ⟨gb303, 3, none⟩ = some (.int .i64 a0_3) := (blk_cell BK303.out 3).trans rfl; have hfz29_0 := blk_frozen BK303.out 0; have hfz29_1 := blk_frozen BK303.out 1; have hfz29_2 := blk_frozen BK303.out 2; have hfz29_3 := blk_frozen BK303.out 3) | ((with_reducible refine gate_callee (f := 14) rfl ?_); refine goesL_ (some 35) rfl rfl Try.func14 (by kernel_rfl) rfl #[.agg #[.int .i64 a0_0, .int .i64 a0_1, .int .i64 a0_2, .int .i64 a0_3], .int .i64 a2] rfl (by (try simp only [List.map_toArray, List.map_cons, List.map_nil]); first | done | rfl | (simp only [List.length_drop, List.length_take]; rfl)) ?_; (with_reducible refine (clock_Read.calls kj4 a0_0 a0_1 a0_2 a0_3 a2 t311 t312 t313 _ A20.out).mono ?_); rintro e w30 ⟨rfl, hb⟩; refine ⟨_, rfl, ?_⟩; have n0_ := Aside0.mk (blk_below (g := gb303) (o := .cells #[.int .i64 a0_0, .int .i64 a0_1, .int .i64 a0_2, .int .i64 a0_3] 25 (0, 0)) (by refine pk ?_; refine blk_far ?_ NB303_310.out _; refine pk ?_; refine blk_far ?_ NB303_310.out _; refine pk ?_; exact BK303.out) hb); have n1_ := Aside0.mk (blk_below (g := gb304) (o := .cells #[.int .i64 a3_0, .int .i64 a3_1] 23 (0, 0)) (by refine pk ?_; refine blk_far ?_ NB304_310.out _; refine pk ?_; refine blk_far ?_ NB304_310.out _; refine pk ?_; exact BK304.out) hb); have n2_ := Aside0.mk (blk_below (g := gb310) (o := .cells #[.int .i64 t307, .int .i64 t308] 23 (0, 0)) (by refine pk ?_; refine blk_put (cs := #[.int .i64 t307, .int .i64 0]) ?_ 1 _ rfl; refine pk ?_; refine blk_put (cs := #[.int .i64 0, .int .i64 0]) ?_ 0 _ rfl; refine pk ?_; exact BK310.out) hb); have n3_ := Aside0.mk (below_step (bk HB.out) hb); clear BK303 BK304; clear BK310 HB; have BK303 := n0_; have BK304 := n1_; have BK310 := n2_; have HB := n3_; clear n0_ n1_ n2_ n3_; (try clear hb); (try clear hb2); (try clear hk); (try clear hi)) | ((with_reducible refine gate_dst (N := 11) rfl ?_); refine box_event ?hg (N := 11) ?hd (cs := #[.int .i64 0, .int .i64 0]) (t := 23) ?hr ?_; (case hd => rfl); (case hg => rfl); (case hr => first | (go_simp; done) | (go_simp; rfl)); intro gb314 hg w31 hbox hb; have n0_ := Aside0.mk (blk_below (pk BK303.out) hb); have n1_ := Aside0.mk (blk_below (pk BK304.out) hb); have n2_ := Aside0.mk (blk_below (pk BK310.out) hb); have n3_ := Aside0.mk (below_step (bk HB.out) hb); have n4_ := Aside0.mk (hbox); have n5_ := Aside0.mk ((by rw [hg]; exact (below_size (bk HB.out)) : w.heap.size ≤ gb314)); have n6_ := Aside0.mk ((by rw [hg]; exact (below_size (bk HB.out)) : w.heap.size ≤ gb314)); have n7_ := Aside0.mk ((by rw [hg]; exact Nat.ne_of_lt (blk_lt (g := gb303) (o := .cells #[.int .i64 a0_0, .int .i64 a0_1, .int .i64 a0_2, .int .i64 a0_3] 25 (0, 0)) (pk BK303.out)) : gb303 ≠ gb314)); have n8_ := Aside0.mk ((by rw [hg]; exact Nat.ne_of_gt (blk_lt (g := gb303) (o := .cells #[.int .i64 a0_0, .int .i64 a0_1, .int .i64 a0_2, .int .i64 a0_3] 25 (0, 0)) (pk BK303.out)) : gb314 ≠ gb303)); have n9_ := Aside0.mk ((by rw [hg]; exact Nat.ne_of_lt (blk_lt (g := gb304) (o := .cells #[.int .i64 a3_0, .int .i64 a3_1] 23 (0, 0)) (pk BK304.out)) : gb304 ≠ gb314)); have n10_ := Aside0.mk ((by rw [hg]; exact Nat.ne_of_gt (blk_lt (g := gb304) (o := .cells #[.int .i64 a3_0, .int .i64 a3_1] 23 (0, 0)) (pk BK304.out)) : gb314 ≠ gb304)); have n11_ := Aside0.mk ((by rw [hg]; exact Nat.ne_of_lt (blk_lt (g := gb310) (o := .cells #[.int .i64 t307, .int .i64 t308] 23 (0, 0)) (pk BK310.out)) : gb310 ≠ gb314)); have n12_ := Aside0.mk ((by rw [hg]; exact Nat.ne_of_gt (blk_lt (g := gb310) (o := .cells #[.int .i64 t307, .int .i64 t308] 23 (0, 0)) (pk BK310.out)) : gb314 ≠ gb310)); clear BK303 BK304; clear BK310 HB; have BK303 := n0_; have BK304 := n1_; have BK310 := n2_; have HB := n3_; have BK314 := n4_; have GW314 := n5_; have GE314 := n6_; have NB303_314 := n7_; have NB314_303 := n8_; have NB304_314 := n9_; have NB314_304 := n10_; have NB310_314 := n11_; have NB314_310 := n12_; clear n0_ n1_ n2_ n3_ n4_ n5_ n6_ n7_ n8_ n9_ n10_ n11_ n12_; clear hb hbox hg; have hnb32 := NB314_303.out; have hnc32 := NB303_314.out; have hnb33 := NB314_304.out; have hnc33 := NB304_314.out; have hnb34 := NB314_310.out; have hnc34 := NB310_314.out; have hcz35_0 : w31.cell? ⟨gb314, 0, none⟩ = some (.int .i64 0) := (blk_cell BK314.out 0).trans rfl; have hcz35_1 : w31.cell? ⟨gb314, 1, none⟩ = some (.int .i64 0) := (blk_cell BK314.out 1).trans rfl; have hfz35_0 := blk_frozen BK314.out 0; have hfz35_1 := blk_frozen BK314.out 1))
        (try simp only [Act.put, List.setIfInBounds_toArray, List.set_cons_zero, List.set_cons_succ])
        go_cut [43] (fun v43 wc => ∃ (kq : Nat) (x43_20 : Bool), v43 = .bool x43_20 ∧ Aside0 (weirgatelaw05_ClockOnlyGoesOn.j1 kq a2 x43_20 a0_0 a0_1 a0_2 a0_3 a3_0 a3_1 t307 t308 t311 t312 = some r) ∧ Aside0 (kq ≤ kj4) ∧ Aside0 (wc.heap[gb303]? = some (.cells #[.int .i64 a0_0, .int .i64 a0_1, .int .i64 a0_2, .int .i64 a0_3] 25 (0, 0))) ∧ Aside0 (wc.heap[gb304]? = some (.cells #[.int .i64 a3_0, .int .i64 a3_1] 23 (0, 0))) ∧ Aside0 (wc.heap[gb310]? = some (.cells #[.int .i64 t307, .int .i64 t308] 23 (0, 0))) ∧ Aside0 (wc.heap[gb314]? = some (.cells #[.int .i64 t311, .int .i64 t312] 23 (0, 0))) ∧ Aside0 (Below w.heap.size w wc))
        case first =>
          have H := HC21.out
          clear HC21
          by_cases c36 : t309 = 0
          · rw [if_pos c36] at H
            have c36b0 : (t309 == 0) = true := beq_iff_eq.mpr c36
            have c36b1 : (t309 != 0) = false := bne_eq_false_iff_eq.mpr c36
            clear c36
            (first | rw [c36b0] | (simp only [i64_w, i32_w]; rw [c36b0]) | skip)
            have H' := Aside0.mk H
            clear H
            go_wp2
            go_meet
            case rel => exact ⟨_, ((t313 != 0)), (by first | rfl | (simp; done) | (simp [*]; done) | (simp only [show ∀ p : Prop, Aside0 p = p from fun p => propext ⟨Aside0.out, Aside0.mk⟩] at *; simp_all; done)), H', ⟨by have := HJ4.out; first | omega | exact Nat.le_refl _⟩, ⟨by refine pk ?_; refine blk_far ?_ NB303_314.out _; refine pk ?_; refine blk_far ?_ NB303_314.out _; refine pk ?_; exact BK303.out⟩, ⟨by refine pk ?_; refine blk_far ?_ NB304_314.out _; refine pk ?_; refine blk_far ?_ NB304_314.out _; refine pk ?_; exact BK304.out⟩, ⟨by refine pk ?_; refine blk_far ?_ NB310_314.out _; refine pk ?_; refine blk_far ?_ NB310_314.out _; refine pk ?_; exact BK310.out⟩, ⟨by refine pk ?_; refine blk_put (cs := #[.int .i64 t311, .int .i64 0]) ?_ 1 _ rfl; refine pk ?_; refine blk_put (cs := #[.int .i64 0, .int .i64 0]) ?_ 0 _ rfl; refine pk ?_; exact BK314.out⟩, ⟨bk HB.out⟩⟩
          · rw [if_neg c36] at H
            have c36b0 : (t309 == 0) = false := beq_eq_false_iff_ne.mpr c36
            have c36b1 : (t309 != 0) = true := bne_iff_ne.mpr c36
            (first | rw [c36b0] | (simp only [i64_w, i32_w]; rw [c36b0]) | skip)
            have H' := Aside0.mk H
            clear H
            go_wp2
            go_meet
            case rel => exact ⟨_, (true), (by first | rfl | (simp; done) | (simp [*]; done) | (simp only [show ∀ p : Prop, Aside0 p = p from fun p => propext ⟨Aside0.out, Aside0.mk⟩] at *; simp_all; done)), H', ⟨by have := HJ4.out; first | omega | exact Nat.le_refl _⟩, ⟨by refine pk ?_; refine blk_far ?_ NB303_314.out _; refine pk ?_; refine blk_far ?_ NB303_314.out _; refine pk ?_; exact BK303.out⟩, ⟨by refine pk ?_; refine blk_far ?_ NB304_314.out _; refine pk ?_; refine blk_far ?_ NB304_314.out _; refine pk ?_; exact BK304.out⟩, ⟨by refine pk ?_; refine blk_far ?_ NB310_314.out _; refine pk ?_; refine blk_far ?_ NB310_314.out _; refine pk ?_; exact BK310.out⟩, ⟨by refine pk ?_; refine blk_put (cs := #[.int .i64 t311, .int .i64 0]) ?_ 1 _ rfl; refine pk ?_; refine blk_put (cs := #[.int .i64 0, .int .i64 0]) ?_ 0 _ rfl; refine pk ?_; exact BK314.out⟩, ⟨bk HB.out⟩⟩
        case rest =>
          clear HC21
          try clear c1
          try clear c2
          try clear p2
          try clear c3
          try clear c6
          try clear c9
          try clear c9b0
          try clear c9b1
          try clear c10
          try clear c11
          try clear c13
          try clear c14
          try clear c16
          try clear c22
          try clear c26
          try clear c27
          try clear c32
          try clear c33
          try clear c34
          try clear c36
          try clear c36b0
          try clear c36b1
          try clear hcz11_0
          try clear hcz11_1
          try clear hcz11_2
          try clear hcz11_3
          try clear hcz14_0
          try clear hcz14_1
          try clear hcz14_2
          try clear hcz14_3
          try clear hcz23_0
          try clear hcz23_1
          try clear hcz23_2
          try clear hcz23_3
          try clear hcz28_0
          try clear hcz28_1
          try clear hcz29_0
          try clear hcz29_1
          try clear hcz29_2
          try clear hcz29_3
          try clear hcz35_0
          try clear hcz35_1
          try clear hfz11_0
          try clear hfz11_1
          try clear hfz11_2
          try clear hfz11_3
          try clear hfz14_0
          try clear hfz14_1
          try clear hfz14_2
          try clear hfz14_3
          try clear hfz23_0
          try clear hfz23_1
          try clear hfz23_2
          try clear hfz23_3
          try clear hfz28_0
          try clear hfz28_1
          try clear hfz29_0
          try clear hfz29_1
          try clear hfz29_2
          try clear hfz29_3
          try clear hfz35_0
          try clear hfz35_1
          try clear p2
          obtain ⟨kq, x43_20, rfl, HA, HJ20, BK303, BK304, BK310, BK314, HB⟩ := hcut
          cases kq with
          | zero => exact absurd HA.out (by simp [weirgatelaw05_ClockOnlyGoesOn.j1])
          | succ kj20 =>
            have H := HA.out
            clear HA
            simp only [weirgatelaw05_ClockOnlyGoesOn.j1] at H
            by_cases c37 : x43_20 = true
            · subst c37
              have H1 : ((weirgatelaw05_sanity.f kj20).bind fun t315 => (some t315)) = some r := by rw [if_pos rfl] at H; exact H
              clear H
              have H := H1
              clear H1
              replace H := Option.bind_eq_some_iff.mp H
              obtain ⟨t315, A380, H⟩ := H
              replace H : (some t315) = some r := H
              have A38 := Aside0.mk A380
              clear A380
              obtain rfl := Option.some.inj H
              go_wp2_with (first | ((with_reducible refine gate_callee (f := 13) rfl ?_); refine goesL_ (some 44) rfl rfl Try.func13 (by kernel_rfl) rfl #[] rfl (by (try simp only [List.map_toArray, List.map_cons, List.map_nil]); first | done | rfl | (simp only [List.length_drop, List.length_take]; rfl)) ?_; (with_reducible refine (weirgatelaw05_sanity.calls kj20  t315 _ A38.out).mono ?_); rintro e w39 ⟨rfl, hb⟩; refine ⟨_, rfl, ?_⟩; have n0_ := Aside0.mk (blk_below (pk BK303.out) hb); have n1_ := Aside0.mk (blk_below (pk BK304.out) hb); have n2_ := Aside0.mk (blk_below (pk BK310.out) hb); have n3_ := Aside0.mk (blk_below (pk BK314.out) hb); have n4_ := Aside0.mk (below_step (bk HB.out) hb); clear BK303 BK304; clear BK310 BK314 HB; have BK303 := n0_; have BK304 := n1_; have BK310 := n2_; have BK314 := n3_; have HB := n4_; clear n0_ n1_ n2_ n3_ n4_; (try clear hb); (try clear hb2); (try clear hk); (try clear hi)))
              go_ret
              exact ⟨by first | rfl | (simp [errW_none, errW_some] <;> rfl) | (simp [*, errW_none, errW_some] <;> rfl), bk HB.out⟩
            · replace c37 := Bool.eq_false_iff.mpr c37
              subst c37
              have H1 : (if t307 > t311 then (weirgatelaw05_ClockOnlyGoesOn.j2 kj20 a2 true a0_0 a0_1 a0_2 a0_3 a3_0 a3_1 t311 t312) else (if t308 > t312 then (weirgatelaw05_ClockOnlyGoesOn.j2 kj20 a2 true a0_0 a0_1 a0_2 a0_3 a3_0 a3_1 t311 t312) else (weirgatelaw05_ClockOnlyGoesOn.j2 kj20 a2 (decide (t307 > t308)) a0_0 a0_1 a0_2 a0_3 a3_0 a3_1 t311 t312))) = some r := by rw [if_neg (show ¬ (false = true) by decide)] at H; exact H
              clear H
              have H := H1
              clear H1
              have HC40 := Aside0.mk H
              clear H
              go_upto_region 7 with (fail)
              go_cut [63] (fun v63 wc => ∃ (kq : Nat) (x63_39 : Bool), v63 = .bool x63_39 ∧ Aside0 (weirgatelaw05_ClockOnlyGoesOn.j2 kq a2 x63_39 a0_0 a0_1 a0_2 a0_3 a3_0 a3_1 t311 t312 = some r) ∧ Aside0 (kq ≤ kj20) ∧ Aside0 (wc.heap[gb303]? = some (.cells #[.int .i64 a0_0, .int .i64 a0_1, .int .i64 a0_2, .int .i64 a0_3] 25 (0, 0))) ∧ Aside0 (wc.heap[gb304]? = some (.cells #[.int .i64 a3_0, .int .i64 a3_1] 23 (0, 0))) ∧ Aside0 (wc.heap[gb310]? = some (.cells #[.int .i64 t307, .int .i64 t308] 23 (0, 0))) ∧ Aside0 (wc.heap[gb314]? = some (.cells #[.int .i64 t311, .int .i64 t312] 23 (0, 0))) ∧ Aside0 (Below w.heap.size w wc))
              case first =>
                have H := HC40.out
                clear HC40
                by_cases c41 : t307 > t311
                · rw [if_pos c41] at H
                  have c41b0 : decide (t311 < t307) = true := decide_eq_true c41
                  clear c41
                  (first | rw [c41b0] | (simp only [i64_w, i32_w]; rw [c41b0]) | skip)
                  have H' := Aside0.mk H
                  clear H
                  have hnb42 := NB310_303.out
                  have hnc42 := NB303_310.out
                  have hnb43 := NB310_304.out
                  have hnc43 := NB304_310.out
                  have hnb44 := NB310_314.out
                  have hnc44 := NB314_310.out
                  have hcz45_0 : wc.cell? ⟨gb310, 0, none⟩ = some (.int .i64 t307) := (blk_cell BK310.out 0).trans rfl
                  have hcz45_1 : wc.cell? ⟨gb310, 1, none⟩ = some (.int .i64 t308) := (blk_cell BK310.out 1).trans rfl
                  have hfz45_0 := blk_frozen BK310.out 0
                  have hfz45_1 := blk_frozen BK310.out 1
                  have hnb46 := NB314_303.out
                  have hnc46 := NB303_314.out
                  have hnb47 := NB314_304.out
                  have hnc47 := NB304_314.out
                  have hcz48_0 : wc.cell? ⟨gb314, 0, none⟩ = some (.int .i64 t311) := (blk_cell BK314.out 0).trans rfl
                  have hcz48_1 : wc.cell? ⟨gb314, 1, none⟩ = some (.int .i64 t312) := (blk_cell BK314.out 1).trans rfl
                  have hfz48_0 := blk_frozen BK314.out 0
                  have hfz48_1 := blk_frozen BK314.out 1
                  go_wp2
                  go_meet
                  case rel => exact ⟨_, (true), (by first | rfl | (simp; done) | (simp [*]; done) | (simp only [show ∀ p : Prop, Aside0 p = p from fun p => propext ⟨Aside0.out, Aside0.mk⟩] at *; simp_all; done)), H', ⟨by have := HJ4.out; have := HJ20.out; first | omega | exact Nat.le_refl _⟩, ⟨pk BK303.out⟩, ⟨pk BK304.out⟩, ⟨pk BK310.out⟩, ⟨pk BK314.out⟩, ⟨bk HB.out⟩⟩
                · rw [if_neg c41] at H
                  have c41b0 : decide (t311 < t307) = false := decide_eq_false c41
                  clear c41
                  (first | rw [c41b0] | (simp only [i64_w, i32_w]; rw [c41b0]) | skip)
                  by_cases c49 : t308 > t312
                  · rw [if_pos c49] at H
                    have c49b0 : decide (t312 < t308) = true := decide_eq_true c49
                    clear c49
                    have H' := Aside0.mk H
                    clear H
                    have hnb50 := NB310_303.out
                    have hnc50 := NB303_310.out
                    have hnb51 := NB310_304.out
                    have hnc51 := NB304_310.out
                    have hnb52 := NB310_314.out
                    have hnc52 := NB314_310.out
                    have hcz53_0 : wc.cell? ⟨gb310, 0, none⟩ = some (.int .i64 t307) := (blk_cell BK310.out 0).trans rfl
                    have hcz53_1 : wc.cell? ⟨gb310, 1, none⟩ = some (.int .i64 t308) := (blk_cell BK310.out 1).trans rfl
                    have hfz53_0 := blk_frozen BK310.out 0
                    have hfz53_1 := blk_frozen BK310.out 1
                    have hnb54 := NB314_303.out
                    have hnc54 := NB303_314.out
                    have hnb55 := NB314_304.out
                    have hnc55 := NB304_314.out
                    have hcz56_0 : wc.cell? ⟨gb314, 0, none⟩ = some (.int .i64 t311) := (blk_cell BK314.out 0).trans rfl
                    have hcz56_1 : wc.cell? ⟨gb314, 1, none⟩ = some (.int .i64 t312) := (blk_cell BK314.out 1).trans rfl
                    have hfz56_0 := blk_frozen BK314.out 0
                    have hfz56_1 := blk_frozen BK314.out 1
                    go_wp2
                    go_meet
                    case rel => exact ⟨_, (true), (by first | rfl | (simp; done) | (simp [*]; done) | (simp only [show ∀ p : Prop, Aside0 p = p from fun p => propext ⟨Aside0.out, Aside0.mk⟩] at *; simp_all; done)), H', ⟨by have := HJ4.out; have := HJ20.out; first | omega | exact Nat.le_refl _⟩, ⟨pk BK303.out⟩, ⟨pk BK304.out⟩, ⟨pk BK310.out⟩, ⟨pk BK314.out⟩, ⟨bk HB.out⟩⟩
                  · rw [if_neg c49] at H
                    have c49b0 : decide (t312 < t308) = false := decide_eq_false c49
                    clear c49
                    have H' := Aside0.mk H
                    clear H
                    have hnb57 := NB310_303.out
                    have hnc57 := NB303_310.out
                    have hnb58 := NB310_304.out
                    have hnc58 := NB304_310.out
                    have hnb59 := NB310_314.out
                    have hnc59 := NB314_310.out
                    have hcz60_0 : wc.cell? ⟨gb310, 0, none⟩ = some (.int .i64 t307) := (blk_cell BK310.out 0).trans rfl
                    have hcz60_1 : wc.cell? ⟨gb310, 1, none⟩ = some (.int .i64 t308) := (blk_cell BK310.out 1).trans rfl
                    have hfz60_0 := blk_frozen BK310.out 0
                    have hfz60_1 := blk_frozen BK310.out 1
                    have hnb61 := NB314_303.out
                    have hnc61 := NB303_314.out
                    have hnb62 := NB314_304.out
                    have hnc62 := NB304_314.out
                    have hcz63_0 : wc.cell? ⟨gb314, 0, none⟩ = some (.int .i64 t311) := (blk_cell BK314.out 0).trans rfl
                    have hcz63_1 : wc.cell? ⟨gb314, 1, none⟩ = some (.int .i64 t312) := (blk_cell BK314.out 1).trans rfl
                    have hfz63_0 := blk_frozen BK314.out 0
                    have hfz63_1 := blk_frozen BK314.out 1
                    go_wp2
                    go_meet
                    case rel => exact ⟨_, (decide (t307 > t308)), (by first | rfl | (simp; done) | (simp [*]; done) | (simp only [show ∀ p : Prop, Aside0 p = p from fun p => propext ⟨Aside0.out, Aside0.mk⟩] at *; simp_all; done)), H', ⟨by have := HJ4.out; have := HJ20.out; first | omega | exact Nat.le_refl _⟩, ⟨pk BK303.out⟩, ⟨pk BK304.out⟩, ⟨pk BK310.out⟩, ⟨pk BK314.out⟩, ⟨bk HB.out⟩⟩
              case rest =>
                clear HC40
                try clear c1
                try clear c2
                try clear p2
                try clear c3
                try clear c4
                try clear c5
                try clear c6
                try clear c9
                try clear c9b0
                try clear c9b1
                try clear c10
                try clear c11
                try clear c13
                try clear c14
                try clear c16
                try clear c22
                try clear c26
                try clear c27
                try clear c32
                try clear c33
                try clear c34
                try clear c36
                try clear c36b0
                try clear c36b1
                try clear c37
                try clear c41
                try clear c41b0
                try clear c42
                try clear c43
                try clear c44
                try clear c46
                try clear c47
                try clear c49
                try clear c49b0
                try clear c50
                try clear c51
                try clear c52
                try clear c54
                try clear c55
                try clear c57
                try clear c58
                try clear c59
                try clear c61
                try clear c62
                try clear hcz11_0
                try clear hcz11_1
                try clear hcz11_2
                try clear hcz11_3
                try clear hcz14_0
                try clear hcz14_1
                try clear hcz14_2
                try clear hcz14_3
                try clear hcz23_0
                try clear hcz23_1
                try clear hcz23_2
                try clear hcz23_3
                try clear hcz28_0
                try clear hcz28_1
                try clear hcz29_0
                try clear hcz29_1
                try clear hcz29_2
                try clear hcz29_3
                try clear hcz35_0
                try clear hcz35_1
                try clear hcz45_0
                try clear hcz45_1
                try clear hcz48_0
                try clear hcz48_1
                try clear hcz53_0
                try clear hcz53_1
                try clear hcz56_0
                try clear hcz56_1
                try clear hcz60_0
                try clear hcz60_1
                try clear hcz63_0
                try clear hcz63_1
                try clear hfz11_0
                try clear hfz11_1
                try clear hfz11_2
                try clear hfz11_3
                try clear hfz14_0
                try clear hfz14_1
                try clear hfz14_2
                try clear hfz14_3
                try clear hfz23_0
                try clear hfz23_1
                try clear hfz23_2
                try clear hfz23_3
                try clear hfz28_0
                try clear hfz28_1
                try clear hfz29_0
                try clear hfz29_1
                try clear hfz29_2
                try clear hfz29_3
                try clear hfz35_0
                try clear hfz35_1
                try clear hfz45_0
                try clear hfz45_1
                try clear hfz48_0
                try clear hfz48_1
                try clear hfz53_0
                try clear hfz53_1
                try clear hfz56_0
                try clear hfz56_1
                try clear hfz60_0
                try clear hfz60_1
                try clear hfz63_0
                try clear hfz63_1
                try clear p2
                obtain ⟨kq, x63_39, rfl, HA, HJ39, BK303, BK304, BK310, BK314, HB⟩ := hcut
                cases kq with
                | zero => exact absurd HA.out (by simp [weirgatelaw05_ClockOnlyGoesOn.j2])
                | succ kj39 =>
                  have H := HA.out
                  clear HA
                  simp only [weirgatelaw05_ClockOnlyGoesOn.j2] at H
                  by_cases c64 : x63_39 = true
                  · subst c64
                    have H1 : (some false) = some r := by rw [if_pos rfl] at H; exact H
                    clear H
                    have H := H1
                    clear H1
                    obtain rfl := Option.some.inj H
                    go_wp2
                    go_ret
                    exact ⟨by first | rfl | (simp [errW_none, errW_some] <;> rfl) | (simp [*, errW_none, errW_some] <;> rfl), bk HB.out⟩
                  · replace c64 := Bool.eq_false_iff.mpr c64
                    subst c64
                    have H1 : ((clock_Sync.f kj39 a0_0 a0_1 a0_2 a0_3 a2 a3_0 a3_1).bind fun bt316 => (if bt316.2.2.2.2 = 0 then ((clock_Read.f kj39 bt316.1 bt316.2.1 bt316.2.2.1 bt316.2.2.2.1 a2).bind fun bt322 => ((weirgatelaw05_sanity.f kj39).bind fun t326 => (if t326 = true then (if bt322.2.2 = 0 then (some (decide ((wrap64 (bt322.2.1 - bt322.1)) ≤ (wrap64 ((wrap64 (t312 - t311)) + 2))))) else (some false)) else (some false)))) else ((weirgatelaw05_sanity.f kj39).bind fun t327 => (some t327)))) = some r := by rw [if_neg (show ¬ (false = true) by decide)] at H; exact H
                    clear H
                    have H := H1
                    clear H1
                    replace H := Option.bind_eq_some_iff.mp H
                    obtain ⟨⟨t316, t317, t318, t319, t320⟩, A650, H⟩ := H
                    replace H : (if t320 = 0 then ((clock_Read.f kj39 t316 t317 t318 t319 a2).bind fun bt322 => ((weirgatelaw05_sanity.f kj39).bind fun t326 => (if t326 = true then (if bt322.2.2 = 0 then (some (decide ((wrap64 (bt322.2.1 - bt322.1)) ≤ (wrap64 ((wrap64 (t312 - t311)) + 2))))) else (some false)) else (some false)))) else ((weirgatelaw05_sanity.f kj39).bind fun t327 => (some t327))) = some r := H
                    have A65 := Aside0.mk A650
                    clear A650
                    by_cases c66 : t320 = 0
                    · rw [if_pos c66] at H
                      have c66b0 : (t320 == 0) = true := beq_iff_eq.mpr c66
                      have c66b1 : (t320 != 0) = false := bne_eq_false_iff_eq.mpr c66
                      clear c66
                      replace H := Option.bind_eq_some_iff.mp H
                      obtain ⟨⟨t322, t323, t324⟩, A670, H⟩ := H
                      replace H : ((weirgatelaw05_sanity.f kj39).bind fun t326 => (if t326 = true then (if t324 = 0 then (some (decide ((wrap64 (t323 - t322)) ≤ (wrap64 ((wrap64 (t312 - t311)) + 2))))) else (some false)) else (some false))) = some r := H
                      have A67 := Aside0.mk A670
                      clear A670
                      replace H := Option.bind_eq_some_iff.mp H
                      obtain ⟨t326, A680, H⟩ := H
                      replace H : (if t326 = true then (if t324 = 0 then (some (decide ((wrap64 (t323 - t322)) ≤ (wrap64 ((wrap64 (t312 - t311)) + 2))))) else (some false)) else (some false)) = some r := H
                      have A68 := Aside0.mk A680
                      clear A680
                      by_cases c69 : t326 = true
                      · subst c69
                        have H1 : (if t324 = 0 then (some (decide ((wrap64 (t323 - t322)) ≤ (wrap64 ((wrap64 (t312 - t311)) + 2))))) else (some false)) = some r := by rw [if_pos rfl] at H; exact H
                        clear H
                        have H := H1
                        clear H1
                        by_cases c70 : t324 = 0
                        · rw [if_pos c70] at H
                          have c70b0 : (t324 == 0) = true := beq_iff_eq.mpr c70
                          have c70b1 : (t324 != 0) = false := bne_eq_false_iff_eq.mpr c70
                          clear c70
                          obtain rfl := Option.some.inj H
                          have hnb71 := NB303_304.out
                          have hnc71 := NB304_303.out
                          have hnb72 := NB303_310.out
                          have hnc72 := NB310_303.out
                          have hnb73 := NB303_314.out
                          have hnc73 := NB314_303.out
                          have hcz74_0 : wc.cell? ⟨gb303, 0, none⟩ = some (.int .i64 a0_0) := (blk_cell BK303.out 0).trans rfl
                          have hcz74_1 : wc.cell? ⟨gb303, 1, none⟩ = some (.int .i64 a0_1) := (blk_cell BK303.out 1).trans rfl
                          have hcz74_2 : wc.cell? ⟨gb303, 2, none⟩ = some (.int .i64 a0_2) := (blk_cell BK303.out 2).trans rfl
                          have hcz74_3 : wc.cell? ⟨gb303, 3, none⟩ = some (.int .i64 a0_3) := (blk_cell BK303.out 3).trans rfl
                          have hfz74_0 := blk_frozen BK303.out 0
                          have hfz74_1 := blk_frozen BK303.out 1
                          have hfz74_2 := blk_frozen BK303.out 2
                          have hfz74_3 := blk_frozen BK303.out 3
                          have hnb75 := NB304_310.out
                          have hnc75 := NB310_304.out
                          have hnb76 := NB304_314.out
                          have hnc76 := NB314_304.out
                          have hcz77_0 : wc.cell? ⟨gb304, 0, none⟩ = some (.int .i64 a3_0) := (blk_cell BK304.out 0).trans rfl
                          have hcz77_1 : wc.cell? ⟨gb304, 1, none⟩ = some (.int .i64 a3_1) := (blk_cell BK304.out 1).trans rfl
                          have hfz77_0 := blk_frozen BK304.out 0
                          have hfz77_1 := blk_frozen BK304.out 1
                          go_wp2_with (first | ((with_reducible refine gate_callee (f := 16) rfl ?_); refine goesL_ (some 68) rfl rfl Try.func16 (by kernel_rfl) rfl #[.agg #[.int .i64 a0_0, .int .i64 a0_1, .int .i64 a0_2, .int .i64 a0_3], .int .i64 a2, .agg #[.int .i64 a3_0, .int .i64 a3_1]] rfl (by (try simp only [List.map_toArray, List.map_cons, List.map_nil]); first | done | rfl | (simp only [List.length_drop, List.length_take]; rfl)) ?_; (with_reducible refine (clock_Sync.calls kj39 a0_0 a0_1 a0_2 a0_3 a2 a3_0 a3_1 t316 t317 t318 t319 t320 _ A65.out).mono ?_); rintro e w78 ⟨rfl, hb⟩; refine ⟨_, rfl, ?_⟩; have n0_ := Aside0.mk (blk_below (pk BK303.out) hb); have n1_ := Aside0.mk (blk_below (pk BK304.out) hb); have n2_ := Aside0.mk (blk_below (pk BK310.out) hb); have n3_ := Aside0.mk (blk_below (pk BK314.out) hb); have n4_ := Aside0.mk (below_step (bk HB.out) hb); clear BK303 BK304; clear BK310 BK314 HB; have BK303 := n0_; have BK304 := n1_; have BK310 := n2_; have BK314 := n3_; have HB := n4_; clear n0_ n1_ n2_ n3_ n4_; (try clear hb); (try clear hb2); (try clear hk); (try clear hi)) | ((with_reducible refine gate_dst (N := 13) rfl ?_); refine box_event ?hg (N := 13) ?hd (cs := #[.int .i64 0, .int .i64 0, .int .i64 0, .int .i64 0]) (t := 25) ?hr ?_; (case hd => rfl); (case hg => rfl); (case hr => first | (go_simp; done) | (go_simp; rfl)); intro gb321 hg w79 hbox hb; have n0_ := Aside0.mk (blk_below (pk BK303.out) hb); have n1_ := Aside0.mk (blk_below (pk BK304.out) hb); have n2_ := Aside0.mk (blk_below (pk BK310.out) hb); have n3_ := Aside0.mk (blk_below (pk BK314.out) hb); have n4_ := Aside0.mk (below_step (bk HB.out) hb); have n5_ := Aside0.mk (hbox); have n6_ := Aside0.mk ((by rw [hg]; exact (below_size (bk HB.out)) : w.heap.size ≤ gb321)); have n7_ := Aside0.mk ((by rw [hg]; exact (below_size (bk HB.out)) : w.heap.size ≤ gb321)); have n8_ := Aside0.mk ((by rw [hg]; exact Nat.ne_of_lt (blk_lt (g := gb303) (o := .cells #[.int .i64 a0_0, .int .i64 a0_1, .int .i64 a0_2, .int .i64 a0_3] 25 (0, 0)) (pk BK303.out)) : gb303 ≠ gb321)); have n9_ := Aside0.mk ((by rw [hg]; exact Nat.ne_of_gt (blk_lt (g := gb303) (o := .cells #[.int .i64 a0_0, .int .i64 a0_1, .int .i64 a0_2, .int .i64 a0_3] 25 (0, 0)) (pk BK303.out)) : gb321 ≠ gb303)); have n10_ := Aside0.mk ((by rw [hg]; exact Nat.ne_of_lt (blk_lt (g := gb304) (o := .cells #[.int .i64 a3_0, .int .i64 a3_1] 23 (0, 0)) (pk BK304.out)) : gb304 ≠ gb321)); have n11_ := Aside0.mk ((by rw [hg]; exact Nat.ne_of_gt (blk_lt (g := gb304) (o := .cells #[.int .i64 a3_0, .int .i64 a3_1] 23 (0, 0)) (pk BK304.out)) : gb321 ≠ gb304)); have n12_ := Aside0.mk ((by rw [hg]; exact Nat.ne_of_lt (blk_lt (g := gb310) (o := .cells #[.int .i64 t307, .int .i64 t308] 23 (0, 0)) (pk BK310.out)) : gb310 ≠ gb321)); have n13_ := Aside0.mk ((by rw [hg]; exact Nat.ne_of_gt (blk_lt (g := gb310) (o := .cells #[.int .i64 t307, .int .i64 t308] 23 (0, 0)) (pk BK310.out)) : gb321 ≠ gb310)); have n14_ := Aside0.mk ((by rw [hg]; exact Nat.ne_of_lt (blk_lt (g := gb314) (o := .cells #[.int .i64 t311, .int .i64 t312] 23 (0, 0)) (pk BK314.out)) : gb314 ≠ gb321)); have n15_ := Aside0.mk ((by rw [hg]; exact Nat.ne_of_gt (blk_lt (g := gb314) (o := .cells #[.int .i64 t311, .int .i64 t312] 23 (0, 0)) (pk BK314.out)) : gb321 ≠ gb314)); clear BK303 BK304; clear BK310 BK314 HB; have BK303 := n0_; have BK304 := n1_; have BK310 := n2_; have BK314 := n3_; have HB := n4_; have BK321 := n5_; have GW321 := n6_; have GE321 := n7_; have NB303_321 := n8_; have NB321_303 := n9_; have NB304_321 := n10_; have NB321_304 := n11_; have NB310_321 := n12_; have NB321_310 := n13_; have NB314_321 := n14_; have NB321_314 := n15_; clear n0_ n1_ n2_ n3_ n4_ n5_ n6_ n7_ n8_ n9_ n10_ n11_ n12_ n13_ n14_ n15_; clear hb hbox hg; have hnb80 := NB321_303.out; have hnc80 := NB303_321.out; have hnb81 := NB321_304.out; have hnc81 := NB304_321.out; have hnb82 := NB321_310.out; have hnc82 := NB310_321.out; have hnb83 := NB321_314.out; have hnc83 := NB314_321.out; have hcz84_0 : w79.cell? ⟨gb321, 0, none⟩ = some (.int .i64 0) := (blk_cell BK321.out 0).trans rfl; have hcz84_1 : w79.cell? ⟨gb321, 1, none⟩ = some (.int .i64 0) := (blk_cell BK321.out 1).trans rfl; have hcz84_2 : w79.cell? ⟨gb321, 2, none⟩ = some (.int .i64 0) := (blk_cell BK321.out 2).trans rfl; have hcz84_3 : w79.cell? ⟨gb321, 3, none⟩ = some (.int .i64 0) := (blk_cell BK321.out 3).trans rfl; have hfz84_0 := blk_frozen BK321.out 0; have hfz84_1 := blk_frozen BK321.out 1; have hfz84_2 := blk_frozen BK321.out 2; have hfz84_3 := blk_frozen BK321.out 3) | ((with_reducible refine gate_callee (f := 14) rfl ?_); refine goesL_ (some 77) rfl rfl Try.func14 (by kernel_rfl) rfl #[.agg #[.int .i64 t316, .int .i64 t317, .int .i64 t318, .int .i64 t319], .int .i64 a2] rfl (by (try simp only [List.map_toArray, List.map_cons, List.map_nil]); first | done | rfl | (simp only [List.length_drop, List.length_take]; rfl)) ?_; (with_reducible refine (clock_Read.calls kj39 t316 t317 t318 t319 a2 t322 t323 t324 _ A67.out).mono ?_); rintro e w85 ⟨rfl, hb⟩; refine ⟨_, rfl, ?_⟩; have n0_ := Aside0.mk (blk_below (g := gb303) (o := .cells #[.int .i64 a0_0, .int .i64 a0_1, .int .i64 a0_2, .int .i64 a0_3] 25 (0, 0)) (by refine pk ?_; refine blk_far ?_ NB303_321.out _; refine pk ?_; refine blk_far ?_ NB303_321.out _; refine pk ?_; refine blk_far ?_ NB303_321.out _; refine pk ?_; refine blk_far ?_ NB303_321.out _; refine pk ?_; exact BK303.out) hb); have n1_ := Aside0.mk (blk_below (g := gb304) (o := .cells #[.int .i64 a3_0, .int .i64 a3_1] 23 (0, 0)) (by refine pk ?_; refine blk_far ?_ NB304_321.out _; refine pk ?_; refine blk_far ?_ NB304_321.out _; refine pk ?_; refine blk_far ?_ NB304_321.out _; refine pk ?_; refine blk_far ?_ NB304_321.out _; refine pk ?_; exact BK304.out) hb); have n2_ := Aside0.mk (blk_below (g := gb310) (o := .cells #[.int .i64 t307, .int .i64 t308] 23 (0, 0)) (by refine pk ?_; refine blk_far ?_ NB310_321.out _; refine pk ?_; refine blk_far ?_ NB310_321.out _; refine pk ?_; refine blk_far ?_ NB310_321.out _; refine pk ?_; refine blk_far ?_ NB310_321.out _; refine pk ?_; exact BK310.out) hb); have n3_ := Aside0.mk (blk_below (g := gb314) (o := .cells #[.int .i64 t311, .int .i64 t312] 23 (0, 0)) (by refine pk ?_; refine blk_far ?_ NB314_321.out _; refine pk ?_; refine blk_far ?_ NB314_321.out _; refine pk ?_; refine blk_far ?_ NB314_321.out _; refine pk ?_; refine blk_far ?_ NB314_321.out _; refine pk ?_; exact BK314.out) hb); have n4_ := Aside0.mk (blk_below (g := gb321) (o := .cells #[.int .i64 t316, .int .i64 t317, .int .i64 t318, .int .i64 t319] 25 (0, 0)) (by refine pk ?_; refine blk_put (cs := #[.int .i64 t316, .int .i64 t317, .int .i64 t318, .int .i64 0]) ?_ 3 _ rfl; refine pk ?_; refine blk_put (cs := #[.int .i64 t316, .int .i64 t317, .int .i64 0, .int .i64 0]) ?_ 2 _ rfl; refine pk ?_; refine blk_put (cs := #[.int .i64 t316, .int .i64 0, .int .i64 0, .int .i64 0]) ?_ 1 _ rfl; refine pk ?_; refine blk_put (cs := #[.int .i64 0, .int .i64 0, .int .i64 0, .int .i64 0]) ?_ 0 _ rfl; refine pk ?_; exact BK321.out) hb); have n5_ := Aside0.mk (below_step (bk HB.out) hb); clear BK303 BK304; clear BK310 BK314; clear BK321 HB; have BK303 := n0_; have BK304 := n1_; have BK310 := n2_; have BK314 := n3_; have BK321 := n4_; have HB := n5_; clear n0_ n1_ n2_ n3_ n4_ n5_; (try clear hb); (try clear hb2); (try clear hk); (try clear hi)) | ((with_reducible refine gate_dst (N := 15) rfl ?_); refine box_event ?hg (N := 15) ?hd (cs := #[.int .i64 0, .int .i64 0]) (t := 23) ?hr ?_; (case hd => rfl); (case hg => rfl); (case hr => first | (go_simp; done) | (go_simp; rfl)); intro gb325 hg w86 hbox hb; have n0_ := Aside0.mk (blk_below (pk BK303.out) hb); have n1_ := Aside0.mk (blk_below (pk BK304.out) hb); have n2_ := Aside0.mk (blk_below (pk BK310.out) hb); have n3_ := Aside0.mk (blk_below (pk BK314.out) hb); have n4_ := Aside0.mk (blk_below (pk BK321.out) hb); have n5_ := Aside0.mk (below_step (bk HB.out) hb); have n6_ := Aside0.mk (hbox); have n7_ := Aside0.mk ((by rw [hg]; exact (below_size (bk HB.out)) : w.heap.size ≤ gb325)); have n8_ := Aside0.mk ((by rw [hg]; exact (below_size (bk HB.out)) : w.heap.size ≤ gb325)); have n9_ := Aside0.mk ((by rw [hg]; exact Nat.ne_of_lt (blk_lt (g := gb303) (o := .cells #[.int .i64 a0_0, .int .i64 a0_1, .int .i64 a0_2, .int .i64 a0_3] 25 (0, 0)) (pk BK303.out)) : gb303 ≠ gb325)); have n10_ := Aside0.mk ((by rw [hg]; exact Nat.ne_of_gt (blk_lt (g := gb303) (o := .cells #[.int .i64 a0_0, .int .i64 a0_1, .int .i64 a0_2, .int .i64 a0_3] 25 (0, 0)) (pk BK303.out)) : gb325 ≠ gb303)); have n11_ := Aside0.mk ((by rw [hg]; exact Nat.ne_of_lt (blk_lt (g := gb304) (o := .cells #[.int .i64 a3_0, .int .i64 a3_1] 23 (0, 0)) (pk BK304.out)) : gb304 ≠ gb325)); have n12_ := Aside0.mk ((by rw [hg]; exact Nat.ne_of_gt (blk_lt (g := gb304) (o := .cells #[.int .i64 a3_0, .int .i64 a3_1] 23 (0, 0)) (pk BK304.out)) : gb325 ≠ gb304)); have n13_ := Aside0.mk ((by rw [hg]; exact Nat.ne_of_lt (blk_lt (g := gb310) (o := .cells #[.int .i64 t307, .int .i64 t308] 23 (0, 0)) (pk BK310.out)) : gb310 ≠ gb325)); have n14_ := Aside0.mk ((by rw [hg]; exact Nat.ne_of_gt (blk_lt (g := gb310) (o := .cells #[.int .i64 t307, .int .i64 t308] 23 (0, 0)) (pk BK310.out)) : gb325 ≠ gb310)); have n15_ := Aside0.mk ((by rw [hg]; exact Nat.ne_of_lt (blk_lt (g := gb314) (o := .cells #[.int .i64 t311, .int .i64 t312] 23 (0, 0)) (pk BK314.out)) : gb314 ≠ gb325)); have n16_ := Aside0.mk ((by rw [hg]; exact Nat.ne_of_gt (blk_lt (g := gb314) (o := .cells #[.int .i64 t311, .int .i64 t312] 23 (0, 0)) (pk BK314.out)) : gb325 ≠ gb314)); have n17_ := Aside0.mk ((by rw [hg]; exact Nat.ne_of_lt (blk_lt (g := gb321) (o := .cells #[.int .i64 t316, .int .i64 t317, .int .i64 t318, .int .i64 t319] 25 (0, 0)) (pk BK321.out)) : gb321 ≠ gb325)); have n18_ := Aside0.mk ((by rw [hg]; exact Nat.ne_of_gt (blk_lt (g := gb321) (o := .cells #[.int .i64 t316, .int .i64 t317, .int .i64 t318, .int .i64 t319] 25 (0, 0)) (pk BK321.out)) : gb325 ≠ gb321)); clear BK303 BK304; clear BK310 BK314; clear BK321 HB; have BK303 := n0_; have BK304 := n1_; have BK310 := n2_; have BK314 := n3_; have BK321 := n4_; have HB := n5_; have BK325 := n6_; have GW325 := n7_; have GE325 := n8_; have NB303_325 := n9_; have NB325_303 := n10_; have NB304_325 := n11_; have NB325_304 := n12_; have NB310_325 := n13_; have NB325_310 := n14_; have NB314_325 := n15_; have NB325_314 := n16_; have NB321_325 := n17_; have NB325_321 := n18_; clear n0_ n1_ n2_ n3_ n4_ n5_ n6_ n7_ n8_ n9_ n10_ n11_ n12_ n13_ n14_ n15_ n16_ n17_ n18_; clear hb hbox hg; have hnb87 := NB325_303.out; have hnc87 := NB303_325.out; have hnb88 := NB325_304.out; have hnc88 := NB304_325.out; have hnb89 := NB325_310.out; have hnc89 := NB310_325.out; have hnb90 := NB325_314.out; have hnc90 := NB314_325.out; have hnb91 := NB325_321.out; have hnc91 := NB321_325.out; have hcz92_0 : w86.cell? ⟨gb325, 0, none⟩ = some (.int .i64 0) := (blk_cell BK325.out 0).trans rfl; have hcz92_1 : w86.cell? ⟨gb325, 1, none⟩ = some (.int .i64 0) := (blk_cell BK325.out 1).trans rfl; have hfz92_0 := blk_frozen BK325.out 0; have hfz92_1 := blk_frozen BK325.out 1) | ((with_reducible refine gate_callee (f := 13) rfl ?_); refine goesL_ (some 80) rfl rfl Try.func13 (by kernel_rfl) rfl #[] rfl (by (try simp only [List.map_toArray, List.map_cons, List.map_nil]); first | done | rfl | (simp only [List.length_drop, List.length_take]; rfl)) ?_; (with_reducible refine (weirgatelaw05_sanity.calls kj39  true _ A68.out).mono ?_); rintro e w93 ⟨rfl, hb⟩; refine ⟨_, rfl, ?_⟩; have n0_ := Aside0.mk (blk_below (g := gb303) (o := .cells #[.int .i64 a0_0, .int .i64 a0_1, .int .i64 a0_2, .int .i64 a0_3] 25 (0, 0)) (by refine pk ?_; refine blk_far ?_ NB303_325.out _; refine pk ?_; refine blk_far ?_ NB303_325.out _; refine pk ?_; exact BK303.out) hb); have n1_ := Aside0.mk (blk_below (g := gb304) (o := .cells #[.int .i64 a3_0, .int .i64 a3_1] 23 (0, 0)) (by refine pk ?_; refine blk_far ?_ NB304_325.out _; refine pk ?_; refine blk_far ?_ NB304_325.out _; refine pk ?_; exact BK304.out) hb); have n2_ := Aside0.mk (blk_below (g := gb310) (o := .cells #[.int .i64 t307, .int .i64 t308] 23 (0, 0)) (by refine pk ?_; refine blk_far ?_ NB310_325.out _; refine pk ?_; refine blk_far ?_ NB310_325.out _; refine pk ?_; exact BK310.out) hb); have n3_ := Aside0.mk (blk_below (g := gb314) (o := .cells #[.int .i64 t311, .int .i64 t312] 23 (0, 0)) (by refine pk ?_; refine blk_far ?_ NB314_325.out _; refine pk ?_; refine blk_far ?_ NB314_325.out _; refine pk ?_; exact BK314.out) hb); have n4_ := Aside0.mk (blk_below (g := gb321) (o := .cells #[.int .i64 t316, .int .i64 t317, .int .i64 t318, .int .i64 t319] 25 (0, 0)) (by refine pk ?_; refine blk_far ?_ NB321_325.out _; refine pk ?_; refine blk_far ?_ NB321_325.out _; refine pk ?_; exact BK321.out) hb); have n5_ := Aside0.mk (blk_below (g := gb325) (o := .cells #[.int .i64 t322, .int .i64 t323] 23 (0, 0)) (by refine pk ?_; refine blk_put (cs := #[.int .i64 t322, .int .i64 0]) ?_ 1 _ rfl; refine pk ?_; refine blk_put (cs := #[.int .i64 0, .int .i64 0]) ?_ 0 _ rfl; refine pk ?_; exact BK325.out) hb); have n6_ := Aside0.mk (below_step (bk HB.out) hb); clear BK303 BK304; clear BK310 BK314; clear BK321 BK325 HB; have BK303 := n0_; have BK304 := n1_; have BK310 := n2_; have BK314 := n3_; have BK321 := n4_; have BK325 := n5_; have HB := n6_; clear n0_ n1_ n2_ n3_ n4_ n5_ n6_; (try clear hb); (try clear hb2); (try clear hk); (try clear hi); have hcz94_0 : w93.cell? ⟨gb325, 0, none⟩ = some (.int .i64 t322) := (blk_cell BK325.out 0).trans rfl; have hcz94_1 : w93.cell? ⟨gb325, 1, none⟩ = some (.int .i64 t323) := (blk_cell BK325.out 1).trans rfl; have hfz94_0 := blk_frozen BK325.out 0; have hfz94_1 := blk_frozen BK325.out 1; have hnb95 := NB314_310.out; have hnc95 := NB310_314.out; have hcz96_0 : w93.cell? ⟨gb314, 0, none⟩ = some (.int .i64 t311) := (blk_cell BK314.out 0).trans rfl; have hcz96_1 : w93.cell? ⟨gb314, 1, none⟩ = some (.int .i64 t312) := (blk_cell BK314.out 1).trans rfl; have hfz96_0 := blk_frozen BK314.out 0; have hfz96_1 := blk_frozen BK314.out 1))
                          go_ret
                          exact ⟨by first | rfl | (simp [errW_none, errW_some] <;> rfl) | (simp [*, errW_none, errW_some] <;> rfl), bk HB.out⟩
                        · rw [if_neg c70] at H
                          have c70b0 : (t324 == 0) = false := beq_eq_false_iff_ne.mpr c70
                          have c70b1 : (t324 != 0) = true := bne_iff_ne.mpr c70
                          obtain rfl := Option.some.inj H
                          have hnb97 := NB303_304.out
                          have hnc97 := NB304_303.out
                          have hnb98 := NB303_310.out
                          have hnc98 := NB310_303.out
                          have hnb99 := NB303_314.out
                          have hnc99 := NB314_303.out
                          have hcz100_0 : wc.cell? ⟨gb303, 0, none⟩ = some (.int .i64 a0_0) := (blk_cell BK303.out 0).trans rfl
                          have hcz100_1 : wc.cell? ⟨gb303, 1, none⟩ = some (.int .i64 a0_1) := (blk_cell BK303.out 1).trans rfl
                          have hcz100_2 : wc.cell? ⟨gb303, 2, none⟩ = some (.int .i64 a0_2) := (blk_cell BK303.out 2).trans rfl
                          have hcz100_3 : wc.cell? ⟨gb303, 3, none⟩ = some (.int .i64 a0_3) := (blk_cell BK303.out 3).trans rfl
                          have hfz100_0 := blk_frozen BK303.out 0
                          have hfz100_1 := blk_frozen BK303.out 1
                          have hfz100_2 := blk_frozen BK303.out 2
                          have hfz100_3 := blk_frozen BK303.out 3
                          have hnb101 := NB304_310.out
                          have hnc101 := NB310_304.out
                          have hnb102 := NB304_314.out
                          have hnc102 := NB314_304.out
                          have hcz103_0 : wc.cell? ⟨gb304, 0, none⟩ = some (.int .i64 a3_0) := (blk_cell BK304.out 0).trans rfl
                          have hcz103_1 : wc.cell? ⟨gb304, 1, none⟩ = some (.int .i64 a3_1) := (blk_cell BK304.out 1).trans rfl
                          have hfz103_0 := blk_frozen BK304.out 0
                          have hfz103_1 := blk_frozen BK304.out 1
                          go_wp2_with (first | ((with_reducible refine gate_callee (f := 16) rfl ?_); refine goesL_ (some 68) rfl rfl Try.func16 (by kernel_rfl) rfl #[.agg #[.int .i64 a0_0, .int .i64 a0_1, .int .i64 a0_2, .int .i64 a0_3], .int .i64 a2, .agg #[.int .i64 a3_0, .int .i64 a3_1]] rfl (by (try simp only [List.map_toArray, List.map_cons, List.map_nil]); first | done | rfl | (simp only [List.length_drop, List.length_take]; rfl)) ?_; (with_reducible refine (clock_Sync.calls kj39 a0_0 a0_1 a0_2 a0_3 a2 a3_0 a3_1 t316 t317 t318 t319 t320 _ A65.out).mono ?_); rintro e w104 ⟨rfl, hb⟩; refine ⟨_, rfl, ?_⟩; have n0_ := Aside0.mk (blk_below (pk BK303.out) hb); have n1_ := Aside0.mk (blk_below (pk BK304.out) hb); have n2_ := Aside0.mk (blk_below (pk BK310.out) hb); have n3_ := Aside0.mk (blk_below (pk BK314.out) hb); have n4_ := Aside0.mk (below_step (bk HB.out) hb); clear BK303 BK304; clear BK310 BK314 HB; have BK303 := n0_; have BK304 := n1_; have BK310 := n2_; have BK314 := n3_; have HB := n4_; clear n0_ n1_ n2_ n3_ n4_; (try clear hb); (try clear hb2); (try clear hk); (try clear hi)) | ((with_reducible refine gate_dst (N := 13) rfl ?_); refine box_event ?hg (N := 13) ?hd (cs := #[.int .i64 0, .int .i64 0, .int .i64 0, .int .i64 0]) (t := 25) ?hr ?_; (case hd => rfl); (case hg => rfl); (case hr => first | (go_simp; done) | (go_simp; rfl)); intro gb321 hg w105 hbox hb; have n0_ := Aside0.mk (blk_below (pk BK303.out) hb); have n1_ := Aside0.mk (blk_below (pk BK304.out) hb); have n2_ := Aside0.mk (blk_below (pk BK310.out) hb); have n3_ := Aside0.mk (blk_below (pk BK314.out) hb); have n4_ := Aside0.mk (below_step (bk HB.out) hb); have n5_ := Aside0.mk (hbox); have n6_ := Aside0.mk ((by rw [hg]; exact (below_size (bk HB.out)) : w.heap.size ≤ gb321)); have n7_ := Aside0.mk ((by rw [hg]; exact (below_size (bk HB.out)) : w.heap.size ≤ gb321)); have n8_ := Aside0.mk ((by rw [hg]; exact Nat.ne_of_lt (blk_lt (g := gb303) (o := .cells #[.int .i64 a0_0, .int .i64 a0_1, .int .i64 a0_2, .int .i64 a0_3] 25 (0, 0)) (pk BK303.out)) : gb303 ≠ gb321)); have n9_ := Aside0.mk ((by rw [hg]; exact Nat.ne_of_gt (blk_lt (g := gb303) (o := .cells #[.int .i64 a0_0, .int .i64 a0_1, .int .i64 a0_2, .int .i64 a0_3] 25 (0, 0)) (pk BK303.out)) : gb321 ≠ gb303)); have n10_ := Aside0.mk ((by rw [hg]; exact Nat.ne_of_lt (blk_lt (g := gb304) (o := .cells #[.int .i64 a3_0, .int .i64 a3_1] 23 (0, 0)) (pk BK304.out)) : gb304 ≠ gb321)); have n11_ := Aside0.mk ((by rw [hg]; exact Nat.ne_of_gt (blk_lt (g := gb304) (o := .cells #[.int .i64 a3_0, .int .i64 a3_1] 23 (0, 0)) (pk BK304.out)) : gb321 ≠ gb304)); have n12_ := Aside0.mk ((by rw [hg]; exact Nat.ne_of_lt (blk_lt (g := gb310) (o := .cells #[.int .i64 t307, .int .i64 t308] 23 (0, 0)) (pk BK310.out)) : gb310 ≠ gb321)); have n13_ := Aside0.mk ((by rw [hg]; exact Nat.ne_of_gt (blk_lt (g := gb310) (o := .cells #[.int .i64 t307, .int .i64 t308] 23 (0, 0)) (pk BK310.out)) : gb321 ≠ gb310)); have n14_ := Aside0.mk ((by rw [hg]; exact Nat.ne_of_lt (blk_lt (g := gb314) (o := .cells #[.int .i64 t311, .int .i64 t312] 23 (0, 0)) (pk BK314.out)) : gb314 ≠ gb321)); have n15_ := Aside0.mk ((by rw [hg]; exact Nat.ne_of_gt (blk_lt (g := gb314) (o := .cells #[.int .i64 t311, .int .i64 t312] 23 (0, 0)) (pk BK314.out)) : gb321 ≠ gb314)); clear BK303 BK304; clear BK310 BK314 HB; have BK303 := n0_; have BK304 := n1_; have BK310 := n2_; have BK314 := n3_; have HB := n4_; have BK321 := n5_; have GW321 := n6_; have GE321 := n7_; have NB303_321 := n8_; have NB321_303 := n9_; have NB304_321 := n10_; have NB321_304 := n11_; have NB310_321 := n12_; have NB321_310 := n13_; have NB314_321 := n14_; have NB321_314 := n15_; clear n0_ n1_ n2_ n3_ n4_ n5_ n6_ n7_ n8_ n9_ n10_ n11_ n12_ n13_ n14_ n15_; clear hb hbox hg; have hnb106 := NB321_303.out; have hnc106 := NB303_321.out; have hnb107 := NB321_304.out; have hnc107 := NB304_321.out; have hnb108 := NB321_310.out; have hnc108 := NB310_321.out; have hnb109 := NB321_314.out; have hnc109 := NB314_321.out; have hcz110_0 : w105.cell? ⟨gb321, 0, none⟩ = some (.int .i64 0) := (blk_cell BK321.out 0).trans rfl; have hcz110_1 : w105.cell? ⟨gb321, 1, none⟩ = some (.int .i64 0) := (blk_cell BK321.out 1).trans rfl; have hcz110_2 : w105.cell? ⟨gb321, 2, none⟩ = some (.int .i64 0) := (blk_cell BK321.out 2).trans rfl; have hcz110_3 : w105.cell? ⟨gb321, 3, none⟩ = some (.int .i64 0) := (blk_cell BK321.out 3).trans rfl; have hfz110_0 := blk_frozen BK321.out 0; have hfz110_1 := blk_frozen BK321.out 1; have hfz110_2 := blk_frozen BK321.out 2; have hfz110_3 := blk_frozen BK321.out 3) | ((with_reducible refine gate_callee (f := 14) rfl ?_); refine goesL_ (some 77) rfl rfl Try.func14 (by kernel_rfl) rfl #[.agg #[.int .i64 t316, .int .i64 t317, .int .i64 t318, .int .i64 t319], .int .i64 a2] rfl (by (try simp only [List.map_toArray, List.map_cons, List.map_nil]); first | done | rfl | (simp only [List.length_drop, List.length_take]; rfl)) ?_; (with_reducible refine (clock_Read.calls kj39 t316 t317 t318 t319 a2 t322 t323 t324 _ A67.out).mono ?_); rintro e w111 ⟨rfl, hb⟩; refine ⟨_, rfl, ?_⟩; have n0_ := Aside0.mk (blk_below (g := gb303) (o := .cells #[.int .i64 a0_0, .int .i64 a0_1, .int .i64 a0_2, .int .i64 a0_3] 25 (0, 0)) (by refine pk ?_; refine blk_far ?_ NB303_321.out _; refine pk ?_; refine blk_far ?_ NB303_321.out _; refine pk ?_; refine blk_far ?_ NB303_321.out _; refine pk ?_; refine blk_far ?_ NB303_321.out _; refine pk ?_; exact BK303.out) hb); have n1_ := Aside0.mk (blk_below (g := gb304) (o := .cells #[.int .i64 a3_0, .int .i64 a3_1] 23 (0, 0)) (by refine pk ?_; refine blk_far ?_ NB304_321.out _; refine pk ?_; refine blk_far ?_ NB304_321.out _; refine pk ?_; refine blk_far ?_ NB304_321.out _; refine pk ?_; refine blk_far ?_ NB304_321.out _; refine pk ?_; exact BK304.out) hb); have n2_ := Aside0.mk (blk_below (g := gb310) (o := .cells #[.int .i64 t307, .int .i64 t308] 23 (0, 0)) (by refine pk ?_; refine blk_far ?_ NB310_321.out _; refine pk ?_; refine blk_far ?_ NB310_321.out _; refine pk ?_; refine blk_far ?_ NB310_321.out _; refine pk ?_; refine blk_far ?_ NB310_321.out _; refine pk ?_; exact BK310.out) hb); have n3_ := Aside0.mk (blk_below (g := gb314) (o := .cells #[.int .i64 t311, .int .i64 t312] 23 (0, 0)) (by refine pk ?_; refine blk_far ?_ NB314_321.out _; refine pk ?_; refine blk_far ?_ NB314_321.out _; refine pk ?_; refine blk_far ?_ NB314_321.out _; refine pk ?_; refine blk_far ?_ NB314_321.out _; refine pk ?_; exact BK314.out) hb); have n4_ := Aside0.mk (blk_below (g := gb321) (o := .cells #[.int .i64 t316, .int .i64 t317, .int .i64 t318, .int .i64 t319] 25 (0, 0)) (by refine pk ?_; refine blk_put (cs := #[.int .i64 t316, .int .i64 t317, .int .i64 t318, .int .i64 0]) ?_ 3 _ rfl; refine pk ?_; refine blk_put (cs := #[.int .i64 t316, .int .i64 t317, .int .i64 0, .int .i64 0]) ?_ 2 _ rfl; refine pk ?_; refine blk_put (cs := #[.int .i64 t316, .int .i64 0, .int .i64 0, .int .i64 0]) ?_ 1 _ rfl; refine pk ?_; refine blk_put (cs := #[.int .i64 0, .int .i64 0, .int .i64 0, .int .i64 0]) ?_ 0 _ rfl; refine pk ?_; exact BK321.out) hb); have n5_ := Aside0.mk (below_step (bk HB.out) hb); clear BK303 BK304; clear BK310 BK314; clear BK321 HB; have BK303 := n0_; have BK304 := n1_; have BK310 := n2_; have BK314 := n3_; have BK321 := n4_; have HB := n5_; clear n0_ n1_ n2_ n3_ n4_ n5_; (try clear hb); (try clear hb2); (try clear hk); (try clear hi)) | ((with_reducible refine gate_dst (N := 15) rfl ?_); refine box_event ?hg (N := 15) ?hd (cs := #[.int .i64 0, .int .i64 0]) (t := 23) ?hr ?_; (case hd => rfl); (case hg => rfl); (case hr => first | (go_simp; done) | (go_simp; rfl)); intro gb325 hg w112 hbox hb; have n0_ := Aside0.mk (blk_below (pk BK303.out) hb); have n1_ := Aside0.mk (blk_below (pk BK304.out) hb); have n2_ := Aside0.mk (blk_below (pk BK310.out) hb); have n3_ := Aside0.mk (blk_below (pk BK314.out) hb); have n4_ := Aside0.mk (blk_below (pk BK321.out) hb); have n5_ := Aside0.mk (below_step (bk HB.out) hb); have n6_ := Aside0.mk (hbox); have n7_ := Aside0.mk ((by rw [hg]; exact (below_size (bk HB.out)) : w.heap.size ≤ gb325)); have n8_ := Aside0.mk ((by rw [hg]; exact (below_size (bk HB.out)) : w.heap.size ≤ gb325)); have n9_ := Aside0.mk ((by rw [hg]; exact Nat.ne_of_lt (blk_lt (g := gb303) (o := .cells #[.int .i64 a0_0, .int .i64 a0_1, .int .i64 a0_2, .int .i64 a0_3] 25 (0, 0)) (pk BK303.out)) : gb303 ≠ gb325)); have n10_ := Aside0.mk ((by rw [hg]; exact Nat.ne_of_gt (blk_lt (g := gb303) (o := .cells #[.int .i64 a0_0, .int .i64 a0_1, .int .i64 a0_2, .int .i64 a0_3] 25 (0, 0)) (pk BK303.out)) : gb325 ≠ gb303)); have n11_ := Aside0.mk ((by rw [hg]; exact Nat.ne_of_lt (blk_lt (g := gb304) (o := .cells #[.int .i64 a3_0, .int .i64 a3_1] 23 (0, 0)) (pk BK304.out)) : gb304 ≠ gb325)); have n12_ := Aside0.mk ((by rw [hg]; exact Nat.ne_of_gt (blk_lt (g := gb304) (o := .cells #[.int .i64 a3_0, .int .i64 a3_1] 23 (0, 0)) (pk BK304.out)) : gb325 ≠ gb304)); have n13_ := Aside0.mk ((by rw [hg]; exact Nat.ne_of_lt (blk_lt (g := gb310) (o := .cells #[.int .i64 t307, .int .i64 t308] 23 (0, 0)) (pk BK310.out)) : gb310 ≠ gb325)); have n14_ := Aside0.mk ((by rw [hg]; exact Nat.ne_of_gt (blk_lt (g := gb310) (o := .cells #[.int .i64 t307, .int .i64 t308] 23 (0, 0)) (pk BK310.out)) : gb325 ≠ gb310)); have n15_ := Aside0.mk ((by rw [hg]; exact Nat.ne_of_lt (blk_lt (g := gb314) (o := .cells #[.int .i64 t311, .int .i64 t312] 23 (0, 0)) (pk BK314.out)) : gb314 ≠ gb325)); have n16_ := Aside0.mk ((by rw [hg]; exact Nat.ne_of_gt (blk_lt (g := gb314) (o := .cells #[.int .i64 t311, .int .i64 t312] 23 (0, 0)) (pk BK314.out)) : gb325 ≠ gb314)); have n17_ := Aside0.mk ((by rw [hg]; exact Nat.ne_of_lt (blk_lt (g := gb321) (o := .cells #[.int .i64 t316, .int .i64 t317, .int .i64 t318, .int .i64 t319] 25 (0, 0)) (pk BK321.out)) : gb321 ≠ gb325)); have n18_ := Aside0.mk ((by rw [hg]; exact Nat.ne_of_gt (blk_lt (g := gb321) (o := .cells #[.int .i64 t316, .int .i64 t317, .int .i64 t318, .int .i64 t319] 25 (0, 0)) (pk BK321.out)) : gb325 ≠ gb321)); clear BK303 BK304; clear BK310 BK314; clear BK321 HB; have BK303 := n0_; have BK304 := n1_; have BK310 := n2_; have BK314 := n3_; have BK321 := n4_; have HB := n5_; have BK325 := n6_; have GW325 := n7_; have GE325 := n8_; have NB303_325 := n9_; have NB325_303 := n10_; have NB304_325 := n11_; have NB325_304 := n12_; have NB310_325 := n13_; have NB325_310 := n14_; have NB314_325 := n15_; have NB325_314 := n16_; have NB321_325 := n17_; have NB325_321 := n18_; clear n0_ n1_ n2_ n3_ n4_ n5_ n6_ n7_ n8_ n9_ n10_ n11_ n12_ n13_ n14_ n15_ n16_ n17_ n18_; clear hb hbox hg; have hnb113 := NB325_303.out; have hnc113 := NB303_325.out; have hnb114 := NB325_304.out; have hnc114 := NB304_325.out; have hnb115 := NB325_310.out; have hnc115 := NB310_325.out; have hnb116 := NB325_314.out; have hnc116 := NB314_325.out; have hnb117 := NB325_321.out; have hnc117 := NB321_325.out; have hcz118_0 : w112.cell? ⟨gb325, 0, none⟩ = some (.int .i64 0) := (blk_cell BK325.out 0).trans rfl; have hcz118_1 : w112.cell? ⟨gb325, 1, none⟩ = some (.int .i64 0) := (blk_cell BK325.out 1).trans rfl; have hfz118_0 := blk_frozen BK325.out 0; have hfz118_1 := blk_frozen BK325.out 1) | ((with_reducible refine gate_callee (f := 13) rfl ?_); refine goesL_ (some 80) rfl rfl Try.func13 (by kernel_rfl) rfl #[] rfl (by (try simp only [List.map_toArray, List.map_cons, List.map_nil]); first | done | rfl | (simp only [List.length_drop, List.length_take]; rfl)) ?_; (with_reducible refine (weirgatelaw05_sanity.calls kj39  true _ A68.out).mono ?_); rintro e w119 ⟨rfl, hb⟩; refine ⟨_, rfl, ?_⟩; have n0_ := Aside0.mk (blk_below (g := gb303) (o := .cells #[.int .i64 a0_0, .int .i64 a0_1, .int .i64 a0_2, .int .i64 a0_3] 25 (0, 0)) (by refine pk ?_; refine blk_far ?_ NB303_325.out _; refine pk ?_; refine blk_far ?_ NB303_325.out _; refine pk ?_; exact BK303.out) hb); have n1_ := Aside0.mk (blk_below (g := gb304) (o := .cells #[.int .i64 a3_0, .int .i64 a3_1] 23 (0, 0)) (by refine pk ?_; refine blk_far ?_ NB304_325.out _; refine pk ?_; refine blk_far ?_ NB304_325.out _; refine pk ?_; exact BK304.out) hb); have n2_ := Aside0.mk (blk_below (g := gb310) (o := .cells #[.int .i64 t307, .int .i64 t308] 23 (0, 0)) (by refine pk ?_; refine blk_far ?_ NB310_325.out _; refine pk ?_; refine blk_far ?_ NB310_325.out _; refine pk ?_; exact BK310.out) hb); have n3_ := Aside0.mk (blk_below (g := gb314) (o := .cells #[.int .i64 t311, .int .i64 t312] 23 (0, 0)) (by refine pk ?_; refine blk_far ?_ NB314_325.out _; refine pk ?_; refine blk_far ?_ NB314_325.out _; refine pk ?_; exact BK314.out) hb); have n4_ := Aside0.mk (blk_below (g := gb321) (o := .cells #[.int .i64 t316, .int .i64 t317, .int .i64 t318, .int .i64 t319] 25 (0, 0)) (by refine pk ?_; refine blk_far ?_ NB321_325.out _; refine pk ?_; refine blk_far ?_ NB321_325.out _; refine pk ?_; exact BK321.out) hb); have n5_ := Aside0.mk (blk_below (g := gb325) (o := .cells #[.int .i64 t322, .int .i64 t323] 23 (0, 0)) (by refine pk ?_; refine blk_put (cs := #[.int .i64 t322, .int .i64 0]) ?_ 1 _ rfl; refine pk ?_; refine blk_put (cs := #[.int .i64 0, .int .i64 0]) ?_ 0 _ rfl; refine pk ?_; exact BK325.out) hb); have n6_ := Aside0.mk (below_step (bk HB.out) hb); clear BK303 BK304; clear BK310 BK314; clear BK321 BK325 HB; have BK303 := n0_; have BK304 := n1_; have BK310 := n2_; have BK314 := n3_; have BK321 := n4_; have BK325 := n5_; have HB := n6_; clear n0_ n1_ n2_ n3_ n4_ n5_ n6_; (try clear hb); (try clear hb2); (try clear hk); (try clear hi)))
                          go_ret
                          exact ⟨by first | rfl | (simp [errW_none, errW_some] <;> rfl) | (simp [*, errW_none, errW_some] <;> rfl), bk HB.out⟩
                      · replace c69 := Bool.eq_false_iff.mpr c69
                        subst c69
                        have H1 : (some false) = some r := by rw [if_neg (show ¬ (false = true) by decide)] at H; exact H
                        clear H
                        have H := H1
                        clear H1
                        obtain rfl := Option.some.inj H
                        have hnb120 := NB303_304.out
                        have hnc120 := NB304_303.out
                        have hnb121 := NB303_310.out
                        have hnc121 := NB310_303.out
                        have hnb122 := NB303_314.out
                        have hnc122 := NB314_303.out
                        have hcz123_0 : wc.cell? ⟨gb303, 0, none⟩ = some (.int .i64 a0_0) := (blk_cell BK303.out 0).trans rfl
                        have hcz123_1 : wc.cell? ⟨gb303, 1, none⟩ = some (.int .i64 a0_1) := (blk_cell BK303.out 1).trans rfl
                        have hcz123_2 : wc.cell? ⟨gb303, 2, none⟩ = some (.int .i64 a0_2) := (blk_cell BK303.out 2).trans rfl
                        have hcz123_3 : wc.cell? ⟨gb303, 3, none⟩ = some (.int .i64 a0_3) := (blk_cell BK303.out 3).trans rfl
                        have hfz123_0 := blk_frozen BK303.out 0
                        have hfz123_1 := blk_frozen BK303.out 1
                        have hfz123_2 := blk_frozen BK303.out 2
                        have hfz123_3 := blk_frozen BK303.out 3
                        have hnb124 := NB304_310.out
                        have hnc124 := NB310_304.out
                        have hnb125 := NB304_314.out
                        have hnc125 := NB314_304.out
                        have hcz126_0 : wc.cell? ⟨gb304, 0, none⟩ = some (.int .i64 a3_0) := (blk_cell BK304.out 0).trans rfl
                        have hcz126_1 : wc.cell? ⟨gb304, 1, none⟩ = some (.int .i64 a3_1) := (blk_cell BK304.out 1).trans rfl
                        have hfz126_0 := blk_frozen BK304.out 0
                        have hfz126_1 := blk_frozen BK304.out 1
                        go_wp2_with (first | ((with_reducible refine gate_callee (f := 16) rfl ?_); refine goesL_ (some 68) rfl rfl Try.func16 (by kernel_rfl) rfl #[.agg #[.int .i64 a0_0, .int .i64 a0_1, .int .i64 a0_2, .int .i64 a0_3], .int .i64 a2, .agg #[.int .i64 a3_0, .int .i64 a3_1]] rfl (by (try simp only [List.map_toArray, List.map_cons, List.map_nil]); first | done | rfl | (simp only [List.length_drop, List.length_take]; rfl)) ?_; (with_reducible refine (clock_Sync.calls kj39 a0_0 a0_1 a0_2 a0_3 a2 a3_0 a3_1 t316 t317 t318 t319 t320 _ A65.out).mono ?_); rintro e w127 ⟨rfl, hb⟩; refine ⟨_, rfl, ?_⟩; have n0_ := Aside0.mk (blk_below (pk BK303.out) hb); have n1_ := Aside0.mk (blk_below (pk BK304.out) hb); have n2_ := Aside0.mk (blk_below (pk BK310.out) hb); have n3_ := Aside0.mk (blk_below (pk BK314.out) hb); have n4_ := Aside0.mk (below_step (bk HB.out) hb); clear BK303 BK304; clear BK310 BK314 HB; have BK303 := n0_; have BK304 := n1_; have BK310 := n2_; have BK314 := n3_; have HB := n4_; clear n0_ n1_ n2_ n3_ n4_; (try clear hb); (try clear hb2); (try clear hk); (try clear hi)) | ((with_reducible refine gate_dst (N := 13) rfl ?_); refine box_event ?hg (N := 13) ?hd (cs := #[.int .i64 0, .int .i64 0, .int .i64 0, .int .i64 0]) (t := 25) ?hr ?_; (case hd => rfl); (case hg => rfl); (case hr => first | (go_simp; done) | (go_simp; rfl)); intro gb321 hg w128 hbox hb; have n0_ := Aside0.mk (blk_below (pk BK303.out) hb); have n1_ := Aside0.mk (blk_below (pk BK304.out) hb); have n2_ := Aside0.mk (blk_below (pk BK310.out) hb); have n3_ := Aside0.mk (blk_below (pk BK314.out) hb); have n4_ := Aside0.mk (below_step (bk HB.out) hb); have n5_ := Aside0.mk (hbox); have n6_ := Aside0.mk ((by rw [hg]; exact (below_size (bk HB.out)) : w.heap.size ≤ gb321)); have n7_ := Aside0.mk ((by rw [hg]; exact (below_size (bk HB.out)) : w.heap.size ≤ gb321)); have n8_ := Aside0.mk ((by rw [hg]; exact Nat.ne_of_lt (blk_lt (g := gb303) (o := .cells #[.int .i64 a0_0, .int .i64 a0_1, .int .i64 a0_2, .int .i64 a0_3] 25 (0, 0)) (pk BK303.out)) : gb303 ≠ gb321)); have n9_ := Aside0.mk ((by rw [hg]; exact Nat.ne_of_gt (blk_lt (g := gb303) (o := .cells #[.int .i64 a0_0, .int .i64 a0_1, .int .i64 a0_2, .int .i64 a0_3] 25 (0, 0)) (pk BK303.out)) : gb321 ≠ gb303)); have n10_ := Aside0.mk ((by rw [hg]; exact Nat.ne_of_lt (blk_lt (g := gb304) (o := .cells #[.int .i64 a3_0, .int .i64 a3_1] 23 (0, 0)) (pk BK304.out)) : gb304 ≠ gb321)); have n11_ := Aside0.mk ((by rw [hg]; exact Nat.ne_of_gt (blk_lt (g := gb304) (o := .cells #[.int .i64 a3_0, .int .i64 a3_1] 23 (0, 0)) (pk BK304.out)) : gb321 ≠ gb304)); have n12_ := Aside0.mk ((by rw [hg]; exact Nat.ne_of_lt (blk_lt (g := gb310) (o := .cells #[.int .i64 t307, .int .i64 t308] 23 (0, 0)) (pk BK310.out)) : gb310 ≠ gb321)); have n13_ := Aside0.mk ((by rw [hg]; exact Nat.ne_of_gt (blk_lt (g := gb310) (o := .cells #[.int .i64 t307, .int .i64 t308] 23 (0, 0)) (pk BK310.out)) : gb321 ≠ gb310)); have n14_ := Aside0.mk ((by rw [hg]; exact Nat.ne_of_lt (blk_lt (g := gb314) (o := .cells #[.int .i64 t311, .int .i64 t312] 23 (0, 0)) (pk BK314.out)) : gb314 ≠ gb321)); have n15_ := Aside0.mk ((by rw [hg]; exact Nat.ne_of_gt (blk_lt (g := gb314) (o := .cells #[.int .i64 t311, .int .i64 t312] 23 (0, 0)) (pk BK314.out)) : gb321 ≠ gb314)); clear BK303 BK304; clear BK310 BK314 HB; have BK303 := n0_; have BK304 := n1_; have BK310 := n2_; have BK314 := n3_; have HB := n4_; have BK321 := n5_; have GW321 := n6_; have GE321 := n7_; have NB303_321 := n8_; have NB321_303 := n9_; have NB304_321 := n10_; have NB321_304 := n11_; have NB310_321 := n12_; have NB321_310 := n13_; have NB314_321 := n14_; have NB321_314 := n15_; clear n0_ n1_ n2_ n3_ n4_ n5_ n6_ n7_ n8_ n9_ n10_ n11_ n12_ n13_ n14_ n15_; clear hb hbox hg; have hnb129 := NB321_303.out; have hnc129 := NB303_321.out; have hnb130 := NB321_304.out; have hnc130 := NB304_321.out; have hnb131 := NB321_310.out; have hnc131 := NB310_321.out; have hnb132 := NB321_314.out; have hnc132 := NB314_321.out; have hcz133_0 : w128.cell? ⟨gb321, 0, none⟩ = some (.int .i64 0) := (blk_cell BK321.out 0).trans rfl; have hcz133_1 : w128.cell? ⟨gb321, 1, none⟩ = some (.int .i64 0) := (blk_cell BK321.out 1).trans rfl; have hcz133_2 : w128.cell? ⟨gb321, 2, none⟩ = some (.int .i64 0) := (blk_cell BK321.out 2).trans rfl; have hcz133_3 : w128.cell? ⟨gb321, 3, none⟩ = some (.int .i64 0) := (blk_cell BK321.out 3).trans rfl; have hfz133_0 := blk_frozen BK321.out 0; have hfz133_1 := blk_frozen BK321.out 1; have hfz133_2 := blk_frozen BK321.out 2; have hfz133_3 := blk_frozen BK321.out 3) | ((with_reducible refine gate_callee (f := 14) rfl ?_); refine goesL_ (some 77) rfl rfl Try.func14 (by kernel_rfl) rfl #[.agg #[.int .i64 t316, .int .i64 t317, .int .i64 t318, .int .i64 t319], .int .i64 a2] rfl (by (try simp only [List.map_toArray, List.map_cons, List.map_nil]); first | done | rfl | (simp only [List.length_drop, List.length_take]; rfl)) ?_; (with_reducible refine (clock_Read.calls kj39 t316 t317 t318 t319 a2 t322 t323 t324 _ A67.out).mono ?_); rintro e w134 ⟨rfl, hb⟩; refine ⟨_, rfl, ?_⟩; have n0_ := Aside0.mk (blk_below (g := gb303) (o := .cells #[.int .i64 a0_0, .int .i64 a0_1, .int .i64 a0_2, .int .i64 a0_3] 25 (0, 0)) (by refine pk ?_; refine blk_far ?_ NB303_321.out _; refine pk ?_; refine blk_far ?_ NB303_321.out _; refine pk ?_; refine blk_far ?_ NB303_321.out _; refine pk ?_; refine blk_far ?_ NB303_321.out _; refine pk ?_; exact BK303.out) hb); have n1_ := Aside0.mk (blk_below (g := gb304) (o := .cells #[.int .i64 a3_0, .int .i64 a3_1] 23 (0, 0)) (by refine pk ?_; refine blk_far ?_ NB304_321.out _; refine pk ?_; refine blk_far ?_ NB304_321.out _; refine pk ?_; refine blk_far ?_ NB304_321.out _; refine pk ?_; refine blk_far ?_ NB304_321.out _; refine pk ?_; exact BK304.out) hb); have n2_ := Aside0.mk (blk_below (g := gb310) (o := .cells #[.int .i64 t307, .int .i64 t308] 23 (0, 0)) (by refine pk ?_; refine blk_far ?_ NB310_321.out _; refine pk ?_; refine blk_far ?_ NB310_321.out _; refine pk ?_; refine blk_far ?_ NB310_321.out _; refine pk ?_; refine blk_far ?_ NB310_321.out _; refine pk ?_; exact BK310.out) hb); have n3_ := Aside0.mk (blk_below (g := gb314) (o := .cells #[.int .i64 t311, .int .i64 t312] 23 (0, 0)) (by refine pk ?_; refine blk_far ?_ NB314_321.out _; refine pk ?_; refine blk_far ?_ NB314_321.out _; refine pk ?_; refine blk_far ?_ NB314_321.out _; refine pk ?_; refine blk_far ?_ NB314_321.out _; refine pk ?_; exact BK314.out) hb); have n4_ := Aside0.mk (blk_below (g := gb321) (o := .cells #[.int .i64 t316, .int .i64 t317, .int .i64 t318, .int .i64 t319] 25 (0, 0)) (by refine pk ?_; refine blk_put (cs := #[.int .i64 t316, .int .i64 t317, .int .i64 t318, .int .i64 0]) ?_ 3 _ rfl; refine pk ?_; refine blk_put (cs := #[.int .i64 t316, .int .i64 t317, .int .i64 0, .int .i64 0]) ?_ 2 _ rfl; refine pk ?_; refine blk_put (cs := #[.int .i64 t316, .int .i64 0, .int .i64 0, .int .i64 0]) ?_ 1 _ rfl; refine pk ?_; refine blk_put (cs := #[.int .i64 0, .int .i64 0, .int .i64 0, .int .i64 0]) ?_ 0 _ rfl; refine pk ?_; exact BK321.out) hb); have n5_ := Aside0.mk (below_step (bk HB.out) hb); clear BK303 BK304; clear BK310 BK314; clear BK321 HB; have BK303 := n0_; have BK304 := n1_; have BK310 := n2_; have BK314 := n3_; have BK321 := n4_; have HB := n5_; clear n0_ n1_ n2_ n3_ n4_ n5_; (try clear hb); (try clear hb2); (try clear hk); (try clear hi)) | ((with_reducible refine gate_dst (N := 15) rfl ?_); refine box_event ?hg (N := 15) ?hd (cs := #[.int .i64 0, .int .i64 0]) (t := 23) ?hr ?_; (case hd => rfl); (case hg => rfl); (case hr => first | (go_simp; done) | (go_simp; rfl)); intro gb325 hg w135 hbox hb; have n0_ := Aside0.mk (blk_below (pk BK303.out) hb); have n1_ := Aside0.mk (blk_below (pk BK304.out) hb); have n2_ := Aside0.mk (blk_below (pk BK310.out) hb); have n3_ := Aside0.mk (blk_below (pk BK314.out) hb); have n4_ := Aside0.mk (blk_below (pk BK321.out) hb); have n5_ := Aside0.mk (below_step (bk HB.out) hb); have n6_ := Aside0.mk (hbox); have n7_ := Aside0.mk ((by rw [hg]; exact (below_size (bk HB.out)) : w.heap.size ≤ gb325)); have n8_ := Aside0.mk ((by rw [hg]; exact (below_size (bk HB.out)) : w.heap.size ≤ gb325)); have n9_ := Aside0.mk ((by rw [hg]; exact Nat.ne_of_lt (blk_lt (g := gb303) (o := .cells #[.int .i64 a0_0, .int .i64 a0_1, .int .i64 a0_2, .int .i64 a0_3] 25 (0, 0)) (pk BK303.out)) : gb303 ≠ gb325)); have n10_ := Aside0.mk ((by rw [hg]; exact Nat.ne_of_gt (blk_lt (g := gb303) (o := .cells #[.int .i64 a0_0, .int .i64 a0_1, .int .i64 a0_2, .int .i64 a0_3] 25 (0, 0)) (pk BK303.out)) : gb325 ≠ gb303)); have n11_ := Aside0.mk ((by rw [hg]; exact Nat.ne_of_lt (blk_lt (g := gb304) (o := .cells #[.int .i64 a3_0, .int .i64 a3_1] 23 (0, 0)) (pk BK304.out)) : gb304 ≠ gb325)); have n12_ := Aside0.mk ((by rw [hg]; exact Nat.ne_of_gt (blk_lt (g := gb304) (o := .cells #[.int .i64 a3_0, .int .i64 a3_1] 23 (0, 0)) (pk BK304.out)) : gb325 ≠ gb304)); have n13_ := Aside0.mk ((by rw [hg]; exact Nat.ne_of_lt (blk_lt (g := gb310) (o := .cells #[.int .i64 t307, .int .i64 t308] 23 (0, 0)) (pk BK310.out)) : gb310 ≠ gb325)); have n14_ := Aside0.mk ((by rw [hg]; exact Nat.ne_of_gt (blk_lt (g := gb310) (o := .cells #[.int .i64 t307, .int .i64 t308] 23 (0, 0)) (pk BK310.out)) : gb325 ≠ gb310)); have n15_ := Aside0.mk ((by rw [hg]; exact Nat.ne_of_lt (blk_lt (g := gb314) (o := .cells #[.int .i64 t311, .int .i64 t312] 23 (0, 0)) (pk BK314.out)) : gb314 ≠ gb325)); have n16_ := Aside0.mk ((by rw [hg]; exact Nat.ne_of_gt (blk_lt (g := gb314) (o := .cells #[.int .i64 t311, .int .i64 t312] 23 (0, 0)) (pk BK314.out)) : gb325 ≠ gb314)); have n17_ := Aside0.mk ((by rw [hg]; exact Nat.ne_of_lt (blk_lt (g := gb321) (o := .cells #[.int .i64 t316, .int .i64 t317, .int .i64 t318, .int .i64 t319] 25 (0, 0)) (pk BK321.out)) : gb321 ≠ gb325)); have n18_ := Aside0.mk ((by rw [hg]; exact Nat.ne_of_gt (blk_lt (g := gb321) (o := .cells #[.int .i64 t316, .int .i64 t317, .int .i64 t318, .int .i64 t319] 25 (0, 0)) (pk BK321.out)) : gb325 ≠ gb321)); clear BK303 BK304; clear BK310 BK314; clear BK321 HB; have BK303 := n0_; have BK304 := n1_; have BK310 := n2_; have BK314 := n3_; have BK321 := n4_; have HB := n5_; have BK325 := n6_; have GW325 := n7_; have GE325 := n8_; have NB303_325 := n9_; have NB325_303 := n10_; have NB304_325 := n11_; have NB325_304 := n12_; have NB310_325 := n13_; have NB325_310 := n14_; have NB314_325 := n15_; have NB325_314 := n16_; have NB321_325 := n17_; have NB325_321 := n18_; clear n0_ n1_ n2_ n3_ n4_ n5_ n6_ n7_ n8_ n9_ n10_ n11_ n12_ n13_ n14_ n15_ n16_ n17_ n18_; clear hb hbox hg; have hnb136 := NB325_303.out; have hnc136 := NB303_325.out; have hnb137 := NB325_304.out; have hnc137 := NB304_325.out; have hnb138 := NB325_310.out; have hnc138 := NB310_325.out; have hnb139 := NB325_314.out; have hnc139 := NB314_325.out; have hnb140 := NB325_321.out; have hnc140 := NB321_325.out; have hcz141_0 : w135.cell? ⟨gb325, 0, none⟩ = some (.int .i64 0) := (blk_cell BK325.out 0).trans rfl; have hcz141_1 : w135.cell? ⟨gb325, 1, none⟩ = some (.int .i64 0) := (blk_cell BK325.out 1).trans rfl; have hfz141_0 := blk_frozen BK325.out 0; have hfz141_1 := blk_frozen BK325.out 1) | ((with_reducible refine gate_callee (f := 13) rfl ?_); refine goesL_ (some 80) rfl rfl Try.func13 (by kernel_rfl) rfl #[] rfl (by (try simp only [List.map_toArray, List.map_cons, List.map_nil]); first | done | rfl | (simp only [List.length_drop, List.length_take]; rfl)) ?_; (with_reducible refine (weirgatelaw05_sanity.calls kj39  false _ A68.out).mono ?_); rintro e w142 ⟨rfl, hb⟩; refine ⟨_, rfl, ?_⟩; have n0_ := Aside0.mk (blk_below (g := gb303) (o := .cells #[.int .i64 a0_0, .int .i64 a0_1, .int .i64 a0_2, .int .i64 a0_3] 25 (0, 0)) (by refine pk ?_; refine blk_far ?_ NB303_325.out _; refine pk ?_; refine blk_far ?_ NB303_325.out _; refine pk ?_; exact BK303.out) hb); have n1_ := Aside0.mk (blk_below (g := gb304) (o := .cells #[.int .i64 a3_0, .int .i64 a3_1] 23 (0, 0)) (by refine pk ?_; refine blk_far ?_ NB304_325.out _; refine pk ?_; refine blk_far ?_ NB304_325.out _; refine pk ?_; exact BK304.out) hb); have n2_ := Aside0.mk (blk_below (g := gb310) (o := .cells #[.int .i64 t307, .int .i64 t308] 23 (0, 0)) (by refine pk ?_; refine blk_far ?_ NB310_325.out _; refine pk ?_; refine blk_far ?_ NB310_325.out _; refine pk ?_; exact BK310.out) hb); have n3_ := Aside0.mk (blk_below (g := gb314) (o := .cells #[.int .i64 t311, .int .i64 t312] 23 (0, 0)) (by refine pk ?_; refine blk_far ?_ NB314_325.out _; refine pk ?_; refine blk_far ?_ NB314_325.out _; refine pk ?_; exact BK314.out) hb); have n4_ := Aside0.mk (blk_below (g := gb321) (o := .cells #[.int .i64 t316, .int .i64 t317, .int .i64 t318, .int .i64 t319] 25 (0, 0)) (by refine pk ?_; refine blk_far ?_ NB321_325.out _; refine pk ?_; refine blk_far ?_ NB321_325.out _; refine pk ?_; exact BK321.out) hb); have n5_ := Aside0.mk (blk_below (g := gb325) (o := .cells #[.int .i64 t322, .int .i64 t323] 23 (0, 0)) (by refine pk ?_; refine blk_put (cs := #[.int .i64 t322, .int .i64 0]) ?_ 1 _ rfl; refine pk ?_; refine blk_put (cs := #[.int .i64 0, .int .i64 0]) ?_ 0 _ rfl; refine pk ?_; exact BK325.out) hb); have n6_ := Aside0.mk (below_step (bk HB.out) hb); clear BK303 BK304; clear BK310 BK314; clear BK321 BK325 HB; have BK303 := n0_; have BK304 := n1_; have BK310 := n2_; have BK314 := n3_; have BK321 := n4_; have BK325 := n5_; have HB := n6_; clear n0_ n1_ n2_ n3_ n4_ n5_ n6_; (try clear hb); (try clear hb2); (try clear hk); (try clear hi)))
                        go_ret
                        exact ⟨by first | rfl | (simp [errW_none, errW_some] <;> rfl) | (simp [*, errW_none, errW_some] <;> rfl), bk HB.out⟩
                    · rw [if_neg c66] at H
                      have c66b0 : (t320 == 0) = false := beq_eq_false_iff_ne.mpr c66
                      have c66b1 : (t320 != 0) = true := bne_iff_ne.mpr c66
                      replace H := Option.bind_eq_some_iff.mp H
                      obtain ⟨t327, A1430, H⟩ := H
                      replace H : (some t327) = some r := H
                      have A143 := Aside0.mk A1430
                      clear A1430
                      obtain rfl := Option.some.inj H
                      have hnb144 := NB303_304.out
                      have hnc144 := NB304_303.out
                      have hnb145 := NB303_310.out
                      have hnc145 := NB310_303.out
                      have hnb146 := NB303_314.out
                      have hnc146 := NB314_303.out
                      have hcz147_0 : wc.cell? ⟨gb303, 0, none⟩ = some (.int .i64 a0_0) := (blk_cell BK303.out 0).trans rfl
                      have hcz147_1 : wc.cell? ⟨gb303, 1, none⟩ = some (.int .i64 a0_1) := (blk_cell BK303.out 1).trans rfl
                      have hcz147_2 : wc.cell? ⟨gb303, 2, none⟩ = some (.int .i64 a0_2) := (blk_cell BK303.out 2).trans rfl
                      have hcz147_3 : wc.cell? ⟨gb303, 3, none⟩ = some (.int .i64 a0_3) := (blk_cell BK303.out 3).trans rfl
                      have hfz147_0 := blk_frozen BK303.out 0
                      have hfz147_1 := blk_frozen BK303.out 1
                      have hfz147_2 := blk_frozen BK303.out 2
                      have hfz147_3 := blk_frozen BK303.out 3
                      have hnb148 := NB304_310.out
                      have hnc148 := NB310_304.out
                      have hnb149 := NB304_314.out
                      have hnc149 := NB314_304.out
                      have hcz150_0 : wc.cell? ⟨gb304, 0, none⟩ = some (.int .i64 a3_0) := (blk_cell BK304.out 0).trans rfl
                      have hcz150_1 : wc.cell? ⟨gb304, 1, none⟩ = some (.int .i64 a3_1) := (blk_cell BK304.out 1).trans rfl
                      have hfz150_0 := blk_frozen BK304.out 0
                      have hfz150_1 := blk_frozen BK304.out 1
                      go_wp2_with (first | ((with_reducible refine gate_callee (f := 16) rfl ?_); refine goesL_ (some 68) rfl rfl Try.func16 (by kernel_rfl) rfl #[.agg #[.int .i64 a0_0, .int .i64 a0_1, .int .i64 a0_2, .int .i64 a0_3], .int .i64 a2, .agg #[.int .i64 a3_0, .int .i64 a3_1]] rfl (by (try simp only [List.map_toArray, List.map_cons, List.map_nil]); first | done | rfl | (simp only [List.length_drop, List.length_take]; rfl)) ?_; (with_reducible refine (clock_Sync.calls kj39 a0_0 a0_1 a0_2 a0_3 a2 a3_0 a3_1 t316 t317 t318 t319 t320 _ A65.out).mono ?_); rintro e w151 ⟨rfl, hb⟩; refine ⟨_, rfl, ?_⟩; have n0_ := Aside0.mk (blk_below (pk BK303.out) hb); have n1_ := Aside0.mk (blk_below (pk BK304.out) hb); have n2_ := Aside0.mk (blk_below (pk BK310.out) hb); have n3_ := Aside0.mk (blk_below (pk BK314.out) hb); have n4_ := Aside0.mk (below_step (bk HB.out) hb); clear BK303 BK304; clear BK310 BK314 HB; have BK303 := n0_; have BK304 := n1_; have BK310 := n2_; have BK314 := n3_; have HB := n4_; clear n0_ n1_ n2_ n3_ n4_; (try clear hb); (try clear hb2); (try clear hk); (try clear hi)) | ((with_reducible refine gate_dst (N := 13) rfl ?_); refine box_event ?hg (N := 13) ?hd (cs := #[.int .i64 0, .int .i64 0, .int .i64 0, .int .i64 0]) (t := 25) ?hr ?_; (case hd => rfl); (case hg => rfl); (case hr => first | (go_simp; done) | (go_simp; rfl)); intro gb321 hg w152 hbox hb; have n0_ := Aside0.mk (blk_below (pk BK303.out) hb); have n1_ := Aside0.mk (blk_below (pk BK304.out) hb); have n2_ := Aside0.mk (blk_below (pk BK310.out) hb); have n3_ := Aside0.mk (blk_below (pk BK314.out) hb); have n4_ := Aside0.mk (below_step (bk HB.out) hb); have n5_ := Aside0.mk (hbox); have n6_ := Aside0.mk ((by rw [hg]; exact (below_size (bk HB.out)) : w.heap.size ≤ gb321)); have n7_ := Aside0.mk ((by rw [hg]; exact (below_size (bk HB.out)) : w.heap.size ≤ gb321)); have n8_ := Aside0.mk ((by rw [hg]; exact Nat.ne_of_lt (blk_lt (g := gb303) (o := .cells #[.int .i64 a0_0, .int .i64 a0_1, .int .i64 a0_2, .int .i64 a0_3] 25 (0, 0)) (pk BK303.out)) : gb303 ≠ gb321)); have n9_ := Aside0.mk ((by rw [hg]; exact Nat.ne_of_gt (blk_lt (g := gb303) (o := .cells #[.int .i64 a0_0, .int .i64 a0_1, .int .i64 a0_2, .int .i64 a0_3] 25 (0, 0)) (pk BK303.out)) : gb321 ≠ gb303)); have n10_ := Aside0.mk ((by rw [hg]; exact Nat.ne_of_lt (blk_lt (g := gb304) (o := .cells #[.int .i64 a3_0, .int .i64 a3_1] 23 (0, 0)) (pk BK304.out)) : gb304 ≠ gb321)); have n11_ := Aside0.mk ((by rw [hg]; exact Nat.ne_of_gt (blk_lt (g := gb304) (o := .cells #[.int .i64 a3_0, .int .i64 a3_1] 23 (0, 0)) (pk BK304.out)) : gb321 ≠ gb304)); have n12_ := Aside0.mk ((by rw [hg]; exact Nat.ne_of_lt (blk_lt (g := gb310) (o := .cells #[.int .i64 t307, .int .i64 t308] 23 (0, 0)) (pk BK310.out)) : gb310 ≠ gb321)); have n13_ := Aside0.mk ((by rw [hg]; exact Nat.ne_of_gt (blk_lt (g := gb310) (o := .cells #[.int .i64 t307, .int .i64 t308] 23 (0, 0)) (pk BK310.out)) : gb321 ≠ gb310)); have n14_ := Aside0.mk ((by rw [hg]; exact Nat.ne_of_lt (blk_lt (g := gb314) (o := .cells #[.int .i64 t311, .int .i64 t312] 23 (0, 0)) (pk BK314.out)) : gb314 ≠ gb321)); have n15_ := Aside0.mk ((by rw [hg]; exact Nat.ne_of_gt (blk_lt (g := gb314) (o := .cells #[.int .i64 t311, .int .i64 t312] 23 (0, 0)) (pk BK314.out)) : gb321 ≠ gb314)); clear BK303 BK304; clear BK310 BK314 HB; have BK303 := n0_; have BK304 := n1_; have BK310 := n2_; have BK314 := n3_; have HB := n4_; have BK321 := n5_; have GW321 := n6_; have GE321 := n7_; have NB303_321 := n8_; have NB321_303 := n9_; have NB304_321 := n10_; have NB321_304 := n11_; have NB310_321 := n12_; have NB321_310 := n13_; have NB314_321 := n14_; have NB321_314 := n15_; clear n0_ n1_ n2_ n3_ n4_ n5_ n6_ n7_ n8_ n9_ n10_ n11_ n12_ n13_ n14_ n15_; clear hb hbox hg; have hnb153 := NB321_303.out; have hnc153 := NB303_321.out; have hnb154 := NB321_304.out; have hnc154 := NB304_321.out; have hnb155 := NB321_310.out; have hnc155 := NB310_321.out; have hnb156 := NB321_314.out; have hnc156 := NB314_321.out; have hcz157_0 : w152.cell? ⟨gb321, 0, none⟩ = some (.int .i64 0) := (blk_cell BK321.out 0).trans rfl; have hcz157_1 : w152.cell? ⟨gb321, 1, none⟩ = some (.int .i64 0) := (blk_cell BK321.out 1).trans rfl; have hcz157_2 : w152.cell? ⟨gb321, 2, none⟩ = some (.int .i64 0) := (blk_cell BK321.out 2).trans rfl; have hcz157_3 : w152.cell? ⟨gb321, 3, none⟩ = some (.int .i64 0) := (blk_cell BK321.out 3).trans rfl; have hfz157_0 := blk_frozen BK321.out 0; have hfz157_1 := blk_frozen BK321.out 1; have hfz157_2 := blk_frozen BK321.out 2; have hfz157_3 := blk_frozen BK321.out 3) | ((with_reducible refine gate_callee (f := 13) rfl ?_); refine goesL_ (some 73) rfl rfl Try.func13 (by kernel_rfl) rfl #[] rfl (by (try simp only [List.map_toArray, List.map_cons, List.map_nil]); first | done | rfl | (simp only [List.length_drop, List.length_take]; rfl)) ?_; (with_reducible refine (weirgatelaw05_sanity.calls kj39  t327 _ A143.out).mono ?_); rintro e w158 ⟨rfl, hb⟩; refine ⟨_, rfl, ?_⟩; have n0_ := Aside0.mk (blk_below (g := gb303) (o := .cells #[.int .i64 a0_0, .int .i64 a0_1, .int .i64 a0_2, .int .i64 a0_3] 25 (0, 0)) (by refine pk ?_; refine blk_far ?_ NB303_321.out _; refine pk ?_; refine blk_far ?_ NB303_321.out _; refine pk ?_; refine blk_far ?_ NB303_321.out _; refine pk ?_; refine blk_far ?_ NB303_321.out _; refine pk ?_; exact BK303.out) hb); have n1_ := Aside0.mk (blk_below (g := gb304) (o := .cells #[.int .i64 a3_0, .int .i64 a3_1] 23 (0, 0)) (by refine pk ?_; refine blk_far ?_ NB304_321.out _; refine pk ?_; refine blk_far ?_ NB304_321.out _; refine pk ?_; refine blk_far ?_ NB304_321.out _; refine pk ?_; refine blk_far ?_ NB304_321.out _; refine pk ?_; exact BK304.out) hb); have n2_ := Aside0.mk (blk_below (g := gb310) (o := .cells #[.int .i64 t307, .int .i64 t308] 23 (0, 0)) (by refine pk ?_; refine blk_far ?_ NB310_321.out _; refine pk ?_; refine blk_far ?_ NB310_321.out _; refine pk ?_; refine blk_far ?_ NB310_321.out _; refine pk ?_; refine blk_far ?_ NB310_321.out _; refine pk ?_; exact BK310.out) hb); have n3_ := Aside0.mk (blk_below (g := gb314) (o := .cells #[.int .i64 t311, .int .i64 t312] 23 (0, 0)) (by refine pk ?_; refine blk_far ?_ NB314_321.out _; refine pk ?_; refine blk_far ?_ NB314_321.out _; refine pk ?_; refine blk_far ?_ NB314_321.out _; refine pk ?_; refine blk_far ?_ NB314_321.out _; refine pk ?_; exact BK314.out) hb); have n4_ := Aside0.mk (blk_below (g := gb321) (o := .cells #[.int .i64 t316, .int .i64 t317, .int .i64 t318, .int .i64 t319] 25 (0, 0)) (by refine pk ?_; refine blk_put (cs := #[.int .i64 t316, .int .i64 t317, .int .i64 t318, .int .i64 0]) ?_ 3 _ rfl; refine pk ?_; refine blk_put (cs := #[.int .i64 t316, .int .i64 t317, .int .i64 0, .int .i64 0]) ?_ 2 _ rfl; refine pk ?_; refine blk_put (cs := #[.int .i64 t316, .int .i64 0, .int .i64 0, .int .i64 0]) ?_ 1 _ rfl; refine pk ?_; refine blk_put (cs := #[.int .i64 0, .int .i64 0, .int .i64 0, .int .i64 0]) ?_ 0 _ rfl; refine pk ?_; exact BK321.out) hb); have n5_ := Aside0.mk (below_step (bk HB.out) hb); clear BK303 BK304; clear BK310 BK314; clear BK321 HB; have BK303 := n0_; have BK304 := n1_; have BK310 := n2_; have BK314 := n3_; have BK321 := n4_; have HB := n5_; clear n0_ n1_ n2_ n3_ n4_ n5_; (try clear hb); (try clear hb2); (try clear hk); (try clear hi)))
                      go_ret
                      exact ⟨by first | rfl | (simp [errW_none, errW_some] <;> rfl) | (simp [*, errW_none, errW_some] <;> rfl), bk HB.out⟩

end Go.Proofs.Ytijeiemdhpkklaa.PP
