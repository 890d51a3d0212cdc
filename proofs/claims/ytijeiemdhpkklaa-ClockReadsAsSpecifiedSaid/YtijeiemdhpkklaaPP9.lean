-- laid by a program of this session (wip/xprint), out of the translation
import Derived.Test.YtijeiemdhpkklaaPP0
import Derived.Test.YtijeiemdhpkklaaPP1
import Derived.Test.YtijeiemdhpkklaaPP2
import Derived.Test.YtijeiemdhpkklaaPP3
import Derived.Test.YtijeiemdhpkklaaPP6
import Derived.Test.YtijeiemdhpkklaaPP7
import Derived.Test.YtijeiemdhpkklaaPP8
namespace Go.Proofs.Ytijeiemdhpkklaa.PP
open Go.RowKit Go.Proofs.YtijeiemdhpkklaaW.PrintWords Go.Proofs.YtijeiemdhpkklaaW.PrintLast Go.Proofs.YtijeiemdhpkklaaW.PrintMore
attribute [local go_sem] max2_int min2_int max_two min_two max_three min_three max_four min_four   -- for this text's walks alone
set_option linter.unusedVariables false
set_option linter.unusedSimpArgs false

attribute [local go_sem high] eqA23 eqA25
attribute [local go_sem] isSome_put
/-! ### weirgatelaw05_ClockReadsAsSpecified: function 3 -/
mutual
def weirgatelaw05_ClockReadsAsSpecified.j0 : Nat → Int → Int → Bool → Int → Int → Int → Int → Int → Int → Int → Int → Int → Int → Option (Bool)
  | 0, _, _, _, _, _, _, _, _, _, _, _, _, _ => none
  | k + 1, x1, x9, x45, x201000, x201001, x201002, x201003, x202000, x202001, x208000, x208001, x208002, x208003 => if x45 = true then (some false) else (if x9 = 0 then ((clock_Read.f k x201000 x201001 x201002 x201003 x1).bind fun bt211 => ((weirgateref05_Read.f k x201000 x201001 x201002 x201003 x1).bind fun bt215 => ((clock_Sync.f k x201000 x201001 x201002 x201003 x1 x202000 x202001).bind fun bt219 => ((weirgateref05_Sync.f k x201000 x201001 x201002 x201003 x1 x202000 x202001).bind fun bt225 => ((weirgatelaw05_sanity.f k).bind fun t231 => (if t231 = true then (if (bt211.1 == bt215.1 && (bt211.2.1 == bt215.2.1)) = true then (if bt211.2.2 = bt215.2.2 then (if (bt219.1 == bt225.1 && ((bt219.2.1 == bt225.2.1 && (bt219.2.2.1 == bt225.2.2.1)) && (bt219.2.2.2.1 == bt225.2.2.2.1))) = true then (weirgatelaw05_ClockReadsAsSpecified.j1 k (bt219.2.2.2.2 == bt225.2.2.2.2)) else (weirgatelaw05_ClockReadsAsSpecified.j1 k false)) else (weirgatelaw05_ClockReadsAsSpecified.j1 k false)) else (weirgatelaw05_ClockReadsAsSpecified.j1 k false)) else (weirgatelaw05_ClockReadsAsSpecified.j1 k false))))))) else ((weirgatelaw05_sanity.f k).bind fun t210 => (if t210 = true then (some (x208000 == 0 && ((x208001 == 0 && (x208002 == 0)) && (x208003 == 0)))) else (some false))))
def weirgatelaw05_ClockReadsAsSpecified.j1 : Nat → Bool → Option (Bool)
  | 0, _ => none
  | k + 1, x6 => some x6
end
def weirgatelaw05_ClockReadsAsSpecified.f (k : Nat) (a0_0 : Int) (a0_1 : Int) (a0_2 : Int) (a0_3 : Int) (a1 : Int) (a2_0 : Int) (a2_1 : Int) : Option (Bool) := (clock_New.f a0_0 a0_1 a0_2 a0_3).bind fun bt202 => ((weirgateref05_Check.f a0_0 a0_1 a0_2 a0_3).bind fun t208 => ((clock_Check.f a0_0 a0_1 a0_2 a0_3).bind fun t209 => (if t209 = t208 then (if bt202.2.2.2.2 = t208 then (if t208 = 0 then (weirgatelaw05_ClockReadsAsSpecified.j0 k a1 t208 (!(bt202.1 == a0_0) || ((!(bt202.2.1 == a0_1) || (!(bt202.2.2.1 == a0_2))) || (!(bt202.2.2.2.1 == a0_3)))) a0_0 a0_1 a0_2 a0_3 a2_0 a2_1 bt202.1 bt202.2.1 bt202.2.2.1 bt202.2.2.2.1) else (weirgatelaw05_ClockReadsAsSpecified.j0 k a1 t208 false a0_0 a0_1 a0_2 a0_3 a2_0 a2_1 bt202.1 bt202.2.1 bt202.2.2.1 bt202.2.2.2.1)) else (weirgatelaw05_ClockReadsAsSpecified.j0 k a1 t208 true a0_0 a0_1 a0_2 a0_3 a2_0 a2_1 bt202.1 bt202.2.1 bt202.2.2.1 bt202.2.2.2.1)) else (weirgatelaw05_ClockReadsAsSpecified.j0 k a1 t208 true a0_0 a0_1 a0_2 a0_3 a2_0 a2_1 bt202.1 bt202.2.1 bt202.2.2.1 bt202.2.2.2.1))))
theorem weirgatelaw05_ClockReadsAsSpecified.mono_l : ∀ k, (∀ y0 y1 y2 y3 y4 y5 y6 y7 y8 y9 y10 y11 y12, LeO (weirgatelaw05_ClockReadsAsSpecified.j0 k y0 y1 y2 y3 y4 y5 y6 y7 y8 y9 y10 y11 y12) (weirgatelaw05_ClockReadsAsSpecified.j0 (k + 1) y0 y1 y2 y3 y4 y5 y6 y7 y8 y9 y10 y11 y12)) ∧ (∀ y0, LeO (weirgatelaw05_ClockReadsAsSpecified.j1 k y0) (weirgatelaw05_ClockReadsAsSpecified.j1 (k + 1) y0))
  | 0 => ⟨fun _ _ _ _ _ _ _ _ _ _ _ _ _ r h => by simp [weirgatelaw05_ClockReadsAsSpecified.j0] at h, fun _ r h => by simp [weirgatelaw05_ClockReadsAsSpecified.j1] at h⟩
  | k + 1 => by
    obtain ⟨ih0, ih1⟩ := weirgatelaw05_ClockReadsAsSpecified.mono_l k
    refine ⟨?_, ?_⟩
    · intro y0 y1 y2 y3 y4 y5 y6 y7 y8 y9 y10 y11 y12
      unfold weirgatelaw05_ClockReadsAsSpecified.j0
      repeat' first
      | (with_reducible exact ih0 _ _ _ _ _ _ _ _ _ _ _ _ _)
      | (with_reducible exact ih1 _)
      | (with_reducible exact clock_Read.mono _ _ _ _ _ _)
      | (with_reducible exact clock_Sync.mono _ _ _ _ _ _ _ _)
      | (with_reducible exact weirgatelaw05_sanity.mono _)
      | (with_reducible exact weirgateref05_Read.mono _ _ _ _ _ _)
      | (with_reducible exact weirgateref05_Sync.mono _ _ _ _ _ _ _ _)
      | (with_reducible exact LeO.refl _)
      | (with_reducible exact LeO.none _)
      | (with_reducible refine LeO.ite ?_ ?_)
      | (with_reducible refine LeO.bind ?_ (fun _ => ?_))
      | exact ih0 _ _ _ _ _ _ _ _ _ _ _ _ _
      | exact ih1 _
      | exact clock_Read.mono _ _ _ _ _ _
      | exact clock_Sync.mono _ _ _ _ _ _ _ _
      | exact weirgatelaw05_sanity.mono _
      | exact weirgateref05_Read.mono _ _ _ _ _ _
      | exact weirgateref05_Sync.mono _ _ _ _ _ _ _ _
      | exact LeO.none _
      | refine LeO.ite ?_ ?_
      | refine LeO.bind ?_ (fun _ => ?_)
    · intro y0
      unfold weirgatelaw05_ClockReadsAsSpecified.j1
      repeat' first
      | (with_reducible exact ih0 _ _ _ _ _ _ _ _ _ _ _ _ _)
      | (with_reducible exact ih1 _)
      | (with_reducible exact clock_Read.mono _ _ _ _ _ _)
      | (with_reducible exact clock_Sync.mono _ _ _ _ _ _ _ _)
      | (with_reducible exact weirgatelaw05_sanity.mono _)
      | (with_reducible exact weirgateref05_Read.mono _ _ _ _ _ _)
      | (with_reducible exact weirgateref05_Sync.mono _ _ _ _ _ _ _ _)
      | (with_reducible exact LeO.refl _)
      | (with_reducible exact LeO.none _)
      | (with_reducible refine LeO.ite ?_ ?_)
      | (with_reducible refine LeO.bind ?_ (fun _ => ?_))
      | exact ih0 _ _ _ _ _ _ _ _ _ _ _ _ _
      | exact ih1 _
      | exact clock_Read.mono _ _ _ _ _ _
      | exact clock_Sync.mono _ _ _ _ _ _ _ _
      | exact weirgatelaw05_sanity.mono _
      | exact weirgateref05_Read.mono _ _ _ _ _ _
      | exact weirgateref05_Sync.mono _ _ _ _ _ _ _ _
      | exact LeO.none _
      | refine LeO.ite ?_ ?_
      | refine LeO.bind ?_ (fun _ => ?_)
theorem weirgatelaw05_ClockReadsAsSpecified.mono : ∀ a0 a1 a2 a3 a4 a5 a6 k, LeO (weirgatelaw05_ClockReadsAsSpecified.f k a0 a1 a2 a3 a4 a5 a6) (weirgatelaw05_ClockReadsAsSpecified.f (k + 1) a0 a1 a2 a3 a4 a5 a6) := by
  intro a0 a1 a2 a3 a4 a5 a6 k
  obtain ⟨ih0, ih1⟩ := weirgatelaw05_ClockReadsAsSpecified.mono_l k
  unfold weirgatelaw05_ClockReadsAsSpecified.f
  repeat' first
      | (with_reducible exact ih0 _ _ _ _ _ _ _ _ _ _ _ _ _)
      | (with_reducible exact ih1 _)
      | (with_reducible exact clock_Read.mono _ _ _ _ _ _)
      | (with_reducible exact clock_Sync.mono _ _ _ _ _ _ _ _)
      | (with_reducible exact weirgatelaw05_sanity.mono _)
      | (with_reducible exact weirgateref05_Read.mono _ _ _ _ _ _)
      | (with_reducible exact weirgateref05_Sync.mono _ _ _ _ _ _ _ _)
      | (with_reducible exact LeO.refl _)
      | (with_reducible exact LeO.none _)
      | (with_reducible refine LeO.ite ?_ ?_)
      | (with_reducible refine LeO.bind ?_ (fun _ => ?_))
      | exact ih0 _ _ _ _ _ _ _ _ _ _ _ _ _
      | exact ih1 _
      | exact clock_Read.mono _ _ _ _ _ _
      | exact clock_Sync.mono _ _ _ _ _ _ _ _
      | exact weirgatelaw05_sanity.mono _
      | exact weirgateref05_Read.mono _ _ _ _ _ _
      | exact weirgateref05_Sync.mono _ _ _ _ _ _ _ _
      | exact LeO.none _
      | refine LeO.ite ?_ ?_
      | refine LeO.bind ?_ (fun _ => ?_)
set_option maxHeartbeats 8000000 in
set_option maxRecDepth 100000 in
theorem weirgatelaw05_ClockReadsAsSpecified.calls (k : Nat) (a0_0 : Int) (a0_1 : Int) (a0_2 : Int) (a0_3 : Int) (a1 : Int) (a2_0 : Int) (a2_1 : Int) (r : Bool) (w : World) (h : weirgatelaw05_ClockReadsAsSpecified.f k a0_0 a0_1 a0_2 a0_3 a1 a2_0 a2_1 = some r) :
    Calls Try.prog 3 #[.agg #[.int .i64 a0_0, .int .i64 a0_1, .int .i64 a0_2, .int .i64 a0_3], .int .i64 a1, .agg #[.int .i64 a2_0, .int .i64 a2_1]] w fun e w' => e = .returned (.bool r) ∧ Below w.heap.size w w' := by
  have hu25 := Try.underlying25
  have hu23 := Try.underlying23
  have hu34 := Try.underlying34
  have hu38 := Try.underlying38
  have HB := Aside0.mk (Below.refl w.heap.size w)
  have H : ((clock_New.f a0_0 a0_1 a0_2 a0_3).bind fun bt202 => ((weirgateref05_Check.f a0_0 a0_1 a0_2 a0_3).bind fun t208 => ((clock_Check.f a0_0 a0_1 a0_2 a0_3).bind fun t209 => (if t209 = t208 then (if bt202.2.2.2.2 = t208 then (if t208 = 0 then (weirgatelaw05_ClockReadsAsSpecified.j0 k a1 t208 (!(bt202.1 == a0_0) || ((!(bt202.2.1 == a0_1) || (!(bt202.2.2.1 == a0_2))) || (!(bt202.2.2.2.1 == a0_3)))) a0_0 a0_1 a0_2 a0_3 a2_0 a2_1 bt202.1 bt202.2.1 bt202.2.2.1 bt202.2.2.2.1) else (weirgatelaw05_ClockReadsAsSpecified.j0 k a1 t208 false a0_0 a0_1 a0_2 a0_3 a2_0 a2_1 bt202.1 bt202.2.1 bt202.2.2.1 bt202.2.2.2.1)) else (weirgatelaw05_ClockReadsAsSpecified.j0 k a1 t208 true a0_0 a0_1 a0_2 a0_3 a2_0 a2_1 bt202.1 bt202.2.1 bt202.2.2.1 bt202.2.2.2.1)) else (weirgatelaw05_ClockReadsAsSpecified.j0 k a1 t208 true a0_0 a0_1 a0_2 a0_3 a2_0 a2_1 bt202.1 bt202.2.1 bt202.2.2.1 bt202.2.2.2.1))))) = some r := h
  clear h
  replace H := Option.bind_eq_some_iff.mp H
  obtain ⟨⟨t202, t203, t204, t205, t206⟩, A40, H⟩ := H
  replace H : ((weirgateref05_Check.f a0_0 a0_1 a0_2 a0_3).bind fun t208 => ((clock_Check.f a0_0 a0_1 a0_2 a0_3).bind fun t209 => (if t209 = t208 then (if t206 = t208 then (if t208 = 0 then (weirgatelaw05_ClockReadsAsSpecified.j0 k a1 t208 (!(t202 == a0_0) || ((!(t203 == a0_1) || (!(t204 == a0_2))) || (!(t205 == a0_3)))) a0_0 a0_1 a0_2 a0_3 a2_0 a2_1 t202 t203 t204 t205) else (weirgatelaw05_ClockReadsAsSpecified.j0 k a1 t208 false a0_0 a0_1 a0_2 a0_3 a2_0 a2_1 t202 t203 t204 t205)) else (weirgatelaw05_ClockReadsAsSpecified.j0 k a1 t208 true a0_0 a0_1 a0_2 a0_3 a2_0 a2_1 t202 t203 t204 t205)) else (weirgatelaw05_ClockReadsAsSpecified.j0 k a1 t208 true a0_0 a0_1 a0_2 a0_3 a2_0 a2_1 t202 t203 t204 t205)))) = some r := H
  have A4 := Aside0.mk A40
  clear A40
  replace H := Option.bind_eq_some_iff.mp H
  obtain ⟨t208, A50, H⟩ := H
  replace H : ((clock_Check.f a0_0 a0_1 a0_2 a0_3).bind fun t209 => (if t209 = t208 then (if t206 = t208 then (if t208 = 0 then (weirgatelaw05_ClockReadsAsSpecified.j0 k a1 t208 (!(t202 == a0_0) || ((!(t203 == a0_1) || (!(t204 == a0_2))) || (!(t205 == a0_3)))) a0_0 a0_1 a0_2 a0_3 a2_0 a2_1 t202 t203 t204 t205) else (weirgatelaw05_ClockReadsAsSpecified.j0 k a1 t208 false a0_0 a0_1 a0_2 a0_3 a2_0 a2_1 t202 t203 t204 t205)) else (weirgatelaw05_ClockReadsAsSpecified.j0 k a1 t208 true a0_0 a0_1 a0_2 a0_3 a2_0 a2_1 t202 t203 t204 t205)) else (weirgatelaw05_ClockReadsAsSpecified.j0 k a1 t208 true a0_0 a0_1 a0_2 a0_3 a2_0 a2_1 t202 t203 t204 t205))) = some r := H
  have A5 := Aside0.mk A50
  clear A50
  have HC6 := Aside0.mk H
  clear H
  go_enter Try.func3, Try.ntmps3
  go_upto_region 3 with (first | ((with_reducible refine gate_dst (N := 3) rfl ?_); refine box_event ?hg (N := 3) ?hd (cs := #[.int .i64 a0_0, .int .i64 a0_1, .int .i64 a0_2, .int .i64 a0_3]) (t := 25) ?hr ?_; (case hd => rfl); (case hg => rfl); (case hr => first | (go_simp; done) | (go_simp; rfl)); intro gb200 hg w7 hbox hb; have n0_ := Aside0.mk (below_step (bk HB.out) hb); have n1_ := Aside0.mk (hbox); have n2_ := Aside0.mk ((by rw [hg]; exact (below_size (bk HB.out)) : w.heap.size ≤ gb200)); have n3_ := Aside0.mk ((by rw [hg]; exact (below_size (bk HB.out)) : w.heap.size ≤ gb200)); clear HB; have HB := n0_; have BK200 := n1_; have GW200 := n2_; have GE200 := n3_; clear n0_ n1_ n2_ n3_; clear hb hbox hg) | ((with_reducible refine gate_dst (N := 5) rfl ?_); refine box_event ?hg (N := 5) ?hd (cs := #[.int .i64 a2_0, .int .i64 a2_1]) (t := 23) ?hr ?_; (case hd => rfl); (case hg => rfl); (case hr => first | (go_simp; done) | (go_simp; rfl)); intro gb201 hg w8 hbox hb; have n0_ := Aside0.mk (blk_below (pk BK200.out) hb); have n1_ := Aside0.mk (below_step (bk HB.out) hb); have n2_ := Aside0.mk (hbox); have n3_ := Aside0.mk ((by rw [hg]; exact (below_size (bk HB.out)) : w.heap.size ≤ gb201)); have n4_ := Aside0.mk ((by rw [hg]; exact (below_size (bk HB.out)) : w.heap.size ≤ gb201)); have n5_ := Aside0.mk ((by rw [hg]; exact Nat.ne_of_lt (blk_lt (g := gb200) (o := .cells #[.int .i64 a0_0, .int .i64 a0_1, .int .i64 a0_2, .int .i64 a0_3] 25 (0, 0)) (pk BK200.out)) : gb200 ≠ gb201)); have n6_ := Aside0.mk ((by rw [hg]; exact Nat.ne_of_gt (blk_lt (g := gb200) (o := .cells #[.int .i64 a0_0, .int .i64 a0_1, .int .i64 a0_2, .int .i64 a0_3] 25 (0, 0)) (pk BK200.out)) : gb201 ≠ gb200)); clear BK200 HB; have BK200 := n0_; have HB := n1_; have BK201 := n2_; have GW201 := n3_; have GE201 := n4_; have NB200_201 := n5_; have NB201_200 := n6_; clear n0_ n1_ n2_ n3_ n4_ n5_ n6_; clear hb hbox hg; have hnb9 := NB200_201.out; have hnc9 := NB201_200.out; have hcz10_0 : w8.cell? ⟨gb200, 0, none⟩ = some (.int .i64 a0_0) := (blk_cell BK200.out 0).trans rfl; have hcz10_1 : w8.cell? ⟨gb200, 1, none⟩ = some (.int .i64 a0_1) := (blk_cell BK200.out 1).trans rfl; have hcz10_2 : w8.cell? ⟨gb200, 2, none⟩ = some (.int .i64 a0_2) := (blk_cell BK200.out 2).trans rfl; have hcz10_3 : w8.cell? ⟨gb200, 3, none⟩ = some (.int .i64 a0_3) := (blk_cell BK200.out 3).trans rfl; have hfz10_0 := blk_frozen BK200.out 0; have hfz10_1 := blk_frozen BK200.out 1; have hfz10_2 := blk_frozen BK200.out 2; have hfz10_3 := blk_frozen BK200.out 3) | ((with_reducible refine gate_callee (f := 10) rfl ?_); refine goesL_ (some 23) rfl rfl Try.func10 (by kernel_rfl) rfl #[.int .i64 a0_0, .agg #[.int .i64 a0_1, .int .i64 a0_2], .int .i64 a0_3] rfl (by (try simp only [List.map_toArray, List.map_cons, List.map_nil]); first | done | rfl | (simp only [List.length_drop, List.length_take]; rfl)) ?_; (with_reducible refine (clock_New.calls a0_0 a0_1 a0_2 a0_3 t202 t203 t204 t205 t206 _ A4.out).mono ?_); rintro e w11 ⟨rfl, hb⟩; refine ⟨_, rfl, ?_⟩; have n0_ := Aside0.mk (blk_below (pk BK200.out) hb); have n1_ := Aside0.mk (blk_below (pk BK201.out) hb); have n2_ := Aside0.mk (below_step (bk HB.out) hb); clear BK200 BK201 HB; have BK200 := n0_; have BK201 := n1_; have HB := n2_; clear n0_ n1_ n2_; (try clear hb); (try clear hb2); (try clear hk); (try clear hi)) | ((with_reducible refine gate_dst (N := 7) rfl ?_); refine box_event ?hg (N := 7) ?hd (cs := #[.int .i64 0, .int .i64 0, .int .i64 0, .int .i64 0]) (t := 25) ?hr ?_; (case hd => rfl); (case hg => rfl); (case hr => first | (go_simp; done) | (go_simp; rfl)); intro gb207 hg w12 hbox hb; have n0_ := Aside0.mk (blk_below (pk BK200.out) hb); have n1_ := Aside0.mk (blk_below (pk BK201.out) hb); have n2_ := Aside0.mk (below_step (bk HB.out) hb); have n3_ := Aside0.mk (hbox); have n4_ := Aside0.mk ((by rw [hg]; exact (below_size (bk HB.out)) : w.heap.size ≤ gb207)); have n5_ := Aside0.mk ((by rw [hg]; exact (below_size (bk HB.out)) : w.heap.size ≤ gb207)); have n6_ := Aside0.mk ((by rw [hg]; exact Nat.ne_of_lt (blk_lt (g := gb200) (o := .cells #[.int .i64 a0_0, .int .i64 a0_1, .int .i64 a0_2, .int .i64 a0_3] 25 (0, 0)) (pk BK200.out)) : gb200 ≠ gb207)); have n7_ := Aside0.mk ((by rw [hg]; exact Nat.ne_of_gt (blk_lt (g := gb200) (o := .cells #[.int .i64 a0_0, .int .i64 a0_1, .int .i64 a0_2, .int .i64 a0_3] 25 (0, 0)) (pk BK200.out)) : gb207 ≠ gb200)); have n8_ := Aside0.mk ((by rw [hg]; exact Nat.ne_of_lt (blk_lt (g := gb201) (o := .cells #[.int .i64 a2_0, .int .i64 a2_1] 23 (0, 0)) (pk BK201.out)) : gb201 ≠ gb207)); have n9_ := Aside0.mk ((by rw [hg]; exact Nat.ne_of_gt (blk_lt (g := gb201) (o := .cells #[.int .i64 a2_0, .int .i64 a2_1] 23 (0, 0)) (pk BK201.out)) : gb207 ≠ gb201)); clear BK200 BK201 HB; have BK200 := n0_; have BK201 := n1_; have HB := n2_; have BK207 := n3_; have GW207 := n4_; have GE207 := n5_; have NB200_207 := n6_; have NB207_200 := n7_; have NB201_207 := n8_; have NB207_201 := n9_; clear n0_ n1_ n2_ n3_ n4_ n5_ n6_ n7_ n8_ n9_; clear hb hbox hg; have hnb13 := NB207_200.out; have hnc13 := NB200_207.out; have hnb14 := NB207_201.out; have hnc14 := NB201_207.out; have hcz15_0 : w12.cell? ⟨gb207, 0, none⟩ = some (.int .i64 0) := (blk_cell BK207.out 0).trans rfl; have hcz15_1 : w12.cell? ⟨gb207, 1, none⟩ = some (.int .i64 0) := (blk_cell BK207.out 1).trans rfl; have hcz15_2 : w12.cell? ⟨gb207, 2, none⟩ = some (.int .i64 0) := (blk_cell BK207.out 2).trans rfl; have hcz15_3 : w12.cell? ⟨gb207, 3, none⟩ = some (.int .i64 0) := (blk_cell BK207.out 3).trans rfl; have hfz15_0 := blk_frozen BK207.out 0; have hfz15_1 := blk_frozen BK207.out 1; have hfz15_2 := blk_frozen BK207.out 2; have hfz15_3 := blk_frozen BK207.out 3; have hcz16_0 : w12.cell? ⟨gb200, 0, none⟩ = some (.int .i64 a0_0) := (blk_cell BK200.out 0).trans rfl; have hcz16_1 : w12.cell? ⟨gb200, 1, none⟩ = some (.int .i64 a0_1) := (blk_cell BK200.out 1).trans rfl; have hcz16_2 : w12.cell? ⟨gb200, 2, none⟩ = some (.int .i64 a0_2) := (blk_cell BK200.out 2).trans rfl; have hcz16_3 : w12.cell? ⟨gb200, 3, none⟩ = some (.int .i64 a0_3) := (blk_cell BK200.out 3).trans rfl; have hfz16_0 := blk_frozen BK200.out 0; have hfz16_1 := blk_frozen BK200.out 1; have hfz16_2 := blk_frozen BK200.out 2; have hfz16_3 := blk_frozen BK200.out 3) | ((with_reducible refine gate_callee (f := 11) rfl ?_); refine goesL_ (some 27) rfl rfl Try.func11 (by kernel_rfl) rfl #[.agg #[.int .i64 a0_0, .int .i64 a0_1, .int .i64 a0_2, .int .i64 a0_3]] rfl (by (try simp only [List.map_toArray, List.map_cons, List.map_nil]); first | done | rfl | (simp only [List.length_drop, List.length_take]; rfl)) ?_; (with_reducible refine (weirgateref05_Check.calls a0_0 a0_1 a0_2 a0_3 t208 _ A5.out).mono ?_); rintro e w17 ⟨rfl, hb⟩; refine ⟨_, rfl, ?_⟩; have n0_ := Aside0.mk (blk_below (g := gb200) (o := .cells #[.int .i64 a0_0, .int .i64 a0_1, .int .i64 a0_2, .int .i64 a0_3] 25 (0, 0)) (by refine pk ?_; refine blk_far ?_ NB200_207.out _; refine pk ?_; refine blk_far ?_ NB200_207.out _; refine pk ?_; refine blk_far ?_ NB200_207.out _; refine pk ?_; refine blk_far ?_ NB200_207.out _; refine pk ?_; exact BK200.out) hb); have n1_ := Aside0.mk (blk_below (g := gb201) (o := .cells #[.int .i64 a2_0, .int .i64 a2_1] 23 (0, 0)) (by refine pk ?_; refine blk_far ?_ NB201_207.out _; refine pk ?_; refine blk_far ?_ NB201_207.out _; refine pk ?_; refine blk_far ?_ NB201_207.out _; refine pk ?_; refine blk_far ?_ NB201_207.out _; refine pk ?_; exact BK201.out) hb); have n2_ := Aside0.mk (blk_below (g := gb207) (o := .cells #[.int .i64 t202, .int .i64 t203, .int .i64 t204, .int .i64 t205] 25 (0, 0)) (by refine pk ?_; refine blk_put (cs := #[.int .i64 t202, .int .i64 t203, .int .i64 t204, .int .i64 0]) ?_ 3 _ rfl; refine pk ?_; refine blk_put (cs := #[.int .i64 t202, .int .i64 t203, .int .i64 0, .int .i64 0]) ?_ 2 _ rfl; refine pk ?_; refine blk_put (cs := #[.int .i64 t202, .int .i64 0, .int .i64 0, .int .i64 0]) ?_ 1 _ rfl; refine pk ?_; refine blk_put (cs := #[.int .i64 0, .int .i64 0, .int .i64 0, .int .i64 0]) ?_ 0 _ rfl; refine pk ?_; exact BK207.out) hb); have n3_ := Aside0.mk (below_step (bk HB.out) hb); clear BK200 BK201; clear BK207 HB; have BK200 := n0_; have BK201 := n1_; have BK207 := n2_; have HB := n3_; clear n0_ n1_ n2_ n3_; (try clear hb); (try clear hb2); (try clear hk); (try clear hi)))
  (try simp only [Act.put, List.setIfInBounds_toArray, List.set_cons_zero, List.set_cons_succ])
  go_cut [45] (fun v45 wc => ∃ (kq : Nat) (x45_5 : Bool), v45 = .bool x45_5 ∧ Aside0 (weirgatelaw05_ClockReadsAsSpecified.j0 kq a1 t208 x45_5 a0_0 a0_1 a0_2 a0_3 a2_0 a2_1 t202 t203 t204 t205 = some r) ∧ Aside0 (kq ≤ k) ∧ Aside0 (wc.heap[gb200]? = some (.cells #[.int .i64 a0_0, .int .i64 a0_1, .int .i64 a0_2, .int .i64 a0_3] 25 (0, 0))) ∧ Aside0 (wc.heap[gb201]? = some (.cells #[.int .i64 a2_0, .int .i64 a2_1] 23 (0, 0))) ∧ Aside0 (wc.heap[gb207]? = some (.cells #[.int .i64 t202, .int .i64 t203, .int .i64 t204, .int .i64 t205] 25 (0, 0))) ∧ Aside0 (Below w.heap.size w wc))
  case first =>
    have H := HC6.out
    clear HC6
    replace H := Option.bind_eq_some_iff.mp H
    obtain ⟨t209, A180, H⟩ := H
    replace H : (if t209 = t208 then (if t206 = t208 then (if t208 = 0 then (weirgatelaw05_ClockReadsAsSpecified.j0 k a1 t208 (!(t202 == a0_0) || ((!(t203 == a0_1) || (!(t204 == a0_2))) || (!(t205 == a0_3)))) a0_0 a0_1 a0_2 a0_3 a2_0 a2_1 t202 t203 t204 t205) else (weirgatelaw05_ClockReadsAsSpecified.j0 k a1 t208 false a0_0 a0_1 a0_2 a0_3 a2_0 a2_1 t202 t203 t204 t205)) else (weirgatelaw05_ClockReadsAsSpecified.j0 k a1 t208 true a0_0 a0_1 a0_2 a0_3 a2_0 a2_1 t202 t203 t204 t205)) else (weirgatelaw05_ClockReadsAsSpecified.j0 k a1 t208 true a0_0 a0_1 a0_2 a0_3 a2_0 a2_1 t202 t203 t204 t205)) = some r := H
    have A18 := Aside0.mk A180
    clear A180
    by_cases c19 : t209 = t208
    · rw [if_pos c19] at H
      have c19b0 : (t209 == t208) = true := beq_iff_eq.mpr c19
      have c19b1 : (t209 != t208) = false := bne_eq_false_iff_eq.mpr c19
      clear c19
      (first | rw [c19b0] | (simp only [i64_w, i32_w]; rw [c19b0]) | skip)
      by_cases c20 : t206 = t208
      · rw [if_pos c20] at H
        have c20b0 : (t206 == t208) = true := beq_iff_eq.mpr c20
        have c20b1 : (t206 != t208) = false := bne_eq_false_iff_eq.mpr c20
        clear c20
        by_cases c21 : t208 = 0
        · rw [if_pos c21] at H
          have c21b0 : (t208 == 0) = true := beq_iff_eq.mpr c21
          have c21b1 : (t208 != 0) = false := bne_eq_false_iff_eq.mpr c21
          clear c21
          have H' := Aside0.mk H
          clear H
          have hnb22 := NB200_201.out
          have hnc22 := NB201_200.out
          have hnb23 := NB200_207.out
          have hnc23 := NB207_200.out
          have hcz24_0 : w17.cell? ⟨gb200, 0, none⟩ = some (.int .i64 a0_0) := (blk_cell BK200.out 0).trans rfl
          have hcz24_1 : w17.cell? ⟨gb200, 1, none⟩ = some (.int .i64 a0_1) := (blk_cell BK200.out 1).trans rfl
          have hcz24_2 : w17.cell? ⟨gb200, 2, none⟩ = some (.int .i64 a0_2) := (blk_cell BK200.out 2).trans rfl
          have hcz24_3 : w17.cell? ⟨gb200, 3, none⟩ = some (.int .i64 a0_3) := (blk_cell BK200.out 3).trans rfl
          have hfz24_0 := blk_frozen BK200.out 0
          have hfz24_1 := blk_frozen BK200.out 1
          have hfz24_2 := blk_frozen BK200.out 2
          have hfz24_3 := blk_frozen BK200.out 3
          go_wp2_with (first | ((with_reducible refine gate_callee (f := 12) rfl ?_); refine goesL_ (some 29) rfl rfl Try.func12 (by kernel_rfl) rfl #[.agg #[.int .i64 a0_0, .int .i64 a0_1, .int .i64 a0_2, .int .i64 a0_3]] rfl (by (try simp only [List.map_toArray, List.map_cons, List.map_nil]); first | done | rfl | (simp only [List.length_drop, List.length_take]; rfl)) ?_; (with_reducible refine (clock_Check.calls a0_0 a0_1 a0_2 a0_3 t209 _ A18.out).mono ?_); rintro e w25 ⟨rfl, hb⟩; refine ⟨_, rfl, ?_⟩; have n0_ := Aside0.mk (blk_below (pk BK200.out) hb); have n1_ := Aside0.mk (blk_below (pk BK201.out) hb); have n2_ := Aside0.mk (blk_below (pk BK207.out) hb); have n3_ := Aside0.mk (below_step (bk HB.out) hb); clear BK200 BK201; clear BK207 HB; have BK200 := n0_; have BK201 := n1_; have BK207 := n2_; have HB := n3_; clear n0_ n1_ n2_ n3_; (try clear hb); (try clear hb2); (try clear hk); (try clear hi); have hnb26 := NB207_201.out; have hnc26 := NB201_207.out; have hcz27_0 : w25.cell? ⟨gb207, 0, none⟩ = some (.int .i64 t202) := (blk_cell BK207.out 0).trans rfl; have hcz27_1 : w25.cell? ⟨gb207, 1, none⟩ = some (.int .i64 t203) := (blk_cell BK207.out 1).trans rfl; have hcz27_2 : w25.cell? ⟨gb207, 2, none⟩ = some (.int .i64 t204) := (blk_cell BK207.out 2).trans rfl; have hcz27_3 : w25.cell? ⟨gb207, 3, none⟩ = some (.int .i64 t205) := (blk_cell BK207.out 3).trans rfl; have hfz27_0 := blk_frozen BK207.out 0; have hfz27_1 := blk_frozen BK207.out 1; have hfz27_2 := blk_frozen BK207.out 2; have hfz27_3 := blk_frozen BK207.out 3; have hcz28_0 : w25.cell? ⟨gb200, 0, none⟩ = some (.int .i64 a0_0) := (blk_cell BK200.out 0).trans rfl; have hcz28_1 : w25.cell? ⟨gb200, 1, none⟩ = some (.int .i64 a0_1) := (blk_cell BK200.out 1).trans rfl; have hcz28_2 : w25.cell? ⟨gb200, 2, none⟩ = some (.int .i64 a0_2) := (blk_cell BK200.out 2).trans rfl; have hcz28_3 : w25.cell? ⟨gb200, 3, none⟩ = some (.int .i64 a0_3) := (blk_cell BK200.out 3).trans rfl; have hfz28_0 := blk_frozen BK200.out 0; have hfz28_1 := blk_frozen BK200.out 1; have hfz28_2 := blk_frozen BK200.out 2; have hfz28_3 := blk_frozen BK200.out 3))
          go_meet
          case rel => exact ⟨_, ((!(t202 == a0_0) || ((!(t203 == a0_1) || (!(t204 == a0_2))) || (!(t205 == a0_3))))), (by first | rfl | (simp; done) | (simp [*]; done) | (simp only [show ∀ p : Prop, Aside0 p = p from fun p => propext ⟨Aside0.out, Aside0.mk⟩] at *; simp_all; done)), H', ⟨by first | omega | exact Nat.le_refl _⟩, ⟨pk BK200.out⟩, ⟨pk BK201.out⟩, ⟨pk BK207.out⟩, ⟨bk HB.out⟩⟩
        · rw [if_neg c21] at H
          have c21b0 : (t208 == 0) = false := beq_eq_false_iff_ne.mpr c21
          have c21b1 : (t208 != 0) = true := bne_iff_ne.mpr c21
          have H' := Aside0.mk H
          clear H
          have hnb29 := NB200_201.out
          have hnc29 := NB201_200.out
          have hnb30 := NB200_207.out
          have hnc30 := NB207_200.out
          have hcz31_0 : w17.cell? ⟨gb200, 0, none⟩ = some (.int .i64 a0_0) := (blk_cell BK200.out 0).trans rfl
          have hcz31_1 : w17.cell? ⟨gb200, 1, none⟩ = some (.int .i64 a0_1) := (blk_cell BK200.out 1).trans rfl
          have hcz31_2 : w17.cell? ⟨gb200, 2, none⟩ = some (.int .i64 a0_2) := (blk_cell BK200.out 2).trans rfl
          have hcz31_3 : w17.cell? ⟨gb200, 3, none⟩ = some (.int .i64 a0_3) := (blk_cell BK200.out 3).trans rfl
          have hfz31_0 := blk_frozen BK200.out 0
          have hfz31_1 := blk_frozen BK200.out 1
          have hfz31_2 := blk_frozen BK200.out 2
          have hfz31_3 := blk_frozen BK200.out 3
          go_wp2_with (first | ((with_reducible refine gate_callee (f := 12) rfl ?_); refine goesL_ (some 29) rfl rfl Try.func12 (by kernel_rfl) rfl #[.agg #[.int .i64 a0_0, .int .i64 a0_1, .int .i64 a0_2, .int .i64 a0_3]] rfl (by (try simp only [List.map_toArray, List.map_cons, List.map_nil]); first | done | rfl | (simp only [List.length_drop, List.length_take]; rfl)) ?_; (with_reducible refine (clock_Check.calls a0_0 a0_1 a0_2 a0_3 t209 _ A18.out).mono ?_); rintro e w32 ⟨rfl, hb⟩; refine ⟨_, rfl, ?_⟩; have n0_ := Aside0.mk (blk_below (pk BK200.out) hb); have n1_ := Aside0.mk (blk_below (pk BK201.out) hb); have n2_ := Aside0.mk (blk_below (pk BK207.out) hb); have n3_ := Aside0.mk (below_step (bk HB.out) hb); clear BK200 BK201; clear BK207 HB; have BK200 := n0_; have BK201 := n1_; have BK207 := n2_; have HB := n3_; clear n0_ n1_ n2_ n3_; (try clear hb); (try clear hb2); (try clear hk); (try clear hi)))
          go_meet
          case rel => exact ⟨_, (false), (by first | rfl | (simp; done) | (simp [*]; done) | (simp only [show ∀ p : Prop, Aside0 p = p from fun p => propext ⟨Aside0.out, Aside0.mk⟩] at *; simp_all; done)), H', ⟨by first | omega | exact Nat.le_refl _⟩, ⟨pk BK200.out⟩, ⟨pk BK201.out⟩, ⟨pk BK207.out⟩, ⟨bk HB.out⟩⟩
      · rw [if_neg c20] at H
        have c20b0 : (t206 == t208) = false := beq_eq_false_iff_ne.mpr c20
        have c20b1 : (t206 != t208) = true := bne_iff_ne.mpr c20
        have H' := Aside0.mk H
        clear H
        have hnb33 := NB200_201.out
        have hnc33 := NB201_200.out
        have hnb34 := NB200_207.out
        have hnc34 := NB207_200.out
        have hcz35_0 : w17.cell? ⟨gb200, 0, none⟩ = some (.int .i64 a0_0) := (blk_cell BK200.out 0).trans rfl
        have hcz35_1 : w17.cell? ⟨gb200, 1, none⟩ = some (.int .i64 a0_1) := (blk_cell BK200.out 1).trans rfl
        have hcz35_2 : w17.cell? ⟨gb200, 2, none⟩ = some (.int .i64 a0_2) := (blk_cell BK200.out 2).trans rfl
        have hcz35_3 : w17.cell? ⟨gb200, 3, none⟩ = some (.int .i64 a0_3) := (blk_cell BK200.out 3).trans rfl
        have hfz35_0 := blk_frozen BK200.out 0
        have hfz35_1 := blk_frozen BK200.out 1
        have hfz35_2 := blk_frozen BK200.out 2
        have hfz35_3 := blk_frozen BK200.out 3
        go_wp2_with (first | ((with_reducible refine gate_callee (f := 12) rfl ?_); refine goesL_ (some 29) rfl rfl Try.func12 (by kernel_rfl) rfl #[.agg #[.int .i64 a0_0, .int .i64 a0_1, .int .i64 a0_2, .int .i64 a0_3]] rfl (by (try simp only [List.map_toArray, List.map_cons, List.map_nil]); first | done | rfl | (simp only [List.length_drop, List.length_take]; rfl)) ?_; (with_reducible refine (clock_Check.calls a0_0 a0_1 a0_2 a0_3 t209 _ A18.out).mono ?_); rintro e w36 ⟨rfl, hb⟩; refine ⟨_, rfl, ?_⟩; have n0_ := Aside0.mk (blk_below (pk BK200.out) hb); have n1_ := Aside0.mk (blk_below (pk BK201.out) hb); have n2_ := Aside0.mk (blk_below (pk BK207.out) hb); have n3_ := Aside0.mk (below_step (bk HB.out) hb); clear BK200 BK201; clear BK207 HB; have BK200 := n0_; have BK201 := n1_; have BK207 := n2_; have HB := n3_; clear n0_ n1_ n2_ n3_; (try clear hb); (try clear hb2); (try clear hk); (try clear hi)))
        go_meet
        case rel => exact ⟨_, (true), (by first | rfl | (simp; done) | (simp [*]; done) | (simp only [show ∀ p : Prop, Aside0 p = p from fun p => propext ⟨Aside0.out, Aside0.mk⟩] at *; simp_all; done)), H', ⟨by first | omega | exact Nat.le_refl _⟩, ⟨pk BK200.out⟩, ⟨pk BK201.out⟩, ⟨pk BK207.out⟩, ⟨bk HB.out⟩⟩
    · rw [if_neg c19] at H
      have c19b0 : (t209 == t208) = false := beq_eq_false_iff_ne.mpr c19
      have c19b1 : (t209 != t208) = true := bne_iff_ne.mpr c19
      (first | rw [c19b0] | (simp only [i64_w, i32_w]; rw [c19b0]) | skip)
      have H' := Aside0.mk H
      clear H
      have hnb37 := NB200_201.out
      have hnc37 := NB201_200.out
      have hnb38 := NB200_207.out
      have hnc38 := NB207_200.out
      have hcz39_0 : w17.cell? ⟨gb200, 0, none⟩ = some (.int .i64 a0_0) := (blk_cell BK200.out 0).trans rfl
      have hcz39_1 : w17.cell? ⟨gb200, 1, none⟩ = some (.int .i64 a0_1) := (blk_cell BK200.out 1).trans rfl
      have hcz39_2 : w17.cell? ⟨gb200, 2, none⟩ = some (.int .i64 a0_2) := (blk_cell BK200.out 2).trans rfl
      have hcz39_3 : w17.cell? ⟨gb200, 3, none⟩ = some (.int .i64 a0_3) := (blk_cell BK200.out 3).trans rfl
      have hfz39_0 := blk_frozen BK200.out 0
      have hfz39_1 := blk_frozen BK200.out 1
      have hfz39_2 := blk_frozen BK200.out 2
      have hfz39_3 := blk_frozen BK200.out 3
      go_wp2_with (first | ((with_reducible refine gate_callee (f := 12) rfl ?_); refine goesL_ (some 29) rfl rfl Try.func12 (by kernel_rfl) rfl #[.agg #[.int .i64 a0_0, .int .i64 a0_1, .int .i64 a0_2, .int .i64 a0_3]] rfl (by (try simp only [List.map_toArray, List.map_cons, List.map_nil]); first | done | rfl | (simp only [List.length_drop, List.length_take]; rfl)) ?_; (with_reducible refine (clock_Check.calls a0_0 a0_1 a0_2 a0_3 t209 _ A18.out).mono ?_); rintro e w40 ⟨rfl, hb⟩; refine ⟨_, rfl, ?_⟩; have n0_ := Aside0.mk (blk_below (pk BK200.out) hb); have n1_ := Aside0.mk (blk_below (pk BK201.out) hb); have n2_ := Aside0.mk (blk_below (pk BK207.out) hb); have n3_ := Aside0.mk (below_step (bk HB.out) hb); clear BK200 BK201; clear BK207 HB; have BK200 := n0_; have BK201 := n1_; have BK207 := n2_; have HB := n3_; clear n0_ n1_ n2_ n3_; (try clear hb); (try clear hb2); (try clear hk); (try clear hi)))
      go_meet
      case rel => exact ⟨_, (true), (by first | rfl | (simp; done) | (simp [*]; done) | (simp only [show ∀ p : Prop, Aside0 p = p from fun p => propext ⟨Aside0.out, Aside0.mk⟩] at *; simp_all; done)), H', ⟨by first | omega | exact Nat.le_refl _⟩, ⟨pk BK200.out⟩, ⟨pk BK201.out⟩, ⟨pk BK207.out⟩, ⟨bk HB.out⟩⟩
  case rest =>
    clear HC6
    try clear c1
    try clear c2
    try clear p2
    try clear c3
    try clear c9
    try clear c10
    try clear c11
    try clear c12
    try clear c13
    try clear c14
    try clear c19
    try clear c19b0
    try clear c19b1
    try clear c20
    try clear c20b0
    try clear c20b1
    try clear c21
    try clear c21b0
    try clear c21b1
    try clear c22
    try clear c23
    try clear c26
    try clear c29
    try clear c30
    try clear c33
    try clear c34
    try clear c37
    try clear c38
    try clear hcz10_0
    try clear hcz10_1
    try clear hcz10_2
    try clear hcz10_3
    try clear hcz15_0
    try clear hcz15_1
    try clear hcz15_2
    try clear hcz15_3
    try clear hcz16_0
    try clear hcz16_1
    try clear hcz16_2
    try clear hcz16_3
    try clear hcz24_0
    try clear hcz24_1
    try clear hcz24_2
    try clear hcz24_3
    try clear hcz27_0
    try clear hcz27_1
    try clear hcz27_2
    try clear hcz27_3
    try clear hcz28_0
    try clear hcz28_1
    try clear hcz28_2
    try clear hcz28_3
    try clear hcz31_0
    try clear hcz31_1
    try clear hcz31_2
    try clear hcz31_3
    try clear hcz35_0
    try clear hcz35_1
    try clear hcz35_2
    try clear hcz35_3
    try clear hcz39_0
    try clear hcz39_1
    try clear hcz39_2
    try clear hcz39_3
    try clear hfz10_0
    try clear hfz10_1
    try clear hfz10_2
    try clear hfz10_3
    try clear hfz15_0
    try clear hfz15_1
    try clear hfz15_2
    try clear hfz15_3
    try clear hfz16_0
    try clear hfz16_1
    try clear hfz16_2
    try clear hfz16_3
    try clear hfz24_0
    try clear hfz24_1
    try clear hfz24_2
    try clear hfz24_3
    try clear hfz27_0
    try clear hfz27_1
    try clear hfz27_2
    try clear hfz27_3
    try clear hfz28_0
    try clear hfz28_1
    try clear hfz28_2
    try clear hfz28_3
    try clear hfz31_0
    try clear hfz31_1
    try clear hfz31_2
    try clear hfz31_3
    try clear hfz35_0
    try clear hfz35_1
    try clear hfz35_2
    try clear hfz35_3
    try clear hfz39_0
    try clear hfz39_1
    try clear hfz39_2
    try clear hfz39_3
    obtain ⟨kq, x45_5, rfl, HA, HJ5, BK200, BK201, BK207, HB⟩ := hcut
    cases kq with
    | zero => exact absurd HA.out (by simp [weirgatelaw05_ClockReadsAsSpecified.j0])
    | succ kj5 =>
      have H := HA.out
      clear HA
      simp only [weirgatelaw05_ClockReadsAsSpecified.j0] at H
      by_cases c41 : x45_5 = true
      · subst c41
        have H1 : (some false) = some r := by rw [if_pos rfl] at H; exact H
        clear H
        have H := H1
        clear H1
        obtain rfl := Option.some.inj H
        go_wp2
        go_ret
        exact ⟨by first | rfl | (simp [errW_none, errW_some] <;> rfl) | (simp [*, errW_none, errW_some] <;> rfl), bk HB.out⟩
      · replace c41 := Bool.eq_false_iff.mpr c41
        subst c41
        have H1 : (if t208 = 0 then ((clock_Read.f kj5 a0_0 a0_1 a0_2 a0_3 a1).bind fun bt211 => ((weirgateref05_Read.f kj5 a0_0 a0_1 a0_2 a0_3 a1).bind fun bt215 => ((clock_Sync.f kj5 a0_0 a0_1 a0_2 a0_3 a1 a2_0 a2_1).bind fun bt219 => ((weirgateref05_Sync.f kj5 a0_0 a0_1 a0_2 a0_3 a1 a2_0 a2_1).bind fun bt225 => ((weirgatelaw05_sanity.f kj5).bind fun t231 => (if t231 = true then (if (bt211.1 == bt215.1 && (bt211.2.1 == bt215.2.1)) = true then (if bt211.2.2 = bt215.2.2 then (if (bt219.1 == bt225.1 && ((bt219.2.1 == bt225.2.1 && (bt219.2.2.1 == bt225.2.2.1)) && (bt219.2.2.2.1 == bt225.2.2.2.1))) = true then (weirgatelaw05_ClockReadsAsSpecified.j1 kj5 (bt219.2.2.2.2 == bt225.2.2.2.2)) else (weirgatelaw05_ClockReadsAsSpecified.j1 kj5 false)) else (weirgatelaw05_ClockReadsAsSpecified.j1 kj5 false)) else (weirgatelaw05_ClockReadsAsSpecified.j1 kj5 false)) else (weirgatelaw05_ClockReadsAsSpecified.j1 kj5 false))))))) else ((weirgatelaw05_sanity.f kj5).bind fun t210 => (if t210 = true then (some (t202 == 0 && ((t203 == 0 && (t204 == 0)) && (t205 == 0)))) else (some false)))) = some r := by rw [if_neg (show ¬ (false = true) by decide)] at H; exact H
        clear H
        have H := H1
        clear H1
        by_cases c42 : t208 = 0
        · rw [if_pos c42] at H
          have c42b0 : (t208 == 0) = true := beq_iff_eq.mpr c42
          have c42b1 : (t208 != 0) = false := bne_eq_false_iff_eq.mpr c42
          clear c42
          replace H := Option.bind_eq_some_iff.mp H
          obtain ⟨⟨t211, t212, t213⟩, A430, H⟩ := H
          replace H : ((weirgateref05_Read.f kj5 a0_0 a0_1 a0_2 a0_3 a1).bind fun bt215 => ((clock_Sync.f kj5 a0_0 a0_1 a0_2 a0_3 a1 a2_0 a2_1).bind fun bt219 => ((weirgateref05_Sync.f kj5 a0_0 a0_1 a0_2 a0_3 a1 a2_0 a2_1).bind fun bt225 => ((weirgatelaw05_sanity.f kj5).bind fun t231 => (if t231 = true then (if (t211 == bt215.1 && (t212 == bt215.2.1)) = true then (if t213 = bt215.2.2 then (if (bt219.1 == bt225.1 && ((bt219.2.1 == bt225.2.1 && (bt219.2.2.1 == bt225.2.2.1)) && (bt219.2.2.2.1 == bt225.2.2.2.1))) = true then (weirgatelaw05_ClockReadsAsSpecified.j1 kj5 (bt219.2.2.2.2 == bt225.2.2.2.2)) else (weirgatelaw05_ClockReadsAsSpecified.j1 kj5 false)) else (weirgatelaw05_ClockReadsAsSpecified.j1 kj5 false)) else (weirgatelaw05_ClockReadsAsSpecified.j1 kj5 false)) else (weirgatelaw05_ClockReadsAsSpecified.j1 kj5 false)))))) = some r := H
          have A43 := Aside0.mk A430
          clear A430
          replace H := Option.bind_eq_some_iff.mp H
          obtain ⟨⟨t215, t216, t217⟩, A440, H⟩ := H
          replace H : ((clock_Sync.f kj5 a0_0 a0_1 a0_2 a0_3 a1 a2_0 a2_1).bind fun bt219 => ((weirgateref05_Sync.f kj5 a0_0 a0_1 a0_2 a0_3 a1 a2_0 a2_1).bind fun bt225 => ((weirgatelaw05_sanity.f kj5).bind fun t231 => (if t231 = true then (if (t211 == t215 && (t212 == t216)) = true then (if t213 = t217 then (if (bt219.1 == bt225.1 && ((bt219.2.1 == bt225.2.1 && (bt219.2.2.1 == bt225.2.2.1)) && (bt219.2.2.2.1 == bt225.2.2.2.1))) = true then (weirgatelaw05_ClockReadsAsSpecified.j1 kj5 (bt219.2.2.2.2 == bt225.2.2.2.2)) else (weirgatelaw05_ClockReadsAsSpecified.j1 kj5 false)) else (weirgatelaw05_ClockReadsAsSpecified.j1 kj5 false)) else (weirgatelaw05_ClockReadsAsSpecified.j1 kj5 false)) else (weirgatelaw05_ClockReadsAsSpecified.j1 kj5 false))))) = some r := H
          have A44 := Aside0.mk A440
          clear A440
          replace H := Option.bind_eq_some_iff.mp H
          obtain ⟨⟨t219, t220, t221, t222, t223⟩, A450, H⟩ := H
          replace H : ((weirgateref05_Sync.f kj5 a0_0 a0_1 a0_2 a0_3 a1 a2_0 a2_1).bind fun bt225 => ((weirgatelaw05_sanity.f kj5).bind fun t231 => (if t231 = true then (if (t211 == t215 && (t212 == t216)) = true then (if t213 = t217 then (if (t219 == bt225.1 && ((t220 == bt225.2.1 && (t221 == bt225.2.2.1)) && (t222 == bt225.2.2.2.1))) = true then (weirgatelaw05_ClockReadsAsSpecified.j1 kj5 (t223 == bt225.2.2.2.2)) else (weirgatelaw05_ClockReadsAsSpecified.j1 kj5 false)) else (weirgatelaw05_ClockReadsAsSpecified.j1 kj5 false)) else (weirgatelaw05_ClockReadsAsSpecified.j1 kj5 false)) else (weirgatelaw05_ClockReadsAsSpecified.j1 kj5 false)))) = some r := H
          have A45 := Aside0.mk A450
          clear A450
          replace H := Option.bind_eq_some_iff.mp H
          obtain ⟨⟨t225, t226, t227, t228, t229⟩, A460, H⟩ := H
          replace H : ((weirgatelaw05_sanity.f kj5).bind fun t231 => (if t231 = true then (if (t211 == t215 && (t212 == t216)) = true then (if t213 = t217 then (if (t219 == t225 && ((t220 == t226 && (t221 == t227)) && (t222 == t228))) = true then (weirgatelaw05_ClockReadsAsSpecified.j1 kj5 (t223 == t229)) else (weirgatelaw05_ClockReadsAsSpecified.j1 kj5 false)) else (weirgatelaw05_ClockReadsAsSpecified.j1 kj5 false)) else (weirgatelaw05_ClockReadsAsSpecified.j1 kj5 false)) else (weirgatelaw05_ClockReadsAsSpecified.j1 kj5 false))) = some r := H
          have A46 := Aside0.mk A460
          clear A460
          have HC47 := Aside0.mk H
          clear H
          have hnb48 := NB200_201.out
          have hnc48 := NB201_200.out
          have hnb49 := NB200_207.out
          have hnc49 := NB207_200.out
          have hcz50_0 : wc.cell? ⟨gb200, 0, none⟩ = some (.int .i64 a0_0) := (blk_cell BK200.out 0).trans rfl
          have hcz50_1 : wc.cell? ⟨gb200, 1, none⟩ = some (.int .i64 a0_1) := (blk_cell BK200.out 1).trans rfl
          have hcz50_2 : wc.cell? ⟨gb200, 2, none⟩ = some (.int .i64 a0_2) := (blk_cell BK200.out 2).trans rfl
          have hcz50_3 : wc.cell? ⟨gb200, 3, none⟩ = some (.int .i64 a0_3) := (blk_cell BK200.out 3).trans rfl
          have hfz50_0 := blk_frozen BK200.out 0
          have hfz50_1 := blk_frozen BK200.out 1
          have hfz50_2 := blk_frozen BK200.out 2
          have hfz50_3 := blk_frozen BK200.out 3
          go_upto_region 11 with (first | ((with_reducible refine gate_callee (f := 14) rfl ?_); refine goesL_ (some 57) rfl rfl Try.func14 (by kernel_rfl) rfl #[.agg #[.int .i64 a0_0, .int .i64 a0_1, .int .i64 a0_2, .int .i64 a0_3], .int .i64 a1] rfl (by (try simp only [List.map_toArray, List.map_cons, List.map_nil]); first | done | rfl | (simp only [List.length_drop, List.length_take]; rfl)) ?_; (with_reducible refine (clock_Read.calls kj5 a0_0 a0_1 a0_2 a0_3 a1 t211 t212 t213 _ A43.out).mono ?_); rintro e w51 ⟨rfl, hb⟩; refine ⟨_, rfl, ?_⟩; have n0_ := Aside0.mk (blk_below (pk BK200.out) hb); have n1_ := Aside0.mk (blk_below (pk BK201.out) hb); have n2_ := Aside0.mk (blk_below (pk BK207.out) hb); have n3_ := Aside0.mk (below_step (bk HB.out) hb); clear BK200 BK201; clear BK207 HB; have BK200 := n0_; have BK201 := n1_; have BK207 := n2_; have HB := n3_; clear n0_ n1_ n2_ n3_; (try clear hb); (try clear hb2); (try clear hk); (try clear hi)) | ((with_reducible refine gate_dst (N := 10) rfl ?_); refine box_event ?hg (N := 10) ?hd (cs := #[.int .i64 0, .int .i64 0]) (t := 23) ?hr ?_; (case hd => rfl); (case hg => rfl); (case hr => first | (go_simp; done) | (go_simp; rfl)); intro gb214 hg w52 hbox hb; have n0_ := Aside0.mk (blk_below (pk BK200.out) hb); have n1_ := Aside0.mk (blk_below (pk BK201.out) hb); have n2_ := Aside0.mk (blk_below (pk BK207.out) hb); have n3_ := Aside0.mk (below_step (bk HB.out) hb); have n4_ := Aside0.mk (hbox); have n5_ := Aside0.mk ((by rw [hg]; exact (below_size (bk HB.out)) : w.heap.size ≤ gb214)); have n6_ := Aside0.mk ((by rw [hg]; exact (below_size (bk HB.out)) : w.heap.size ≤ gb214)); have n7_ := Aside0.mk ((by rw [hg]; exact Nat.ne_of_lt (blk_lt (g := gb200) (o := .cells #[.int .i64 a0_0, .int .i64 a0_1, .int .i64 a0_2, .int .i64 a0_3] 25 (0, 0)) (pk BK200.out)) : gb200 ≠ gb214)); have n8_ := Aside0.mk ((by rw [hg]; exact Nat.ne_of_gt (blk_lt (g := gb200) (o := .cells #[.int .i64 a0_0, .int .i64 a0_1, .int .i64 a0_2, .int .i64 a0_3] 25 (0, 0)) (pk BK200.out)) : gb214 ≠ gb200)); have n9_ := Aside0.mk ((by rw [hg]; exact Nat.ne_of_lt (blk_lt (g := gb201) (o := .cells #[.int .i64 a2_0, .int .i64 a2_1] 23 (0, 0)) (pk BK201.out)) : gb201 ≠ gb214)); have n10_ := Aside0.mk ((by rw [hg]; exact Nat.ne_of_gt (blk_lt (g := gb201) (o := .cells #[.int .i64 a2_0, .int .i64 a2_1] 23 (0, 0)) (pk BK201.out)) : gb214 ≠ gb201)); have n11_ := Aside0.mk ((by rw [hg]; exact Nat.ne_of_lt (blk_lt (g := gb207) (o := .cells #[.int .i64 t202, .int .i64 t203, .int .i64 t204, .int .i64 t205] 25 (0, 0)) (pk BK207.out)) : gb207 ≠ gb214)); have n12_ := Aside0.mk ((by rw [hg]; exact Nat.ne_of_gt (blk_lt (g := gb207) (o := .cells #[.int .i64 t202, .int .i64 t203, .int .i64 t204, .int .i64 t205] 25 (0, 0)) (pk BK207.out)) : gb214 ≠ gb207)); clear BK200 BK201; clear BK207 HB; have BK200 := n0_; have BK201 := n1_; have BK207 := n2_; have HB := n3_; have BK214 := n4_; have GW214 := n5_; have GE214 := n6_; have NB200_214 := n7_; have NB214_200 := n8_; have NB201_214 := n9_; have NB214_201 := n10_; have NB207_214 := n11_; have NB214_207 := n12_; clear n0_ n1_ n2_ n3_ n4_ n5_ n6_ n7_ n8_ n9_ n10_ n11_ n12_; clear hb hbox hg; have hnb53 := NB214_200.out; have hnc53 := NB200_214.out; have hnb54 := NB214_201.out; have hnc54 := NB201_214.out; have hnb55 := NB214_207.out; have hnc55 := NB207_214.out; have hcz56_0 : w52.cell? ⟨gb214, 0, none⟩ = some (.int .i64 0) := (blk_cell BK214.out 0).trans rfl; have hcz56_1 : w52.cell? ⟨gb214, 1, none⟩ = some (.int .i64 0) := (blk_cell BK214.out 1).trans rfl; have hfz56_0 := blk_frozen BK214.out 0; have hfz56_1 := blk_frozen BK214.out 1; have hcz57_0 : w52.cell? ⟨gb200, 0, none⟩ = some (.int .i64 a0_0) := (blk_cell BK200.out 0).trans rfl; have hcz57_1 : w52.cell? ⟨gb200, 1, none⟩ = some (.int .i64 a0_1) := (blk_cell BK200.out 1).trans rfl; have hcz57_2 : w52.cell? ⟨gb200, 2, none⟩ = some (.int .i64 a0_2) := (blk_cell BK200.out 2).trans rfl; have hcz57_3 : w52.cell? ⟨gb200, 3, none⟩ = some (.int .i64 a0_3) := (blk_cell BK200.out 3).trans rfl; have hfz57_0 := blk_frozen BK200.out 0; have hfz57_1 := blk_frozen BK200.out 1; have hfz57_2 := blk_frozen BK200.out 2; have hfz57_3 := blk_frozen BK200.out 3) | ((with_reducible refine gate_callee (f := 15) rfl ?_); refine goesL_ (some 62) rfl rfl Try.func15 (by kernel_rfl) rfl #[.agg #[.int .i64 a0_0, .int .i64 a0_1, .int .i64 a0_2, .int .i64 a0_3], .int .i64 a1] rfl (by (try simp only [List.map_toArray, List.map_cons, List.map_nil]); first | done | rfl | (simp only [List.length_drop, List.length_take]; rfl)) ?_; (with_reducible refine (weirgateref05_Read.calls kj5 a0_0 a0_1 a0_2 a0_3 a1 t215 t216 t217 _ A44.out).mono ?_); rintro e w58 ⟨rfl, hb⟩; refine ⟨_, rfl, ?_⟩; have n0_ := Aside0.mk (blk_below (g := gb200) (o := .cells #[.int .i64 a0_0, .int .i64 a0_1, .int .i64 a0_2, .int .i64 a0_3] 25 (0, 0)) (by refine pk ?_; refine blk_far ?_ NB200_214.out _; refine pk ?_; refine blk_far ?_ NB200_214.out _; refine pk ?_; exact BK200.out) hb); have n1_ := Aside0.mk (blk_below (g := gb201) (o := .cells #[.int .i64 a2_0, .int .i64 a2_1] 23 (0, 0)) (by refine pk ?_; refine blk_far ?_ NB201_214.out _; refine pk ?_; refine blk_far ?_ NB201_214.out _; refine pk ?_; exact BK201.out) hb); have n2_ := Aside0.mk (blk_below (g := gb207) (o := .cells #[.int .i64 t202, .int .i64 t203, .int .i64 t204, .int .i64 t205] 25 (0, 0)) (by refine pk ?_; refine blk_far ?_ NB207_214.out _; refine pk ?_; refine blk_far ?_ NB207_214.out _; refine pk ?_; exact BK207.out) hb); have n3_ := Aside0.mk (blk_below (g := gb214) (o := .cells #[.int .i64 t211, .int .i64 t212] 23 (0, 0)) (by refine pk ?_; refine blk_put (cs := #[.int .i64 t211, .int .i64 0]) ?_ 1 _ rfl; refine pk ?_; refine blk_put (cs := #[.int .i64 0, .int .i64 0]) ?_ 0 _ rfl; refine pk ?_; exact BK214.out) hb); have n4_ := Aside0.mk (below_step (bk HB.out) hb); clear BK200 BK201; clear BK207 BK214 HB; have BK200 := n0_; have BK201 := n1_; have BK207 := n2_; have BK214 := n3_; have HB := n4_; clear n0_ n1_ n2_ n3_ n4_; (try clear hb); (try clear hb2); (try clear hk); (try clear hi)) | ((with_reducible refine gate_dst (N := 12) rfl ?_); refine box_event ?hg (N := 12) ?hd (cs := #[.int .i64 0, .int .i64 0, .int .i64 0]) (t := 34) ?hr ?_; (case hd => rfl); (case hg => rfl); (case hr => first | (go_simp; done) | (go_simp; rfl)); intro gb218 hg w59 hbox hb; have n0_ := Aside0.mk (blk_below (pk BK200.out) hb); have n1_ := Aside0.mk (blk_below (pk BK201.out) hb); have n2_ := Aside0.mk (blk_below (pk BK207.out) hb); have n3_ := Aside0.mk (blk_below (pk BK214.out) hb); have n4_ := Aside0.mk (below_step (bk HB.out) hb); have n5_ := Aside0.mk (hbox); have n6_ := Aside0.mk ((by rw [hg]; exact (below_size (bk HB.out)) : w.heap.size ≤ gb218)); have n7_ := Aside0.mk ((by rw [hg]; exact (below_size (bk HB.out)) : w.heap.size ≤ gb218)); have n8_ := Aside0.mk ((by rw [hg]; exact Nat.ne_of_lt (blk_lt (g := gb200) (o := .cells #[.int .i64 a0_0, .int .i64 a0_1, .int .i64 a0_2, .int .i64 a0_3] 25 (0, 0)) (pk BK200.out)) : gb200 ≠ gb218)); have n9_ := Aside0.mk ((by rw [hg]; exact Nat.ne_of_gt (blk_lt (g := gb200) (o := .cells #[.int .i64 a0_0, .int .i64 a0_1, .int .i64 a0_2, .int .i64 a0_3] 25 (0, 0)) (pk BK200.out)) : gb218 ≠ gb200)); have n10_ := Aside0.mk ((by rw [hg]; exact Nat.ne_of_lt (blk_lt (g := gb201) (o := .cells #[.int .i64 a2_0, .int .i64 a2_1] 23 (0, 0)) (pk BK201.out)) : gb201 ≠ gb218)); have n11_ := Aside0.mk ((by rw [hg]; exact Nat.ne_of_gt (blk_lt (g := gb201) (o := .cells #[.int .i64 a2_0, .int .i64 a2_1] 23 (0, 0)) (pk BK201.out)) : gb218 ≠ gb201)); have n12_ := Aside0.mk ((by rw [hg]; exact Nat.ne_of_lt (blk_lt (g := gb207) (o := .cells #[.int .i64 t202, .int .i64 t203, .int .i64 t204, .int .i64 t205] 25 (0, 0)) (pk BK207.out)) : gb207 ≠ gb218)); have n13_ := Aside0.mk ((by rw [hg]; exact Nat.ne_of_gt (blk_lt (g := gb207) (o := .cells #[.int .i64 t202, .int .i64 t203, .int .i64 t204, .int .i64 t205] 25 (0, 0)) (pk BK207.out)) : gb218 ≠ gb207)); have n14_ := Aside0.mk ((by rw [hg]; exact Nat.ne_of_lt (blk_lt (g := gb214) (o := .cells #[.int .i64 t211, .int .i64 t212] 23 (0, 0)) (pk BK214.out)) : gb214 ≠ gb218)); have n15_ := Aside0.mk ((by rw [hg]; exact Nat.ne_of_gt (blk_lt (g := gb214) (o := .cells #[.int .i64 t211, .int .i64 t212] 23 (0, 0)) (pk BK214.out)) : gb218 ≠ gb214)); clear BK200 BK201; clear BK207 BK214 HB; have BK200 := n0_; have BK201 := n1_; have BK207 := n2_; have BK214 := n3_; have HB := n4_; have BK218 := n5_; have GW218 := n6_; have GE218 := n7_; have NB200_218 := n8_; have NB218_200 := n9_; have NB201_218 := n10_; have NB218_201 := n11_; have NB207_218 := n12_; have NB218_207 := n13_; have NB214_218 := n14_; have NB218_214 := n15_; clear n0_ n1_ n2_ n3_ n4_ n5_ n6_ n7_ n8_ n9_ n10_ n11_ n12_ n13_ n14_ n15_; clear hb hbox hg; have hnb60 := NB218_200.out; have hnc60 := NB200_218.out; have hnb61 := NB218_201.out; have hnc61 := NB201_218.out; have hnb62 := NB218_207.out; have hnc62 := NB207_218.out; have hnb63 := NB218_214.out; have hnc63 := NB214_218.out; have hcz64_0 : w59.cell? ⟨gb218, 0, none⟩ = some (.int .i64 0) := (blk_cell BK218.out 0).trans rfl; have hcz64_1 : w59.cell? ⟨gb218, 1, none⟩ = some (.int .i64 0) := (blk_cell BK218.out 1).trans rfl; have hcz64_2 : w59.cell? ⟨gb218, 2, none⟩ = some (.int .i64 0) := (blk_cell BK218.out 2).trans rfl; have hfz64_0 := blk_frozen BK218.out 0; have hfz64_1 := blk_frozen BK218.out 1; have hfz64_2 := blk_frozen BK218.out 2; have hcz65_0 : w59.cell? ⟨gb200, 0, none⟩ = some (.int .i64 a0_0) := (blk_cell BK200.out 0).trans rfl; have hcz65_1 : w59.cell? ⟨gb200, 1, none⟩ = some (.int .i64 a0_1) := (blk_cell BK200.out 1).trans rfl; have hcz65_2 : w59.cell? ⟨gb200, 2, none⟩ = some (.int .i64 a0_2) := (blk_cell BK200.out 2).trans rfl; have hcz65_3 : w59.cell? ⟨gb200, 3, none⟩ = some (.int .i64 a0_3) := (blk_cell BK200.out 3).trans rfl; have hfz65_0 := blk_frozen BK200.out 0; have hfz65_1 := blk_frozen BK200.out 1; have hfz65_2 := blk_frozen BK200.out 2; have hfz65_3 := blk_frozen BK200.out 3; have hnb66 := NB201_207.out; have hnc66 := NB207_201.out; have hcz67_0 : w59.cell? ⟨gb201, 0, none⟩ = some (.int .i64 a2_0) := (blk_cell BK201.out 0).trans rfl; have hcz67_1 : w59.cell? ⟨gb201, 1, none⟩ = some (.int .i64 a2_1) := (blk_cell BK201.out 1).trans rfl; have hfz67_0 := blk_frozen BK201.out 0; have hfz67_1 := blk_frozen BK201.out 1) | ((with_reducible refine gate_callee (f := 16) rfl ?_); refine goesL_ (some 67) rfl rfl Try.func16 (by kernel_rfl) rfl #[.agg #[.int .i64 a0_0, .int .i64 a0_1, .int .i64 a0_2, .int .i64 a0_3], .int .i64 a1, .agg #[.int .i64 a2_0, .int .i64 a2_1]] rfl (by (try simp only [List.map_toArray, List.map_cons, List.map_nil]); first | done | rfl | (simp only [List.length_drop, List.length_take]; rfl)) ?_; (with_reducible refine (clock_Sync.calls kj5 a0_0 a0_1 a0_2 a0_3 a1 a2_0 a2_1 t219 t220 t221 t222 t223 _ A45.out).mono ?_); rintro e w68 ⟨rfl, hb⟩; refine ⟨_, rfl, ?_⟩; have n0_ := Aside0.mk (blk_below (g := gb200) (o := .cells #[.int .i64 a0_0, .int .i64 a0_1, .int .i64 a0_2, .int .i64 a0_3] 25 (0, 0)) (by refine pk ?_; refine blk_far ?_ NB200_218.out _; refine pk ?_; refine blk_far ?_ NB200_218.out _; refine pk ?_; refine blk_far ?_ NB200_218.out _; refine pk ?_; exact BK200.out) hb); have n1_ := Aside0.mk (blk_below (g := gb201) (o := .cells #[.int .i64 a2_0, .int .i64 a2_1] 23 (0, 0)) (by refine pk ?_; refine blk_far ?_ NB201_218.out _; refine pk ?_; refine blk_far ?_ NB201_218.out _; refine pk ?_; refine blk_far ?_ NB201_218.out _; refine pk ?_; exact BK201.out) hb); have n2_ := Aside0.mk (blk_below (g := gb207) (o := .cells #[.int .i64 t202, .int .i64 t203, .int .i64 t204, .int .i64 t205] 25 (0, 0)) (by refine pk ?_; refine blk_far ?_ NB207_218.out _; refine pk ?_; refine blk_far ?_ NB207_218.out _; refine pk ?_; refine blk_far ?_ NB207_218.out _; refine pk ?_; exact BK207.out) hb); have n3_ := Aside0.mk (blk_below (g := gb214) (o := .cells #[.int .i64 t211, .int .i64 t212] 23 (0, 0)) (by refine pk ?_; refine blk_far ?_ NB214_218.out _; refine pk ?_; refine blk_far ?_ NB214_218.out _; refine pk ?_; refine blk_far ?_ NB214_218.out _; refine pk ?_; exact BK214.out) hb); have n4_ := Aside0.mk (blk_below (g := gb218) (o := .cells #[.int .i64 t215, .int .i64 t216, .int .i64 t217] 34 (0, 0)) (by refine pk ?_; refine blk_put (cs := #[.int .i64 t215, .int .i64 t216, .int .i64 0]) ?_ 2 _ rfl; refine pk ?_; refine blk_put (cs := #[.int .i64 t215, .int .i64 0, .int .i64 0]) ?_ 1 _ rfl; refine pk ?_; refine blk_put (cs := #[.int .i64 0, .int .i64 0, .int .i64 0]) ?_ 0 _ rfl; refine pk ?_; exact BK218.out) hb); have n5_ := Aside0.mk (below_step (bk HB.out) hb); clear BK200 BK201; clear BK207 BK214; clear BK218 HB; have BK200 := n0_; have BK201 := n1_; have BK207 := n2_; have BK214 := n3_; have BK218 := n4_; have HB := n5_; clear n0_ n1_ n2_ n3_ n4_ n5_; (try clear hb); (try clear hb2); (try clear hk); (try clear hi)) | ((with_reducible refine gate_dst (N := 13) rfl ?_); refine box_event ?hg (N := 13) ?hd (cs := #[.int .i64 0, .int .i64 0, .int .i64 0, .int .i64 0]) (t := 25) ?hr ?_; (case hd => rfl); (case hg => rfl); (case hr => first | (go_simp; done) | (go_simp; rfl)); intro gb224 hg w69 hbox hb; have n0_ := Aside0.mk (blk_below (pk BK200.out) hb); have n1_ := Aside0.mk (blk_below (pk BK201.out) hb); have n2_ := Aside0.mk (blk_below (pk BK207.out) hb); have n3_ := Aside0.mk (blk_below (pk BK214.out) hb); have n4_ := Aside0.mk (blk_below (pk BK218.out) hb); have n5_ := Aside0.mk (below_step (bk HB.out) hb); have n6_ := Aside0.mk (hbox); have n7_ := Aside0.mk ((by rw [hg]; exact (below_size (bk HB.out)) : w.heap.size ≤ gb224)); have n8_ := Aside0.mk ((by rw [hg]; exact (below_size (bk HB.out)) : w.heap.size ≤ gb224)); have n9_ := Aside0.mk ((by rw [hg]; exact Nat.ne_of_lt (blk_lt (g := gb200) (o := .cells #[.int .i64 a0_0, .int .i64 a0_1, .int .i64 a0_2, .int .i64 a0_3] 25 (0, 0)) (pk BK200.out)) : gb200 ≠ gb224)); have n10_ := Aside0.mk ((by rw [hg]; exact Nat.ne_of_gt (blk_lt (g := gb200) (o := .cells #[.int .i64 a0_0, .int .i64 a0_1, .int .i64 a0_2, .int .i64 a0_3] 25 (0, 0)) (pk BK200.out)) : gb224 ≠ gb200)); have n11_ := Aside0.mk ((by rw [hg]; exact Nat.ne_of_lt (blk_lt (g := gb201) (o := .cells #[.int .i64 a2_0, .int .i64 a2_1] 23 (0, 0)) (pk BK201.out)) : gb201 ≠ gb224)); have n12_ := Aside0.mk ((by rw [hg]; exact Nat.ne_of_gt (blk_lt (g := gb201) (o := .cells #[.int .i64 a2_0, .int .i64 a2_1] 23 (0, 0)) (pk BK201.out)) : gb224 ≠ gb201)); have n13_ := Aside0.mk ((by rw [hg]; exact Nat.ne_of_lt (blk_lt (g := gb207) (o := .cells #[.int .i64 t202, .int .i64 t203, .int .i64 t204, .int .i64 t205] 25 (0, 0)) (pk BK207.out)) : gb207 ≠ gb224)); have n14_ := Aside0.mk ((by rw [hg]; exact Nat.ne_of_gt (blk_lt (g := gb207) (o := .cells #[.int .i64 t202, .int .i64 t203, .int .i64 t204, .int .i64 t205] 25 (0, 0)) (pk BK207.out)) : gb224 ≠ gb207)); have n15_ := Aside0.mk ((by rw [hg]; exact Nat.ne_of_lt (blk_lt (g := gb214) (o := .cells #[.int .i64 t211, .int .i64 t212] 23 (0, 0)) (pk BK214.out)) : gb214 ≠ gb224)); have n16_ := Aside0.mk ((by rw [hg]; exact Nat.ne_of_gt (blk_lt (g := gb214) (o := .cells #[.int .i64 t211, .int .i64 t212] 23 (0, 0)) (pk BK214.out)) : gb224 ≠ gb214)); have n17_ := Aside0.mk ((by rw [hg]; exact Nat.ne_of_lt (blk_lt (g := gb218) (o := .cells #[.int .i64 t215, .int .i64 t216, .int .i64 t217] 34 (0, 0)) (pk BK218.out)) : gb218 ≠ gb224)); have n18_ := Aside0.mk ((by rw [hg]; exact Nat.ne_of_gt (blk_lt (g := gb218) (o := .cells #[.int .i64 t215, .int .i64 t216, .int .i64 t217] 34 (0, 0)) (pk BK218.out)) : gb224 ≠ gb218)); clear BK200 BK201; clear BK207 BK214; clear BK218 HB; have BK200 := n0_; have BK201 := n1_; have BK207 := n2_; have BK214 := n3_; have BK218 := n4_; have HB := n5_; have BK224 := n6_; have GW224 := n7_; have GE224 := n8_; have NB200_224 := n9_; have NB224_200 := n10_; have NB201_224 := n11_; have NB224_201 := n12_; have NB207_224 := n13_; have NB224_207 := n14_; have NB214_224 := n15_; have NB224_214 := n16_; have NB218_224 := n17_; have NB224_218 := n18_; clear n0_ n1_ n2_ n3_ n4_ n5_ n6_ n7_ n8_ n9_ n10_ n11_ n12_ n13_ n14_ n15_ n16_ n17_ n18_; clear hb hbox hg; have hnb70 := NB224_200.out; have hnc70 := NB200_224.out; have hnb71 := NB224_201.out; have hnc71 := NB201_224.out; have hnb72 := NB224_207.out; have hnc72 := NB207_224.out; have hnb73 := NB224_214.out; have hnc73 := NB214_224.out; have hnb74 := NB224_218.out; have hnc74 := NB218_224.out; have hcz75_0 : w69.cell? ⟨gb224, 0, none⟩ = some (.int .i64 0) := (blk_cell BK224.out 0).trans rfl; have hcz75_1 : w69.cell? ⟨gb224, 1, none⟩ = some (.int .i64 0) := (blk_cell BK224.out 1).trans rfl; have hcz75_2 : w69.cell? ⟨gb224, 2, none⟩ = some (.int .i64 0) := (blk_cell BK224.out 2).trans rfl; have hcz75_3 : w69.cell? ⟨gb224, 3, none⟩ = some (.int .i64 0) := (blk_cell BK224.out 3).trans rfl; have hfz75_0 := blk_frozen BK224.out 0; have hfz75_1 := blk_frozen BK224.out 1; have hfz75_2 := blk_frozen BK224.out 2; have hfz75_3 := blk_frozen BK224.out 3; have hcz76_0 : w69.cell? ⟨gb200, 0, none⟩ = some (.int .i64 a0_0) := (blk_cell BK200.out 0).trans rfl; have hcz76_1 : w69.cell? ⟨gb200, 1, none⟩ = some (.int .i64 a0_1) := (blk_cell BK200.out 1).trans rfl; have hcz76_2 : w69.cell? ⟨gb200, 2, none⟩ = some (.int .i64 a0_2) := (blk_cell BK200.out 2).trans rfl; have hcz76_3 : w69.cell? ⟨gb200, 3, none⟩ = some (.int .i64 a0_3) := (blk_cell BK200.out 3).trans rfl; have hfz76_0 := blk_frozen BK200.out 0; have hfz76_1 := blk_frozen BK200.out 1; have hfz76_2 := blk_frozen BK200.out 2; have hfz76_3 := blk_frozen BK200.out 3; have hcz77_0 : w69.cell? ⟨gb201, 0, none⟩ = some (.int .i64 a2_0) := (blk_cell BK201.out 0).trans rfl; have hcz77_1 : w69.cell? ⟨gb201, 1, none⟩ = some (.int .i64 a2_1) := (blk_cell BK201.out 1).trans rfl; have hfz77_0 := blk_frozen BK201.out 0; have hfz77_1 := blk_frozen BK201.out 1) | ((with_reducible refine gate_callee (f := 17) rfl ?_); refine goesL_ (some 73) rfl rfl Try.func17 (by kernel_rfl) rfl #[.agg #[.int .i64 a0_0, .int .i64 a0_1, .int .i64 a0_2, .int .i64 a0_3], .int .i64 a1, .agg #[.int .i64 a2_0, .int .i64 a2_1]] rfl (by (try simp only [List.map_toArray, List.map_cons, List.map_nil]); first | done | rfl | (simp only [List.length_drop, List.length_take]; rfl)) ?_; (with_reducible refine (weirgateref05_Sync.calls kj5 a0_0 a0_1 a0_2 a0_3 a1 a2_0 a2_1 t225 t226 t227 t228 t229 _ A46.out).mono ?_); rintro e w78 ⟨rfl, hb⟩; refine ⟨_, rfl, ?_⟩; have n0_ := Aside0.mk (blk_below (g := gb200) (o := .cells #[.int .i64 a0_0, .int .i64 a0_1, .int .i64 a0_2, .int .i64 a0_3] 25 (0, 0)) (by refine pk ?_; refine blk_far ?_ NB200_224.out _; refine pk ?_; refine blk_far ?_ NB200_224.out _; refine pk ?_; refine blk_far ?_ NB200_224.out _; refine pk ?_; refine blk_far ?_ NB200_224.out _; refine pk ?_; exact BK200.out) hb); have n1_ := Aside0.mk (blk_below (g := gb201) (o := .cells #[.int .i64 a2_0, .int .i64 a2_1] 23 (0, 0)) (by refine pk ?_; refine blk_far ?_ NB201_224.out _; refine pk ?_; refine blk_far ?_ NB201_224.out _; refine pk ?_; refine blk_far ?_ NB201_224.out _; refine pk ?_; refine blk_far ?_ NB201_224.out _; refine pk ?_; exact BK201.out) hb); have n2_ := Aside0.mk (blk_below (g := gb207) (o := .cells #[.int .i64 t202, .int .i64 t203, .int .i64 t204, .int .i64 t205] 25 (0, 0)) (by refine pk ?_; refine blk_far ?_ NB207_224.out _; refine pk ?_; refine blk_far ?_ NB207_224.out _; refine pk ?_; refine blk_far ?_ NB207_224.out _; refine pk ?_; refine blk_far ?_ NB207_224.out _; refine pk ?_; exact BK207.out) hb); have n3_ := Aside0.mk (blk_below (g := gb214) (o := .cells #[.int .i64 t211, .int .i64 t212] 23 (0, 0)) (by refine pk ?_; refine blk_far ?_ NB214_224.out _; refine pk ?_; refine blk_far ?_ NB214_224.out _; refine pk ?_; refine blk_far ?_ NB214_224.out _; refine pk ?_; refine blk_far ?_ NB214_224.out _; refine pk ?_; exact BK214.out) hb); have n4_ := Aside0.mk (blk_below (g := gb218) (o := .cells #[.int .i64 t215, .int .i64 t216, .int .i64 t217] 34 (0, 0)) (by refine pk ?_; refine blk_far ?_ NB218_224.out _; refine pk ?_; refine blk_far ?_ NB218_224.out _; refine pk ?_; refine blk_far ?_ NB218_224.out _; refine pk ?_; refine blk_far ?_ NB218_224.out _; refine pk ?_; exact BK218.out) hb); have n5_ := Aside0.mk (blk_below (g := gb224) (o := .cells #[.int .i64 t219, .int .i64 t220, .int .i64 t221, .int .i64 t222] 25 (0, 0)) (by refine pk ?_; refine blk_put (cs := #[.int .i64 t219, .int .i64 t220, .int .i64 t221, .int .i64 0]) ?_ 3 _ rfl; refine pk ?_; refine blk_put (cs := #[.int .i64 t219, .int .i64 t220, .int .i64 0, .int .i64 0]) ?_ 2 _ rfl; refine pk ?_; refine blk_put (cs := #[.int .i64 t219, .int .i64 0, .int .i64 0, .int .i64 0]) ?_ 1 _ rfl; refine pk ?_; refine blk_put (cs := #[.int .i64 0, .int .i64 0, .int .i64 0, .int .i64 0]) ?_ 0 _ rfl; refine pk ?_; exact BK224.out) hb); have n6_ := Aside0.mk (below_step (bk HB.out) hb); clear BK200 BK201; clear BK207 BK214; clear BK218 BK224 HB; have BK200 := n0_; have BK201 := n1_; have BK207 := n2_; have BK214 := n3_; have BK218 := n4_; have BK224 := n5_; have HB := n6_; clear n0_ n1_ n2_ n3_ n4_ n5_ n6_; (try clear hb); (try clear hb2); (try clear hk); (try clear hi)) | ((with_reducible refine gate_dst (N := 15) rfl ?_); refine box_event ?hg (N := 15) ?hd (cs := #[.int .i64 0, .int .i64 0, .int .i64 0, .int .i64 0, .int .i64 0]) (t := 38) ?hr ?_; (case hd => rfl); (case hg => rfl); (case hr => first | (go_simp; done) | (go_simp; rfl)); intro gb230 hg w79 hbox hb; have n0_ := Aside0.mk (blk_below (pk BK200.out) hb); have n1_ := Aside0.mk (blk_below (pk BK201.out) hb); have n2_ := Aside0.mk (blk_below (pk BK207.out) hb); have n3_ := Aside0.mk (blk_below (pk BK214.out) hb); have n4_ := Aside0.mk (blk_below (pk BK218.out) hb); have n5_ := Aside0.mk (blk_below (pk BK224.out) hb); have n6_ := Aside0.mk (below_step (bk HB.out) hb); have n7_ := Aside0.mk (hbox); have n8_ := Aside0.mk ((by rw [hg]; exact (below_size (bk HB.out)) : w.heap.size ≤ gb230)); have n9_ := Aside0.mk ((by rw [hg]; exact (below_size (bk HB.out)) : w.heap.size ≤ gb230)); have n10_ := Aside0.mk ((by rw [hg]; exact Nat.ne_of_lt (blk_lt (g := gb200) (o := .cells #[.int .i64 a0_0, .int .i64 a0_1, .int .i64 a0_2, .int .i64 a0_3] 25 (0, 0)) (pk BK200.out)) : gb200 ≠ gb230)); have n11_ := Aside0.mk ((by rw [hg]; exact Nat.ne_of_gt (blk_lt (g := gb200) (o := .cells #[.int .i64 a0_0, .int .i64 a0_1, .int .i64 a0_2, .int .i64 a0_3] 25 (0, 0)) (pk BK200.out)) : gb230 ≠ gb200)); have n12_ := Aside0.mk ((by rw [hg]; exact Nat.ne_of_lt (blk_lt (g := gb201) (o := .cells #[.int .i64 a2_0, .int .i64 a2_1] 23 (0, 0)) (pk BK201.out)) : gb201 ≠ gb230)); have n13_ := Aside0.mk ((by rw [hg]; exact Nat.ne_of_gt (blk_lt (g := gb201) (o := .cells #[.int .i64 a2_0, .int .i64 a2_1] 23 (0, 0)) (pk BK201.out)) : gb230 ≠ gb201)); have n14_ := Aside0.mk ((by rw [hg]; exact Nat.ne_of_lt (blk_lt (g := gb207) (o := .cells #[.int .i64 t202, .int .i64 t203, .int .i64 t204, .int .i64 t205] 25 (0, 0)) (pk BK207.out)) : gb207 ≠ gb230)); have n15_ := Aside0.mk ((by rw [hg]; exact Nat.ne_of_gt (blk_lt (g := gb207) (o := .cells #[.int .i64 t202, .int .i64 t203, .int .i64 t204, .int .i64 t205] 25 (0, 0)) (pk BK207.out)) : gb230 ≠ gb207)); have n16_ := Aside0.mk ((by rw [hg]; exact Nat.ne_of_lt (blk_lt (g := gb214) (o := .cells #[.int .i64 t211, .int .i64 t212] 23 (0, 0)) (pk BK214.out)) : gb214 ≠ gb230)); have n17_ := Aside0.mk ((by rw [hg]; exact Nat.ne_of_gt (blk_lt (g := gb214) (o := .cells #[.int .i64 t211, .int .i64 t212] 23 (0, 0)) (pk BK214.out)) : gb230 ≠ gb214)); have n18_ := Aside0.mk ((by rw [hg]; exact Nat.ne_of_lt (blk_lt (g := gb218) (o := .cells #[.int .i64 t215, .int .i64 t216, .int .i64 t217] 34 (0, 0)) (pk BK218.out)) : gb218 ≠ gb230)); have n19_ := Aside0.mk ((by rw [hg]; exact Nat.ne_of_gt (blk_lt (g := gb218) (o := .cells #[.int .i64 t215, .int .i64 t216, .int .i64 t217] 34 (0, 0)) (pk BK218.out)) : gb230 ≠ gb218)); have n20_ := Aside0.mk ((by rw [hg]; exact Nat.ne_of_lt (blk_lt (g := gb224) (o := .cells #[.int .i64 t219, .int .i64 t220, .int .i64 t221, .int .i64 t222] 25 (0, 0)) (pk BK224.out)) : gb224 ≠ gb230)); have n21_ := Aside0.mk ((by rw [hg]; exact Nat.ne_of_gt (blk_lt (g := gb224) (o := .cells #[.int .i64 t219, .int .i64 t220, .int .i64 t221, .int .i64 t222] 25 (0, 0)) (pk BK224.out)) : gb230 ≠ gb224)); clear BK200 BK201; clear BK207 BK214; clear BK218 BK224 HB; have BK200 := n0_; have BK201 := n1_; have BK207 := n2_; have BK214 := n3_; have BK218 := n4_; have BK224 := n5_; have HB := n6_; have BK230 := n7_; have GW230 := n8_; have GE230 := n9_; have NB200_230 := n10_; have NB230_200 := n11_; have NB201_230 := n12_; have NB230_201 := n13_; have NB207_230 := n14_; have NB230_207 := n15_; have NB214_230 := n16_; have NB230_214 := n17_; have NB218_230 := n18_; have NB230_218 := n19_; have NB224_230 := n20_; have NB230_224 := n21_; clear n0_ n1_ n2_ n3_ n4_ n5_ n6_ n7_ n8_ n9_ n10_ n11_ n12_ n13_ n14_ n15_ n16_ n17_ n18_ n19_ n20_ n21_; clear hb hbox hg; have hnb80 := NB230_200.out; have hnc80 := NB200_230.out; have hnb81 := NB230_201.out; have hnc81 := NB201_230.out; have hnb82 := NB230_207.out; have hnc82 := NB207_230.out; have hnb83 := NB230_214.out; have hnc83 := NB214_230.out; have hnb84 := NB230_218.out; have hnc84 := NB218_230.out; have hnb85 := NB230_224.out; have hnc85 := NB224_230.out; have hcz86_0 : w79.cell? ⟨gb230, 0, none⟩ = some (.int .i64 0) := (blk_cell BK230.out 0).trans rfl; have hcz86_1 : w79.cell? ⟨gb230, 1, none⟩ = some (.int .i64 0) := (blk_cell BK230.out 1).trans rfl; have hcz86_2 : w79.cell? ⟨gb230, 2, none⟩ = some (.int .i64 0) := (blk_cell BK230.out 2).trans rfl; have hcz86_3 : w79.cell? ⟨gb230, 3, none⟩ = some (.int .i64 0) := (blk_cell BK230.out 3).trans rfl; have hcz86_4 : w79.cell? ⟨gb230, 4, none⟩ = some (.int .i64 0) := (blk_cell BK230.out 4).trans rfl; have hfz86_0 := blk_frozen BK230.out 0; have hfz86_1 := blk_frozen BK230.out 1; have hfz86_2 := blk_frozen BK230.out 2; have hfz86_3 := blk_frozen BK230.out 3; have hfz86_4 := blk_frozen BK230.out 4))
          (try simp only [Act.put, List.setIfInBounds_toArray, List.set_cons_zero, List.set_cons_succ])
          go_cut [6] (fun v6 wc => ∃ (kq : Nat) (x6_46 : Bool), v6 = .bool x6_46 ∧ Aside0 (weirgatelaw05_ClockReadsAsSpecified.j1 kq x6_46 = some r) ∧ Aside0 (kq ≤ kj5) ∧ Aside0 (wc.heap[gb200]? = some (.cells #[.int .i64 a0_0, .int .i64 a0_1, .int .i64 a0_2, .int .i64 a0_3] 25 (0, 0))) ∧ Aside0 (wc.heap[gb201]? = some (.cells #[.int .i64 a2_0, .int .i64 a2_1] 23 (0, 0))) ∧ Aside0 (wc.heap[gb207]? = some (.cells #[.int .i64 t202, .int .i64 t203, .int .i64 t204, .int .i64 t205] 25 (0, 0))) ∧ Aside0 (wc.heap[gb214]? = some (.cells #[.int .i64 t211, .int .i64 t212] 23 (0, 0))) ∧ Aside0 (wc.heap[gb218]? = some (.cells #[.int .i64 t215, .int .i64 t216, .int .i64 t217] 34 (0, 0))) ∧ Aside0 (wc.heap[gb224]? = some (.cells #[.int .i64 t219, .int .i64 t220, .int .i64 t221, .int .i64 t222] 25 (0, 0))) ∧ Aside0 (wc.heap[gb230]? = some (.cells #[.int .i64 t225, .int .i64 t226, .int .i64 t227, .int .i64 t228, .int .i64 t229] 38 (0, 0))) ∧ Aside0 (Below w.heap.size w wc))
          case first =>
            have H := HC47.out
            clear HC47
            replace H := Option.bind_eq_some_iff.mp H
            obtain ⟨t231, A870, H⟩ := H
            replace H : (if t231 = true then (if (t211 == t215 && (t212 == t216)) = true then (if t213 = t217 then (if (t219 == t225 && ((t220 == t226 && (t221 == t227)) && (t222 == t228))) = true then (weirgatelaw05_ClockReadsAsSpecified.j1 kj5 (t223 == t229)) else (weirgatelaw05_ClockReadsAsSpecified.j1 kj5 false)) else (weirgatelaw05_ClockReadsAsSpecified.j1 kj5 false)) else (weirgatelaw05_ClockReadsAsSpecified.j1 kj5 false)) else (weirgatelaw05_ClockReadsAsSpecified.j1 kj5 false)) = some r := H
            have A87 := Aside0.mk A870
            clear A870
            by_cases c88 : t231 = true
            · subst c88
              have H1 : (if (t211 == t215 && (t212 == t216)) = true then (if t213 = t217 then (if (t219 == t225 && ((t220 == t226 && (t221 == t227)) && (t222 == t228))) = true then (weirgatelaw05_ClockReadsAsSpecified.j1 kj5 (t223 == t229)) else (weirgatelaw05_ClockReadsAsSpecified.j1 kj5 false)) else (weirgatelaw05_ClockReadsAsSpecified.j1 kj5 false)) else (weirgatelaw05_ClockReadsAsSpecified.j1 kj5 false)) = some r := by rw [if_pos rfl] at H; exact H
              clear H
              have H := H1
              clear H1
              by_cases c89 : (t211 == t215 && (t212 == t216)) = true
              · rw [if_pos c89] at H
                have c89b0 : (t211 == t215 && (t212 == t216)) = true := c89
                (try (have c89b1 : decide (t211 = t215 && (t212 == t216)) = true := by simpa using c89))
                (try (have c89b2 : (t211 == t215 && (t212 == t216)) = true := by simpa using c89))
                clear c89
                (first | rw [c89b0] | (simp only [i64_w, i32_w]; rw [c89b0]) | skip)
                by_cases c90 : t213 = t217
                · rw [if_pos c90] at H
                  have c90b0 : (t213 == t217) = true := beq_iff_eq.mpr c90
                  have c90b1 : (t213 != t217) = false := bne_eq_false_iff_eq.mpr c90
                  clear c90
                  by_cases c91 : (t219 == t225 && ((t220 == t226 && (t221 == t227)) && (t222 == t228))) = true
                  · rw [if_pos c91] at H
                    have c91b0 : (t219 == t225 && ((t220 == t226 && (t221 == t227)) && (t222 == t228))) = true := c91
                    (try (have c91b1 : decide (t219 = t225 && ((t220 == t226 && (t221 == t227)) && (t222 == t228))) = true := by simpa using c91))
                    (try (have c91b2 : (t219 == t225 && ((t220 == t226 && (t221 == t227)) && (t222 == t228))) = true := by simpa using c91))
                    clear c91
                    have H' := Aside0.mk H
                    clear H
                    go_wp2_with (first | ((with_reducible refine gate_callee (f := 13) rfl ?_); refine goesL_ (some 74) rfl rfl Try.func13 (by kernel_rfl) rfl #[] rfl (by (try simp only [List.map_toArray, List.map_cons, List.map_nil]); first | done | rfl | (simp only [List.length_drop, List.length_take]; rfl)) ?_; (with_reducible refine (weirgatelaw05_sanity.calls kj5  true _ A87.out).mono ?_); rintro e w92 ⟨rfl, hb⟩; refine ⟨_, rfl, ?_⟩; have n0_ := Aside0.mk (blk_below (g := gb200) (o := .cells #[.int .i64 a0_0, .int .i64 a0_1, .int .i64 a0_2, .int .i64 a0_3] 25 (0, 0)) (by refine pk ?_; refine blk_far ?_ NB200_230.out _; refine pk ?_; refine blk_far ?_ NB200_230.out _; refine pk ?_; refine blk_far ?_ NB200_230.out _; refine pk ?_; refine blk_far ?_ NB200_230.out _; refine pk ?_; refine blk_far ?_ NB200_230.out _; refine pk ?_; exact BK200.out) hb); have n1_ := Aside0.mk (blk_below (g := gb201) (o := .cells #[.int .i64 a2_0, .int .i64 a2_1] 23 (0, 0)) (by refine pk ?_; refine blk_far ?_ NB201_230.out _; refine pk ?_; refine blk_far ?_ NB201_230.out _; refine pk ?_; refine blk_far ?_ NB201_230.out _; refine pk ?_; refine blk_far ?_ NB201_230.out _; refine pk ?_; refine blk_far ?_ NB201_230.out _; refine pk ?_; exact BK201.out) hb); have n2_ := Aside0.mk (blk_below (g := gb207) (o := .cells #[.int .i64 t202, .int .i64 t203, .int .i64 t204, .int .i64 t205] 25 (0, 0)) (by refine pk ?_; refine blk_far ?_ NB207_230.out _; refine pk ?_; refine blk_far ?_ NB207_230.out _; refine pk ?_; refine blk_far ?_ NB207_230.out _; refine pk ?_; refine blk_far ?_ NB207_230.out _; refine pk ?_; refine blk_far ?_ NB207_230.out _; refine pk ?_; exact BK207.out) hb); have n3_ := Aside0.mk (blk_below (g := gb214) (o := .cells #[.int .i64 t211, .int .i64 t212] 23 (0, 0)) (by refine pk ?_; refine blk_far ?_ NB214_230.out _; refine pk ?_; refine blk_far ?_ NB214_230.out _; refine pk ?_; refine blk_far ?_ NB214_230.out _; refine pk ?_; refine blk_far ?_ NB214_230.out _; refine pk ?_; refine blk_far ?_ NB214_230.out _; refine pk ?_; exact BK214.out) hb); have n4_ := Aside0.mk (blk_below (g := gb218) (o := .cells #[.int .i64 t215, .int .i64 t216, .int .i64 t217] 34 (0, 0)) (by refine pk ?_; refine blk_far ?_ NB218_230.out _; refine pk ?_; refine blk_far ?_ NB218_230.out _; refine pk ?_; refine blk_far ?_ NB218_230.out _; refine pk ?_; refine blk_far ?_ NB218_230.out _; refine pk ?_; refine blk_far ?_ NB218_230.out _; refine pk ?_; exact BK218.out) hb); have n5_ := Aside0.mk (blk_below (g := gb224) (o := .cells #[.int .i64 t219, .int .i64 t220, .int .i64 t221, .int .i64 t222] 25 (0, 0)) (by refine pk ?_; refine blk_far ?_ NB224_230.out _; refine pk ?_; refine blk_far ?_ NB224_230.out _; refine pk ?_; refine blk_far ?_ NB224_230.out _; refine pk ?_; refine blk_far ?_ NB224_230.out _; refine pk ?_; refine blk_far ?_ NB224_230.out _; refine pk ?_; exact BK224.out) hb); have n6_ := Aside0.mk (blk_below (g := gb230) (o := .cells #[.int .i64 t225, .int .i64 t226, .int .i64 t227, .int .i64 t228, .int .i64 t229] 38 (0, 0)) (by refine pk ?_; refine blk_put (cs := #[.int .i64 t225, .int .i64 t226, .int .i64 t227, .int .i64 t228, .int .i64 0]) ?_ 4 _ rfl; refine pk ?_; refine blk_put (cs := #[.int .i64 t225, .int .i64 t226, .int .i64 t227, .int .i64 0, .int .i64 0]) ?_ 3 _ rfl; refine pk ?_; refine blk_put (cs := #[.int .i64 t225, .int .i64 t226, .int .i64 0, .int .i64 0, .int .i64 0]) ?_ 2 _ rfl; refine pk ?_; refine blk_put (cs := #[.int .i64 t225, .int .i64 0, .int .i64 0, .int .i64 0, .int .i64 0]) ?_ 1 _ rfl; refine pk ?_; refine blk_put (cs := #[.int .i64 0, .int .i64 0, .int .i64 0, .int .i64 0, .int .i64 0]) ?_ 0 _ rfl; refine pk ?_; exact BK230.out) hb); have n7_ := Aside0.mk (below_step (bk HB.out) hb); clear BK200 BK201; clear BK207 BK214; clear BK218 BK224; clear BK230 HB; have BK200 := n0_; have BK201 := n1_; have BK207 := n2_; have BK214 := n3_; have BK218 := n4_; have BK224 := n5_; have BK230 := n6_; have HB := n7_; clear n0_ n1_ n2_ n3_ n4_ n5_ n6_ n7_; (try clear hb); (try clear hb2); (try clear hk); (try clear hi); have hnb93 := NB214_200.out; have hnc93 := NB200_214.out; have hnb94 := NB214_201.out; have hnc94 := NB201_214.out; have hnb95 := NB214_207.out; have hnc95 := NB207_214.out; have hnb96 := NB214_218.out; have hnc96 := NB218_214.out; have hnb97 := NB214_224.out; have hnc97 := NB224_214.out; have hnb98 := NB214_230.out; have hnc98 := NB230_214.out; have hcz99_0 : w92.cell? ⟨gb214, 0, none⟩ = some (.int .i64 t211) := (blk_cell BK214.out 0).trans rfl; have hcz99_1 : w92.cell? ⟨gb214, 1, none⟩ = some (.int .i64 t212) := (blk_cell BK214.out 1).trans rfl; have hfz99_0 := blk_frozen BK214.out 0; have hfz99_1 := blk_frozen BK214.out 1; have hnb100 := NB218_200.out; have hnc100 := NB200_218.out; have hnb101 := NB218_201.out; have hnc101 := NB201_218.out; have hnb102 := NB218_207.out; have hnc102 := NB207_218.out; have hnb103 := NB218_224.out; have hnc103 := NB224_218.out; have hnb104 := NB218_230.out; have hnc104 := NB230_218.out; have hcz105_0 : w92.cell? ⟨gb218, 0, none⟩ = some (.int .i64 t215) := (blk_cell BK218.out 0).trans rfl; have hcz105_1 : w92.cell? ⟨gb218, 1, none⟩ = some (.int .i64 t216) := (blk_cell BK218.out 1).trans rfl; have hcz105_2 : w92.cell? ⟨gb218, 2, none⟩ = some (.int .i64 t217) := (blk_cell BK218.out 2).trans rfl; have hfz105_0 := blk_frozen BK218.out 0; have hfz105_1 := blk_frozen BK218.out 1; have hfz105_2 := blk_frozen BK218.out 2; have hnb106 := NB224_200.out; have hnc106 := NB200_224.out; have hnb107 := NB224_201.out; have hnc107 := NB201_224.out; have hnb108 := NB224_207.out; have hnc108 := NB207_224.out; have hnb109 := NB224_230.out; have hnc109 := NB230_224.out; have hcz110_0 : w92.cell? ⟨gb224, 0, none⟩ = some (.int .i64 t219) := (blk_cell BK224.out 0).trans rfl; have hcz110_1 : w92.cell? ⟨gb224, 1, none⟩ = some (.int .i64 t220) := (blk_cell BK224.out 1).trans rfl; have hcz110_2 : w92.cell? ⟨gb224, 2, none⟩ = some (.int .i64 t221) := (blk_cell BK224.out 2).trans rfl; have hcz110_3 : w92.cell? ⟨gb224, 3, none⟩ = some (.int .i64 t222) := (blk_cell BK224.out 3).trans rfl; have hfz110_0 := blk_frozen BK224.out 0; have hfz110_1 := blk_frozen BK224.out 1; have hfz110_2 := blk_frozen BK224.out 2; have hfz110_3 := blk_frozen BK224.out 3; have hnb111 := NB230_200.out; have hnc111 := NB200_230.out; have hnb112 := NB230_201.out; have hnc112 := NB201_230.out; have hnb113 := NB230_207.out; have hnc113 := NB207_230.out; have hcz114_0 : w92.cell? ⟨gb230, 0, none⟩ = some (.int .i64 t225) := (blk_cell BK230.out 0).trans rfl; have hcz114_1 : w92.cell? ⟨gb230, 1, none⟩ = some (.int .i64 t226) := (blk_cell BK230.out 1).trans rfl; have hcz114_2 : w92.cell? ⟨gb230, 2, none⟩ = some (.int .i64 t227) := (blk_cell BK230.out 2).trans rfl; have hcz114_3 : w92.cell? ⟨gb230, 3, none⟩ = some (.int .i64 t228) := (blk_cell BK230.out 3).trans rfl; have hcz114_4 : w92.cell? ⟨gb230, 4, none⟩ = some (.int .i64 t229) := (blk_cell BK230.out 4).trans rfl; have hfz114_0 := blk_frozen BK230.out 0; have hfz114_1 := blk_frozen BK230.out 1; have hfz114_2 := blk_frozen BK230.out 2; have hfz114_3 := blk_frozen BK230.out 3; have hfz114_4 := blk_frozen BK230.out 4))
                    go_meet
                    case rel => exact ⟨_, ((t223 == t229)), (by first | rfl | (simp; done) | (simp [*]; done) | (simp only [show ∀ p : Prop, Aside0 p = p from fun p => propext ⟨Aside0.out, Aside0.mk⟩] at *; simp_all; done)), H', ⟨by have := HJ5.out; first | omega | exact Nat.le_refl _⟩, ⟨pk BK200.out⟩, ⟨pk BK201.out⟩, ⟨pk BK207.out⟩, ⟨pk BK214.out⟩, ⟨pk BK218.out⟩, ⟨pk BK224.out⟩, ⟨pk BK230.out⟩, ⟨bk HB.out⟩⟩
                  · rw [if_neg c91] at H
                    have c91b0 : (t219 == t225 && ((t220 == t226 && (t221 == t227)) && (t222 == t228))) = false := by simpa using c91
                    (try (have c91b1 : decide (t219 = t225 && ((t220 == t226 && (t221 == t227)) && (t222 == t228))) = false := by simpa using c91))
                    (try (have c91b2 : (t219 == t225 && ((t220 == t226 && (t221 == t227)) && (t222 == t228))) = false := by simpa using c91))
                    (try (have c91b3 : ¬ (t219 = t225 && ((t220 == t226 && (t221 == t227)) && (t222 == t228))) := by simpa using c91))
                    clear c91
                    have H' := Aside0.mk H
                    clear H
                    go_wp2_with (first | ((with_reducible refine gate_callee (f := 13) rfl ?_); refine goesL_ (some 74) rfl rfl Try.func13 (by kernel_rfl) rfl #[] rfl (by (try simp only [List.map_toArray, List.map_cons, List.map_nil]); first | done | rfl | (simp only [List.length_drop, List.length_take]; rfl)) ?_; (with_reducible refine (weirgatelaw05_sanity.calls kj5  true _ A87.out).mono ?_); rintro e w115 ⟨rfl, hb⟩; refine ⟨_, rfl, ?_⟩; have n0_ := Aside0.mk (blk_below (g := gb200) (o := .cells #[.int .i64 a0_0, .int .i64 a0_1, .int .i64 a0_2, .int .i64 a0_3] 25 (0, 0)) (by refine pk ?_; refine blk_far ?_ NB200_230.out _; refine pk ?_; refine blk_far ?_ NB200_230.out _; refine pk ?_; refine blk_far ?_ NB200_230.out _; refine pk ?_; refine blk_far ?_ NB200_230.out _; refine pk ?_; refine blk_far ?_ NB200_230.out _; refine pk ?_; exact BK200.out) hb); have n1_ := Aside0.mk (blk_below (g := gb201) (o := .cells #[.int .i64 a2_0, .int .i64 a2_1] 23 (0, 0)) (by refine pk ?_; refine blk_far ?_ NB201_230.out _; refine pk ?_; refine blk_far ?_ NB201_230.out _; refine pk ?_; refine blk_far ?_ NB201_230.out _; refine pk ?_; refine blk_far ?_ NB201_230.out _; refine pk ?_; refine blk_far ?_ NB201_230.out _; refine pk ?_; exact BK201.out) hb); have n2_ := Aside0.mk (blk_below (g := gb207) (o := .cells #[.int .i64 t202, .int .i64 t203, .int .i64 t204, .int .i64 t205] 25 (0, 0)) (by refine pk ?_; refine blk_far ?_ NB207_230.out _; refine pk ?_; refine blk_far ?_ NB207_230.out _; refine pk ?_; refine blk_far ?_ NB207_230.out _; refine pk ?_; refine blk_far ?_ NB207_230.out _; refine pk ?_; refine blk_far ?_ NB207_230.out _; refine pk ?_; exact BK207.out) hb); have n3_ := Aside0.mk (blk_below (g := gb214) (o := .cells #[.int .i64 t211, .int .i64 t212] 23 (0, 0)) (by refine pk ?_; refine blk_far ?_ NB214_230.out _; refine pk ?_; refine blk_far ?_ NB214_230.out _; refine pk ?_; refine blk_far ?_ NB214_230.out _; refine pk ?_; refine blk_far ?_ NB214_230.out _; refine pk ?_; refine blk_far ?_ NB214_230.out _; refine pk ?_; exact BK214.out) hb); have n4_ := Aside0.mk (blk_below (g := gb218) (o := .cells #[.int .i64 t215, .int .i64 t216, .int .i64 t217] 34 (0, 0)) (by refine pk ?_; refine blk_far ?_ NB218_230.out _; refine pk ?_; refine blk_far ?_ NB218_230.out _; refine pk ?_; refine blk_far ?_ NB218_230.out _; refine pk ?_; refine blk_far ?_ NB218_230.out _; refine pk ?_; refine blk_far ?_ NB218_230.out _; refine pk ?_; exact BK218.out) hb); have n5_ := Aside0.mk (blk_below (g := gb224) (o := .cells #[.int .i64 t219, .int .i64 t220, .int .i64 t221, .int .i64 t222] 25 (0, 0)) (by refine pk ?_; refine blk_far ?_ NB224_230.out _; refine pk ?_; refine blk_far ?_ NB224_230.out _; refine pk ?_; refine blk_far ?_ NB224_230.out _; refine pk ?_; refine blk_far ?_ NB224_230.out _; refine pk ?_; refine blk_far ?_ NB224_230.out _; refine pk ?_; exact BK224.out) hb); have n6_ := Aside0.mk (blk_below (g := gb230) (o := .cells #[.int .i64 t225, .int .i64 t226, .int .i64 t227, .int .i64 t228, .int .i64 t229] 38 (0, 0)) (by refine pk ?_; refine blk_put (cs := #[.int .i64 t225, .int .i64 t226, .int .i64 t227, .int .i64 t228, .int .i64 0]) ?_ 4 _ rfl; refine pk ?_; refine blk_put (cs := #[.int .i64 t225, .int .i64 t226, .int .i64 t227, .int .i64 0, .int .i64 0]) ?_ 3 _ rfl; refine pk ?_; refine blk_put (cs := #[.int .i64 t225, .int .i64 t226, .int .i64 0, .int .i64 0, .int .i64 0]) ?_ 2 _ rfl; refine pk ?_; refine blk_put (cs := #[.int .i64 t225, .int .i64 0, .int .i64 0, .int .i64 0, .int .i64 0]) ?_ 1 _ rfl; refine pk ?_; refine blk_put (cs := #[.int .i64 0, .int .i64 0, .int .i64 0, .int .i64 0, .int .i64 0]) ?_ 0 _ rfl; refine pk ?_; exact BK230.out) hb); have n7_ := Aside0.mk (below_step (bk HB.out) hb); clear BK200 BK201; clear BK207 BK214; clear BK218 BK224; clear BK230 HB; have BK200 := n0_; have BK201 := n1_; have BK207 := n2_; have BK214 := n3_; have BK218 := n4_; have BK224 := n5_; have BK230 := n6_; have HB := n7_; clear n0_ n1_ n2_ n3_ n4_ n5_ n6_ n7_; (try clear hb); (try clear hb2); (try clear hk); (try clear hi); have hnb116 := NB214_200.out; have hnc116 := NB200_214.out; have hnb117 := NB214_201.out; have hnc117 := NB201_214.out; have hnb118 := NB214_207.out; have hnc118 := NB207_214.out; have hnb119 := NB214_218.out; have hnc119 := NB218_214.out; have hnb120 := NB214_224.out; have hnc120 := NB224_214.out; have hnb121 := NB214_230.out; have hnc121 := NB230_214.out; have hcz122_0 : w115.cell? ⟨gb214, 0, none⟩ = some (.int .i64 t211) := (blk_cell BK214.out 0).trans rfl; have hcz122_1 : w115.cell? ⟨gb214, 1, none⟩ = some (.int .i64 t212) := (blk_cell BK214.out 1).trans rfl; have hfz122_0 := blk_frozen BK214.out 0; have hfz122_1 := blk_frozen BK214.out 1; have hnb123 := NB218_200.out; have hnc123 := NB200_218.out; have hnb124 := NB218_201.out; have hnc124 := NB201_218.out; have hnb125 := NB218_207.out; have hnc125 := NB207_218.out; have hnb126 := NB218_224.out; have hnc126 := NB224_218.out; have hnb127 := NB218_230.out; have hnc127 := NB230_218.out; have hcz128_0 : w115.cell? ⟨gb218, 0, none⟩ = some (.int .i64 t215) := (blk_cell BK218.out 0).trans rfl; have hcz128_1 : w115.cell? ⟨gb218, 1, none⟩ = some (.int .i64 t216) := (blk_cell BK218.out 1).trans rfl; have hcz128_2 : w115.cell? ⟨gb218, 2, none⟩ = some (.int .i64 t217) := (blk_cell BK218.out 2).trans rfl; have hfz128_0 := blk_frozen BK218.out 0; have hfz128_1 := blk_frozen BK218.out 1; have hfz128_2 := blk_frozen BK218.out 2; have hnb129 := NB224_200.out; have hnc129 := NB200_224.out; have hnb130 := NB224_201.out; have hnc130 := NB201_224.out; have hnb131 := NB224_207.out; have hnc131 := NB207_224.out; have hnb132 := NB224_230.out; have hnc132 := NB230_224.out; have hcz133_0 : w115.cell? ⟨gb224, 0, none⟩ = some (.int .i64 t219) := (blk_cell BK224.out 0).trans rfl; have hcz133_1 : w115.cell? ⟨gb224, 1, none⟩ = some (.int .i64 t220) := (blk_cell BK224.out 1).trans rfl; have hcz133_2 : w115.cell? ⟨gb224, 2, none⟩ = some (.int .i64 t221) := (blk_cell BK224.out 2).trans rfl; have hcz133_3 : w115.cell? ⟨gb224, 3, none⟩ = some (.int .i64 t222) := (blk_cell BK224.out 3).trans rfl; have hfz133_0 := blk_frozen BK224.out 0; have hfz133_1 := blk_frozen BK224.out 1; have hfz133_2 := blk_frozen BK224.out 2; have hfz133_3 := blk_frozen BK224.out 3; have hnb134 := NB230_200.out; have hnc134 := NB200_230.out; have hnb135 := NB230_201.out; have hnc135 := NB201_230.out; have hnb136 := NB230_207.out; have hnc136 := NB207_230.out; have hcz137_0 : w115.cell? ⟨gb230, 0, none⟩ = some (.int .i64 t225) := (blk_cell BK230.out 0).trans rfl; have hcz137_1 : w115.cell? ⟨gb230, 1, none⟩ = some (.int .i64 t226) := (blk_cell BK230.out 1).trans rfl; have hcz137_2 : w115.cell? ⟨gb230, 2, none⟩ = some (.int .i64 t227) := (blk_cell BK230.out 2).trans rfl; have hcz137_3 : w115.cell? ⟨gb230, 3, none⟩ = some (.int .i64 t228) := (blk_cell BK230.out 3).trans rfl; have hcz137_4 : w115.cell? ⟨gb230, 4, none⟩ = some (.int .i64 t229) := (blk_cell BK230.out 4).trans rfl; have hfz137_0 := blk_frozen BK230.out 0; have hfz137_1 := blk_frozen BK230.out 1; have hfz137_2 := blk_frozen BK230.out 2; have hfz137_3 := blk_frozen BK230.out 3; have hfz137_4 := blk_frozen BK230.out 4))
                    go_meet
                    case rel => exact ⟨_, (false), (by first | rfl | (simp; done) | (simp [*]; done) | (simp only [show ∀ p : Prop, Aside0 p = p from fun p => propext ⟨Aside0.out, Aside0.mk⟩] at *; simp_all; done)), H', ⟨by have := HJ5.out; first | omega | exact Nat.le_refl _⟩, ⟨pk BK200.out⟩, ⟨pk BK201.out⟩, ⟨pk BK207.out⟩, ⟨pk BK214.out⟩, ⟨pk BK218.out⟩, ⟨pk BK224.out⟩, ⟨pk BK230.out⟩, ⟨bk HB.out⟩⟩
                · rw [if_neg c90] at H
                  have c90b0 : (t213 == t217) = false := beq_eq_false_iff_ne.mpr c90
                  have c90b1 : (t213 != t217) = true := bne_iff_ne.mpr c90
                  have H' := Aside0.mk H
                  clear H
                  go_wp2_with (first | ((with_reducible refine gate_callee (f := 13) rfl ?_); refine goesL_ (some 74) rfl rfl Try.func13 (by kernel_rfl) rfl #[] rfl (by (try simp only [List.map_toArray, List.map_cons, List.map_nil]); first | done | rfl | (simp only [List.length_drop, List.length_take]; rfl)) ?_; (with_reducible refine (weirgatelaw05_sanity.calls kj5  true _ A87.out).mono ?_); rintro e w138 ⟨rfl, hb⟩; refine ⟨_, rfl, ?_⟩; have n0_ := Aside0.mk (blk_below (g := gb200) (o := .cells #[.int .i64 a0_0, .int .i64 a0_1, .int .i64 a0_2, .int .i64 a0_3] 25 (0, 0)) (by refine pk ?_; refine blk_far ?_ NB200_230.out _; refine pk ?_; refine blk_far ?_ NB200_230.out _; refine pk ?_; refine blk_far ?_ NB200_230.out _; refine pk ?_; refine blk_far ?_ NB200_230.out _; refine pk ?_; refine blk_far ?_ NB200_230.out _; refine pk ?_; exact BK200.out) hb); have n1_ := Aside0.mk (blk_below (g := gb201) (o := .cells #[.int .i64 a2_0, .int .i64 a2_1] 23 (0, 0)) (by refine pk ?_; refine blk_far ?_ NB201_230.out _; refine pk ?_; refine blk_far ?_ NB201_230.out _; refine pk ?_; refine blk_far ?_ NB201_230.out _; refine pk ?_; refine blk_far ?_ NB201_230.out _; refine pk ?_; refine blk_far ?_ NB201_230.out _; refine pk ?_; exact BK201.out) hb); have n2_ := Aside0.mk (blk_below (g := gb207) (o := .cells #[.int .i64 t202, .int .i64 t203, .int .i64 t204, .int .i64 t205] 25 (0, 0)) (by refine pk ?_; refine blk_far ?_ NB207_230.out _; refine pk ?_; refine blk_far ?_ NB207_230.out _; refine pk ?_; refine blk_far ?_ NB207_230.out _; refine pk ?_; refine blk_far ?_ NB207_230.out _; refine pk ?_; refine blk_far ?_ NB207_230.out _; refine pk ?_; exact BK207.out) hb); have n3_ := Aside0.mk (blk_below (g := gb214) (o := .cells #[.int .i64 t211, .int .i64 t212] 23 (0, 0)) (by refine pk ?_; refine blk_far ?_ NB214_230.out _; refine pk ?_; refine blk_far ?_ NB214_230.out _; refine pk ?_; refine blk_far ?_ NB214_230.out _; refine pk ?_; refine blk_far ?_ NB214_230.out _; refine pk ?_; refine blk_far ?_ NB214_230.out _; refine pk ?_; exact BK214.out) hb); have n4_ := Aside0.mk (blk_below (g := gb218) (o := .cells #[.int .i64 t215, .int .i64 t216, .int .i64 t217] 34 (0, 0)) (by refine pk ?_; refine blk_far ?_ NB218_230.out _; refine pk ?_; refine blk_far ?_ NB218_230.out _; refine pk ?_; refine blk_far ?_ NB218_230.out _; refine pk ?_; refine blk_far ?_ NB218_230.out _; refine pk ?_; refine blk_far ?_ NB218_230.out _; refine pk ?_; exact BK218.out) hb); have n5_ := Aside0.mk (blk_below (g := gb224) (o := .cells #[.int .i64 t219, .int .i64 t220, .int .i64 t221, .int .i64 t222] 25 (0, 0)) (by refine pk ?_; refine blk_far ?_ NB224_230.out _; refine pk ?_; refine blk_far ?_ NB224_230.out _; refine pk ?_; refine blk_far ?_ NB224_230.out _; refine pk ?_; refine blk_far ?_ NB224_230.out _; refine pk ?_; refine blk_far ?_ NB224_230.out _; refine pk ?_; exact BK224.out) hb); have n6_ := Aside0.mk (blk_below (g := gb230) (o := .cells #[.int .i64 t225, .int .i64 t226, .int .i64 t227, .int .i64 t228, .int .i64 t229] 38 (0, 0)) (by refine pk ?_; refine blk_put (cs := #[.int .i64 t225, .int .i64 t226, .int .i64 t227, .int .i64 t228, .int .i64 0]) ?_ 4 _ rfl; refine pk ?_; refine blk_put (cs := #[.int .i64 t225, .int .i64 t226, .int .i64 t227, .int .i64 0, .int .i64 0]) ?_ 3 _ rfl; refine pk ?_; refine blk_put (cs := #[.int .i64 t225, .int .i64 t226, .int .i64 0, .int .i64 0, .int .i64 0]) ?_ 2 _ rfl; refine pk ?_; refine blk_put (cs := #[.int .i64 t225, .int .i64 0, .int .i64 0, .int .i64 0, .int .i64 0]) ?_ 1 _ rfl; refine pk ?_; refine blk_put (cs := #[.int .i64 0, .int .i64 0, .int .i64 0, .int .i64 0, .int .i64 0]) ?_ 0 _ rfl; refine pk ?_; exact BK230.out) hb); have n7_ := Aside0.mk (below_step (bk HB.out) hb); clear BK200 BK201; clear BK207 BK214; clear BK218 BK224; clear BK230 HB; have BK200 := n0_; have BK201 := n1_; have BK207 := n2_; have BK214 := n3_; have BK218 := n4_; have BK224 := n5_; have BK230 := n6_; have HB := n7_; clear n0_ n1_ n2_ n3_ n4_ n5_ n6_ n7_; (try clear hb); (try clear hb2); (try clear hk); (try clear hi); have hnb139 := NB214_200.out; have hnc139 := NB200_214.out; have hnb140 := NB214_201.out; have hnc140 := NB201_214.out; have hnb141 := NB214_207.out; have hnc141 := NB207_214.out; have hnb142 := NB214_218.out; have hnc142 := NB218_214.out; have hnb143 := NB214_224.out; have hnc143 := NB224_214.out; have hnb144 := NB214_230.out; have hnc144 := NB230_214.out; have hcz145_0 : w138.cell? ⟨gb214, 0, none⟩ = some (.int .i64 t211) := (blk_cell BK214.out 0).trans rfl; have hcz145_1 : w138.cell? ⟨gb214, 1, none⟩ = some (.int .i64 t212) := (blk_cell BK214.out 1).trans rfl; have hfz145_0 := blk_frozen BK214.out 0; have hfz145_1 := blk_frozen BK214.out 1; have hnb146 := NB218_200.out; have hnc146 := NB200_218.out; have hnb147 := NB218_201.out; have hnc147 := NB201_218.out; have hnb148 := NB218_207.out; have hnc148 := NB207_218.out; have hnb149 := NB218_224.out; have hnc149 := NB224_218.out; have hnb150 := NB218_230.out; have hnc150 := NB230_218.out; have hcz151_0 : w138.cell? ⟨gb218, 0, none⟩ = some (.int .i64 t215) := (blk_cell BK218.out 0).trans rfl; have hcz151_1 : w138.cell? ⟨gb218, 1, none⟩ = some (.int .i64 t216) := (blk_cell BK218.out 1).trans rfl; have hcz151_2 : w138.cell? ⟨gb218, 2, none⟩ = some (.int .i64 t217) := (blk_cell BK218.out 2).trans rfl; have hfz151_0 := blk_frozen BK218.out 0; have hfz151_1 := blk_frozen BK218.out 1; have hfz151_2 := blk_frozen BK218.out 2))
                  go_meet
                  case rel => exact ⟨_, (false), (by first | rfl | (simp; done) | (simp [*]; done) | (simp only [show ∀ p : Prop, Aside0 p = p from fun p => propext ⟨Aside0.out, Aside0.mk⟩] at *; simp_all; done)), H', ⟨by have := HJ5.out; first | omega | exact Nat.le_refl _⟩, ⟨pk BK200.out⟩, ⟨pk BK201.out⟩, ⟨pk BK207.out⟩, ⟨pk BK214.out⟩, ⟨pk BK218.out⟩, ⟨pk BK224.out⟩, ⟨pk BK230.out⟩, ⟨bk HB.out⟩⟩
              · rw [if_neg c89] at H
                have c89b0 : (t211 == t215 && (t212 == t216)) = false := by simpa using c89
                (try (have c89b1 : decide (t211 = t215 && (t212 == t216)) = false := by simpa using c89))
                (try (have c89b2 : (t211 == t215 && (t212 == t216)) = false := by simpa using c89))
                (try (have c89b3 : ¬ (t211 = t215 && (t212 == t216)) := by simpa using c89))
                clear c89
                (first | rw [c89b0] | (simp only [i64_w, i32_w]; rw [c89b0]) | skip)
                have H' := Aside0.mk H
                clear H
                go_wp2_with (first | ((with_reducible refine gate_callee (f := 13) rfl ?_); refine goesL_ (some 74) rfl rfl Try.func13 (by kernel_rfl) rfl #[] rfl (by (try simp only [List.map_toArray, List.map_cons, List.map_nil]); first | done | rfl | (simp only [List.length_drop, List.length_take]; rfl)) ?_; (with_reducible refine (weirgatelaw05_sanity.calls kj5  true _ A87.out).mono ?_); rintro e w152 ⟨rfl, hb⟩; refine ⟨_, rfl, ?_⟩; have n0_ := Aside0.mk (blk_below (g := gb200) (o := .cells #[.int .i64 a0_0, .int .i64 a0_1, .int .i64 a0_2, .int .i64 a0_3] 25 (0, 0)) (by refine pk ?_; refine blk_far ?_ NB200_230.out _; refine pk ?_; refine blk_far ?_ NB200_230.out _; refine pk ?_; refine blk_far ?_ NB200_230.out _; refine pk ?_; refine blk_far ?_ NB200_230.out _; refine pk ?_; refine blk_far ?_ NB200_230.out _; refine pk ?_; exact BK200.out) hb); have n1_ := Aside0.mk (blk_below (g := gb201) (o := .cells #[.int .i64 a2_0, .int .i64 a2_1] 23 (0, 0)) (by refine pk ?_; refine blk_far ?_ NB201_230.out _; refine pk ?_; refine blk_far ?_ NB201_230.out _; refine pk ?_; refine blk_far ?_ NB201_230.out _; refine pk ?_; refine blk_far ?_ NB201_230.out _; refine pk ?_; refine blk_far ?_ NB201_230.out _; refine pk ?_; exact BK201.out) hb); have n2_ := Aside0.mk (blk_below (g := gb207) (o := .cells #[.int .i64 t202, .int .i64 t203, .int .i64 t204, .int .i64 t205] 25 (0, 0)) (by refine pk ?_; refine blk_far ?_ NB207_230.out _; refine pk ?_; refine blk_far ?_ NB207_230.out _; refine pk ?_; refine blk_far ?_ NB207_230.out _; refine pk ?_; refine blk_far ?_ NB207_230.out _; refine pk ?_; refine blk_far ?_ NB207_230.out _; refine pk ?_; exact BK207.out) hb); have n3_ := Aside0.mk (blk_below (g := gb214) (o := .cells #[.int .i64 t211, .int .i64 t212] 23 (0, 0)) (by refine pk ?_; refine blk_far ?_ NB214_230.out _; refine pk ?_; refine blk_far ?_ NB214_230.out _; refine pk ?_; refine blk_far ?_ NB214_230.out _; refine pk ?_; refine blk_far ?_ NB214_230.out _; refine pk ?_; refine blk_far ?_ NB214_230.out _; refine pk ?_; exact BK214.out) hb); have n4_ := Aside0.mk (blk_below (g := gb218) (o := .cells #[.int .i64 t215, .int .i64 t216, .int .i64 t217] 34 (0, 0)) (by refine pk ?_; refine blk_far ?_ NB218_230.out _; refine pk ?_; refine blk_far ?_ NB218_230.out _; refine pk ?_; refine blk_far ?_ NB218_230.out _; refine pk ?_; refine blk_far ?_ NB218_230.out _; refine pk ?_; refine blk_far ?_ NB218_230.out _; refine pk ?_; exact BK218.out) hb); have n5_ := Aside0.mk (blk_below (g := gb224) (o := .cells #[.int .i64 t219, .int .i64 t220, .int .i64 t221, .int .i64 t222] 25 (0, 0)) (by refine pk ?_; refine blk_far ?_ NB224_230.out _; refine pk ?_; refine blk_far ?_ NB224_230.out _; refine pk ?_; refine blk_far ?_ NB224_230.out _; refine pk ?_; refine blk_far ?_ NB224_230.out _; refine pk ?_; refine blk_far ?_ NB224_230.out _; refine pk ?_; exact BK224.out) hb); have n6_ := Aside0.mk (blk_below (g := gb230) (o := .cells #[.int .i64 t225, .int .i64 t226, .int .i64 t227, .int .i64 t228, .int .i64 t229] 38 (0, 0)) (by refine pk ?_; refine blk_put (cs := #[.int .i64 t225, .int .i64 t226, .int .i64 t227, .int .i64 t228, .int .i64 0]) ?_ 4 _ rfl; refine pk ?_; refine blk_put (cs := #[.int .i64 t225, .int .i64 t226, .int .i64 t227, .int .i64 0, .int .i64 0]) ?_ 3 _ rfl; refine pk ?_; refine blk_put (cs := #[.int .i64 t225, .int .i64 t226, .int .i64 0, .int .i64 0, .int .i64 0]) ?_ 2 _ rfl; refine pk ?_; refine blk_put (cs := #[.int .i64 t225, .int .i64 0, .int .i64 0, .int .i64 0, .int .i64 0]) ?_ 1 _ rfl; refine pk ?_; refine blk_put (cs := #[.int .i64 0, .int .i64 0, .int .i64 0, .int .i64 0, .int .i64 0]) ?_ 0 _ rfl; refine pk ?_; exact BK230.out) hb); have n7_ := Aside0.mk (below_step (bk HB.out) hb); clear BK200 BK201; clear BK207 BK214; clear BK218 BK224; clear BK230 HB; have BK200 := n0_; have BK201 := n1_; have BK207 := n2_; have BK214 := n3_; have BK218 := n4_; have BK224 := n5_; have BK230 := n6_; have HB := n7_; clear n0_ n1_ n2_ n3_ n4_ n5_ n6_ n7_; (try clear hb); (try clear hb2); (try clear hk); (try clear hi); have hnb153 := NB214_200.out; have hnc153 := NB200_214.out; have hnb154 := NB214_201.out; have hnc154 := NB201_214.out; have hnb155 := NB214_207.out; have hnc155 := NB207_214.out; have hnb156 := NB214_218.out; have hnc156 := NB218_214.out; have hnb157 := NB214_224.out; have hnc157 := NB224_214.out; have hnb158 := NB214_230.out; have hnc158 := NB230_214.out; have hcz159_0 : w152.cell? ⟨gb214, 0, none⟩ = some (.int .i64 t211) := (blk_cell BK214.out 0).trans rfl; have hcz159_1 : w152.cell? ⟨gb214, 1, none⟩ = some (.int .i64 t212) := (blk_cell BK214.out 1).trans rfl; have hfz159_0 := blk_frozen BK214.out 0; have hfz159_1 := blk_frozen BK214.out 1; have hnb160 := NB218_200.out; have hnc160 := NB200_218.out; have hnb161 := NB218_201.out; have hnc161 := NB201_218.out; have hnb162 := NB218_207.out; have hnc162 := NB207_218.out; have hnb163 := NB218_224.out; have hnc163 := NB224_218.out; have hnb164 := NB218_230.out; have hnc164 := NB230_218.out; have hcz165_0 : w152.cell? ⟨gb218, 0, none⟩ = some (.int .i64 t215) := (blk_cell BK218.out 0).trans rfl; have hcz165_1 : w152.cell? ⟨gb218, 1, none⟩ = some (.int .i64 t216) := (blk_cell BK218.out 1).trans rfl; have hcz165_2 : w152.cell? ⟨gb218, 2, none⟩ = some (.int .i64 t217) := (blk_cell BK218.out 2).trans rfl; have hfz165_0 := blk_frozen BK218.out 0; have hfz165_1 := blk_frozen BK218.out 1; have hfz165_2 := blk_frozen BK218.out 2))
                go_meet
                case rel => exact ⟨_, (false), (by first | rfl | (simp; done) | (simp [*]; done) | (simp only [show ∀ p : Prop, Aside0 p = p from fun p => propext ⟨Aside0.out, Aside0.mk⟩] at *; simp_all; done)), H', ⟨by have := HJ5.out; first | omega | exact Nat.le_refl _⟩, ⟨pk BK200.out⟩, ⟨pk BK201.out⟩, ⟨pk BK207.out⟩, ⟨pk BK214.out⟩, ⟨pk BK218.out⟩, ⟨pk BK224.out⟩, ⟨pk BK230.out⟩, ⟨bk HB.out⟩⟩
            · replace c88 := Bool.eq_false_iff.mpr c88
              subst c88
              have H1 : (weirgatelaw05_ClockReadsAsSpecified.j1 kj5 false) = some r := by rw [if_neg (show ¬ (false = true) by decide)] at H; exact H
              clear H
              have H := H1
              clear H1
              have H' := Aside0.mk H
              clear H
              go_wp2_with (first | ((with_reducible refine gate_callee (f := 13) rfl ?_); refine goesL_ (some 74) rfl rfl Try.func13 (by kernel_rfl) rfl #[] rfl (by (try simp only [List.map_toArray, List.map_cons, List.map_nil]); first | done | rfl | (simp only [List.length_drop, List.length_take]; rfl)) ?_; (with_reducible refine (weirgatelaw05_sanity.calls kj5  false _ A87.out).mono ?_); rintro e w166 ⟨rfl, hb⟩; refine ⟨_, rfl, ?_⟩; have n0_ := Aside0.mk (blk_below (g := gb200) (o := .cells #[.int .i64 a0_0, .int .i64 a0_1, .int .i64 a0_2, .int .i64 a0_3] 25 (0, 0)) (by refine pk ?_; refine blk_far ?_ NB200_230.out _; refine pk ?_; refine blk_far ?_ NB200_230.out _; refine pk ?_; refine blk_far ?_ NB200_230.out _; refine pk ?_; refine blk_far ?_ NB200_230.out _; refine pk ?_; refine blk_far ?_ NB200_230.out _; refine pk ?_; exact BK200.out) hb); have n1_ := Aside0.mk (blk_below (g := gb201) (o := .cells #[.int .i64 a2_0, .int .i64 a2_1] 23 (0, 0)) (by refine pk ?_; refine blk_far ?_ NB201_230.out _; refine pk ?_; refine blk_far ?_ NB201_230.out _; refine pk ?_; refine blk_far ?_ NB201_230.out _; refine pk ?_; refine blk_far ?_ NB201_230.out _; refine pk ?_; refine blk_far ?_ NB201_230.out _; refine pk ?_; exact BK201.out) hb); have n2_ := Aside0.mk (blk_below (g := gb207) (o := .cells #[.int .i64 t202, .int .i64 t203, .int .i64 t204, .int .i64 t205] 25 (0, 0)) (by refine pk ?_; refine blk_far ?_ NB207_230.out _; refine pk ?_; refine blk_far ?_ NB207_230.out _; refine pk ?_; refine blk_far ?_ NB207_230.out _; refine pk ?_; refine blk_far ?_ NB207_230.out _; refine pk ?_; refine blk_far ?_ NB207_230.out _; refine pk ?_; exact BK207.out) hb); have n3_ := Aside0.mk (blk_below (g := gb214) (o := .cells #[.int .i64 t211, .int .i64 t212] 23 (0, 0)) (by refine pk ?_; refine blk_far ?_ NB214_230.out _; refine pk ?_; refine blk_far ?_ NB214_230.out _; refine pk ?_; refine blk_far ?_ NB214_230.out _; refine pk ?_; refine blk_far ?_ NB214_230.out _; refine pk ?_; refine blk_far ?_ NB214_230.out _; refine pk ?_; exact BK214.out) hb); have n4_ := Aside0.mk (blk_below (g := gb218) (o := .cells #[.int .i64 t215, .int .i64 t216, .int .i64 t217] 34 (0, 0)) (by refine pk ?_; refine blk_far ?_ NB218_230.out _; refine pk ?_; refine blk_far ?_ NB218_230.out _; refine pk ?_; refine blk_far ?_ NB218_230.out _; refine pk ?_; refine blk_far ?_ NB218_230.out _; refine pk ?_; refine blk_far ?_ NB218_230.out _; refine pk ?_; exact BK218.out) hb); have n5_ := Aside0.mk (blk_below (g := gb224) (o := .cells #[.int .i64 t219, .int .i64 t220, .int .i64 t221, .int .i64 t222] 25 (0, 0)) (by refine pk ?_; refine blk_far ?_ NB224_230.out _; refine pk ?_; refine blk_far ?_ NB224_230.out _; refine pk ?_; refine blk_far ?_ NB224_230.out _; refine pk ?_; refine blk_far ?_ NB224_230.out _; refine pk ?_; refine blk_far ?_ NB224_230.out _; refine pk ?_; exact BK224.out) hb); have n6_ := Aside0.mk (blk_below (g := gb230) (o := .cells #[.int .i64 t225, .int .i64 t226, .int .i64 t227, .int .i64 t228, .int .i64 t229] 38 (0, 0)) (by refine pk ?_; refine blk_put (cs := #[.int .i64 t225, .int .i64 t226, .int .i64 t227, .int .i64 t228, .int .i64 0]) ?_ 4 _ rfl; refine pk ?_; refine blk_put (cs := #[.int .i64 t225, .int .i64 t226, .int .i64 t227, .int .i64 0, .int .i64 0]) ?_ 3 _ rfl; refine pk ?_; refine blk_put (cs := #[.int .i64 t225, .int .i64 t226, .int .i64 0, .int .i64 0, .int .i64 0]) ?_ 2 _ rfl; refine pk ?_; refine blk_put (cs := #[.int .i64 t225, .int .i64 0, .int .i64 0, .int .i64 0, .int .i64 0]) ?_ 1 _ rfl; refine pk ?_; refine blk_put (cs := #[.int .i64 0, .int .i64 0, .int .i64 0, .int .i64 0, .int .i64 0]) ?_ 0 _ rfl; refine pk ?_; exact BK230.out) hb); have n7_ := Aside0.mk (below_step (bk HB.out) hb); clear BK200 BK201; clear BK207 BK214; clear BK218 BK224; clear BK230 HB; have BK200 := n0_; have BK201 := n1_; have BK207 := n2_; have BK214 := n3_; have BK218 := n4_; have BK224 := n5_; have BK230 := n6_; have HB := n7_; clear n0_ n1_ n2_ n3_ n4_ n5_ n6_ n7_; (try clear hb); (try clear hb2); (try clear hk); (try clear hi)))
              go_meet
              case rel => exact ⟨_, (false), (by first | rfl | (simp; done) | (simp [*]; done) | (simp only [show ∀ p : Prop, Aside0 p = p from fun p => propext ⟨Aside0.out, Aside0.mk⟩] at *; simp_all; done)), H', ⟨by have := HJ5.out; first | omega | exact Nat.le_refl _⟩, ⟨pk BK200.out⟩, ⟨pk BK201.out⟩, ⟨pk BK207.out⟩, ⟨pk BK214.out⟩, ⟨pk BK218.out⟩, ⟨pk BK224.out⟩, ⟨pk BK230.out⟩, ⟨bk HB.out⟩⟩
          case rest =>
            clear HC47
            try clear c1
            try clear c2
            try clear p2
            try clear c3
            try clear c4
            try clear c5
            try clear c6
            try clear c7
            try clear c8
            try clear c9
            try clear c10
            try clear c11
            try clear c12
            try clear c13
            try clear c14
            try clear c15
            try clear c16
            try clear c17
            try clear c19
            try clear c19b0
            try clear c19b1
            try clear c20
            try clear c20b0
            try clear c20b1
            try clear c21
            try clear c21b0
            try clear c21b1
            try clear c22
            try clear c23
            try clear c26
            try clear c29
            try clear c30
            try clear c33
            try clear c34
            try clear c37
            try clear c38
            try clear c41
            try clear c42
            try clear c42b0
            try clear c42b1
            try clear c48
            try clear c49
            try clear c53
            try clear c54
            try clear c55
            try clear c60
            try clear c61
            try clear c62
            try clear c63
            try clear c66
            try clear c70
            try clear c71
            try clear c72
            try clear c73
            try clear c74
            try clear c80
            try clear c81
            try clear c82
            try clear c83
            try clear c84
            try clear c85
            try clear c88
            try clear c89
            try clear c89b0
            try clear c89b1
            try clear c89b2
            try clear c90
            try clear c90b0
            try clear c90b1
            try clear c91
            try clear c91b0
            try clear c91b1
            try clear c91b2
            try clear c93
            try clear c94
            try clear c95
            try clear c96
            try clear c97
            try clear c98
            try clear c100
            try clear c101
            try clear c102
            try clear c103
            try clear c104
            try clear c106
            try clear c107
            try clear c108
            try clear c109
            try clear c111
            try clear c112
            try clear c113
            try clear c116
            try clear c117
            try clear c118
            try clear c119
            try clear c120
            try clear c121
            try clear c123
            try clear c124
            try clear c125
            try clear c126
            try clear c127
            try clear c129
            try clear c130
            try clear c131
            try clear c132
            try clear c134
            try clear c135
            try clear c136
            try clear c139
            try clear c140
            try clear c141
            try clear c142
            try clear c143
            try clear c144
            try clear c146
            try clear c147
            try clear c148
            try clear c149
            try clear c150
            try clear c153
            try clear c154
            try clear c155
            try clear c156
            try clear c157
            try clear c158
            try clear c160
            try clear c161
            try clear c162
            try clear c163
            try clear c164
            try clear hcz105_0
            try clear hcz105_1
            try clear hcz105_2
            try clear hcz10_0
            try clear hcz10_1
            try clear hcz10_2
            try clear hcz10_3
            try clear hcz110_0
            try clear hcz110_1
            try clear hcz110_2
            try clear hcz110_3
            try clear hcz114_0
            try clear hcz114_1
            try clear hcz114_2
            try clear hcz114_3
            try clear hcz114_4
            try clear hcz122_0
            try clear hcz122_1
            try clear hcz128_0
            try clear hcz128_1
            try clear hcz128_2
            try clear hcz133_0
            try clear hcz133_1
            try clear hcz133_2
            try clear hcz133_3
            try clear hcz137_0
            try clear hcz137_1
            try clear hcz137_2
            try clear hcz137_3
            try clear hcz137_4
            try clear hcz145_0
            try clear hcz145_1
            try clear hcz151_0
            try clear hcz151_1
            try clear hcz151_2
            try clear hcz159_0
            try clear hcz159_1
            try clear hcz15_0
            try clear hcz15_1
            try clear hcz15_2
            try clear hcz15_3
            try clear hcz165_0
            try clear hcz165_1
            try clear hcz165_2
            try clear hcz16_0
            try clear hcz16_1
            try clear hcz16_2
            try clear hcz16_3
            try clear hcz24_0
            try clear hcz24_1
            try clear hcz24_2
            try clear hcz24_3
            try clear hcz27_0
            try clear hcz27_1
            try clear hcz27_2
            try clear hcz27_3
            try clear hcz28_0
            try clear hcz28_1
            try clear hcz28_2
            try clear hcz28_3
            try clear hcz31_0
            try clear hcz31_1
            try clear hcz31_2
            try clear hcz31_3
            try clear hcz35_0
            try clear hcz35_1
            try clear hcz35_2
            try clear hcz35_3
            try clear hcz39_0
            try clear hcz39_1
            try clear hcz39_2
            try clear hcz39_3
            try clear hcz50_0
            try clear hcz50_1
            try clear hcz50_2
            try clear hcz50_3
            try clear hcz56_0
            try clear hcz56_1
            try clear hcz57_0
            try clear hcz57_1
            try clear hcz57_2
            try clear hcz57_3
            try clear hcz64_0
            try clear hcz64_1
            try clear hcz64_2
            try clear hcz65_0
            try clear hcz65_1
            try clear hcz65_2
            try clear hcz65_3
            try clear hcz67_0
            try clear hcz67_1
            try clear hcz75_0
            try clear hcz75_1
            try clear hcz75_2
            try clear hcz75_3
            try clear hcz76_0
            try clear hcz76_1
            try clear hcz76_2
            try clear hcz76_3
            try clear hcz77_0
            try clear hcz77_1
            try clear hcz86_0
            try clear hcz86_1
            try clear hcz86_2
            try clear hcz86_3
            try clear hcz86_4
            try clear hcz99_0
            try clear hcz99_1
            try clear hfz105_0
            try clear hfz105_1
            try clear hfz105_2
            try clear hfz10_0
            try clear hfz10_1
            try clear hfz10_2
            try clear hfz10_3
            try clear hfz110_0
            try clear hfz110_1
            try clear hfz110_2
            try clear hfz110_3
            try clear hfz114_0
            try clear hfz114_1
            try clear hfz114_2
            try clear hfz114_3
            try clear hfz114_4
            try clear hfz122_0
            try clear hfz122_1
            try clear hfz128_0
            try clear hfz128_1
            try clear hfz128_2
            try clear hfz133_0
            try clear hfz133_1
            try clear hfz133_2
            try clear hfz133_3
            try clear hfz137_0
            try clear hfz137_1
            try clear hfz137_2
            try clear hfz137_3
            try clear hfz137_4
            try clear hfz145_0
            try clear hfz145_1
            try clear hfz151_0
            try clear hfz151_1
            try clear hfz151_2
            try clear hfz159_0
            try clear hfz159_1
            try clear hfz15_0
            try clear hfz15_1
            try clear hfz15_2
            try clear hfz15_3
            try clear hfz165_0
            try clear hfz165_1
            try clear hfz165_2
            try clear hfz16_0
            try clear hfz16_1
            try clear hfz16_2
            try clear hfz16_3
            try clear hfz24_0
            try clear hfz24_1
            try clear hfz24_2
            try clear hfz24_3
            try clear hfz27_0
            try clear hfz27_1
            try clear hfz27_2
            try clear hfz27_3
            try clear hfz28_0
            try clear hfz28_1
            try clear hfz28_2
            try clear hfz28_3
            try clear hfz31_0
            try clear hfz31_1
            try clear hfz31_2
            try clear hfz31_3
            try clear hfz35_0
            try clear hfz35_1
            try clear hfz35_2
            try clear hfz35_3
            try clear hfz39_0
            try clear hfz39_1
            try clear hfz39_2
            try clear hfz39_3
            try clear hfz50_0
            try clear hfz50_1
            try clear hfz50_2
            try clear hfz50_3
            try clear hfz56_0
            try clear hfz56_1
            try clear hfz57_0
            try clear hfz57_1
            try clear hfz57_2
            try clear hfz57_3
            try clear hfz64_0
            try clear hfz64_1
            try clear hfz64_2
            try clear hfz65_0
            try clear hfz65_1
            try clear hfz65_2
            try clear hfz65_3
            try clear hfz67_0
            try clear hfz67_1
            try clear hfz75_0
            try clear hfz75_1
            try clear hfz75_2
            try clear hfz75_3
            try clear hfz76_0
            try clear hfz76_1
            try clear hfz76_2
            try clear hfz76_3
            try clear hfz77_0
            try clear hfz77_1
            try clear hfz86_0
            try clear hfz86_1
            try clear hfz86_2
            try clear hfz86_3
            try clear hfz86_4
            try clear hfz99_0
            try clear hfz99_1
            try clear p2
            obtain ⟨kq, x6_46, rfl, HA, HJ46, BK200, BK201, BK207, BK214, BK218, BK224, BK230, HB⟩ := hcut
            cases kq with
            | zero => exact absurd HA.out (by simp [weirgatelaw05_ClockReadsAsSpecified.j1])
            | succ kj46 =>
              have H := HA.out
              clear HA
              simp only [weirgatelaw05_ClockReadsAsSpecified.j1] at H
              obtain rfl := Option.some.inj H
              go_wp2
              go_ret
              exact ⟨by first | rfl | (simp [errW_none, errW_some] <;> rfl) | (simp [*, errW_none, errW_some] <;> rfl), bk HB.out⟩
        · rw [if_neg c42] at H
          have c42b0 : (t208 == 0) = false := beq_eq_false_iff_ne.mpr c42
          have c42b1 : (t208 != 0) = true := bne_iff_ne.mpr c42
          replace H := Option.bind_eq_some_iff.mp H
          obtain ⟨t210, A1670, H⟩ := H
          replace H : (if t210 = true then (some (t202 == 0 && ((t203 == 0 && (t204 == 0)) && (t205 == 0)))) else (some false)) = some r := H
          have A167 := Aside0.mk A1670
          clear A1670
          by_cases c168 : t210 = true
          · subst c168
            have H1 : (some (t202 == 0 && ((t203 == 0 && (t204 == 0)) && (t205 == 0)))) = some r := by rw [if_pos rfl] at H; exact H
            clear H
            have H := H1
            clear H1
            obtain rfl := Option.some.inj H
            go_wp2_with (first | ((with_reducible refine gate_callee (f := 13) rfl ?_); refine goesL_ (some 48) rfl rfl Try.func13 (by kernel_rfl) rfl #[] rfl (by (try simp only [List.map_toArray, List.map_cons, List.map_nil]); first | done | rfl | (simp only [List.length_drop, List.length_take]; rfl)) ?_; (with_reducible refine (weirgatelaw05_sanity.calls kj5  true _ A167.out).mono ?_); rintro e w169 ⟨rfl, hb⟩; refine ⟨_, rfl, ?_⟩; have n0_ := Aside0.mk (blk_below (pk BK200.out) hb); have n1_ := Aside0.mk (blk_below (pk BK201.out) hb); have n2_ := Aside0.mk (blk_below (pk BK207.out) hb); have n3_ := Aside0.mk (below_step (bk HB.out) hb); clear BK200 BK201; clear BK207 HB; have BK200 := n0_; have BK201 := n1_; have BK207 := n2_; have HB := n3_; clear n0_ n1_ n2_ n3_; (try clear hb); (try clear hb2); (try clear hk); (try clear hi); have hnb170 := NB207_200.out; have hnc170 := NB200_207.out; have hnb171 := NB207_201.out; have hnc171 := NB201_207.out; have hcz172_0 : w169.cell? ⟨gb207, 0, none⟩ = some (.int .i64 t202) := (blk_cell BK207.out 0).trans rfl; have hcz172_1 : w169.cell? ⟨gb207, 1, none⟩ = some (.int .i64 t203) := (blk_cell BK207.out 1).trans rfl; have hcz172_2 : w169.cell? ⟨gb207, 2, none⟩ = some (.int .i64 t204) := (blk_cell BK207.out 2).trans rfl; have hcz172_3 : w169.cell? ⟨gb207, 3, none⟩ = some (.int .i64 t205) := (blk_cell BK207.out 3).trans rfl; have hfz172_0 := blk_frozen BK207.out 0; have hfz172_1 := blk_frozen BK207.out 1; have hfz172_2 := blk_frozen BK207.out 2; have hfz172_3 := blk_frozen BK207.out 3))
            go_ret
            exact ⟨by first | rfl | (simp [errW_none, errW_some] <;> rfl) | (simp [*, errW_none, errW_some] <;> rfl), bk HB.out⟩
          · replace c168 := Bool.eq_false_iff.mpr c168
            subst c168
            have H1 : (some false) = some r := by rw [if_neg (show ¬ (false = true) by decide)] at H; exact H
            clear H
            have H := H1
            clear H1
            obtain rfl := Option.some.inj H
            go_wp2_with (first | ((with_reducible refine gate_callee (f := 13) rfl ?_); refine goesL_ (some 48) rfl rfl Try.func13 (by kernel_rfl) rfl #[] rfl (by (try simp only [List.map_toArray, List.map_cons, List.map_nil]); first | done | rfl | (simp only [List.length_drop, List.length_take]; rfl)) ?_; (with_reducible refine (weirgatelaw05_sanity.calls kj5  false _ A167.out).mono ?_); rintro e w173 ⟨rfl, hb⟩; refine ⟨_, rfl, ?_⟩; have n0_ := Aside0.mk (blk_below (pk BK200.out) hb); have n1_ := Aside0.mk (blk_below (pk BK201.out) hb); have n2_ := Aside0.mk (blk_below (pk BK207.out) hb); have n3_ := Aside0.mk (below_step (bk HB.out) hb); clear BK200 BK201; clear BK207 HB; have BK200 := n0_; have BK201 := n1_; have BK207 := n2_; have HB := n3_; clear n0_ n1_ n2_ n3_; (try clear hb); (try clear hb2); (try clear hk); (try clear hi)))
            go_ret
            exact ⟨by first | rfl | (simp [errW_none, errW_some] <;> rfl) | (simp [*, errW_none, errW_some] <;> rfl), bk HB.out⟩

end Go.Proofs.Ytijeiemdhpkklaa.PP
