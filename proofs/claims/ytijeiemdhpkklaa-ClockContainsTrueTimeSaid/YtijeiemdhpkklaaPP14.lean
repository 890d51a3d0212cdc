-- laid by a program of this session (wip/xprint), out of the translation
import Derived.Test.YtijeiemdhpkklaaPP0
import Derived.Test.YtijeiemdhpkklaaPP3
import Derived.Test.YtijeiemdhpkklaaPP6
import Derived.Test.YtijeiemdhpkklaaPP12
import Derived.Test.YtijeiemdhpkklaaPP13
import Derived.Test.YtijeiemdhpkklaaGShow
namespace Go.Proofs.Ytijeiemdhpkklaa.PP
open Go.RowKit Go.Proofs.YtijeiemdhpkklaaW.PrintWords Go.Proofs.YtijeiemdhpkklaaW.PrintLast Go.Proofs.YtijeiemdhpkklaaW.PrintMore
attribute [local go_sem] max2_int min2_int max_two min_two max_three min_three max_four min_four   -- for this text's walks alone
set_option linter.unusedVariables false
set_option linter.unusedSimpArgs false

attribute [local go_sem] isSome_put
/-! ### weirgatelaw05_ClockContainsTrueTime: function 5 -/
def weirgatelaw05_ClockContainsTrueTime.j0 : Nat → Int → List (S70) → Int → Int → List Int → List Int → Bool → Int → Int → Option (Bool)
  | 0, _, _, _, _, _, _, _, _, _ => none
  | k + 1, x0, x1, x2, x4, x5, x6, x56, x289000, x289001 => if x56 = true then ((weirgatelaw05_sanity.f k).bind fun t291 => (some t291)) else ((clock_Show.f x0 x1 x4).bind fun bt292 => (if bt292.2 = 0 then ((clock_New.f bt292.1 x289000 x289001 x2).bind fun bt294 => ((weirgatelaw05_sanity.f k).bind fun t300 => (if t300 = true then (if bt294.2.2.2.2 = 0 then ((weirgatelaw05_follow.f k bt294.1 bt294.2.1 bt294.2.2.1 bt294.2.2.2.1 x0 x1 x4 x5 x6).bind fun t301 => (some t301)) else (some false)) else (some false)))) else ((weirgatelaw05_sanity.f k).bind fun t302 => (some t302))))
def weirgatelaw05_ClockContainsTrueTime.f (k : Nat) (a0 : Int) (l1 : List (S70)) (a2 : Int) (a3_0 : Int) (a3_1 : Int) (a4 : Int) (l5 : List Int) (l6 : List Int) : Option (Bool) := (weirgateref05_Honest.f k l1 a2).bind fun t289 => ((weirgateref05_Valid.f a3_0 a3_1).bind fun t290 => (if t289 = true then (if t290 = true then (if a2 < 0 then (weirgatelaw05_ClockContainsTrueTime.j0 k a0 l1 a2 a4 l5 l6 true a3_0 a3_1) else (if a2 > 100000 then (weirgatelaw05_ClockContainsTrueTime.j0 k a0 l1 a2 a4 l5 l6 true a3_0 a3_1) else (if a4 < a3_0 then (weirgatelaw05_ClockContainsTrueTime.j0 k a0 l1 a2 a4 l5 l6 true a3_0 a3_1) else (if a4 > a3_1 then (weirgatelaw05_ClockContainsTrueTime.j0 k a0 l1 a2 a4 l5 l6 true a3_0 a3_1) else (weirgatelaw05_ClockContainsTrueTime.j0 k a0 l1 a2 a4 l5 l6 (decide ((l5.length : Int) > 100)) a3_0 a3_1))))) else (weirgatelaw05_ClockContainsTrueTime.j0 k a0 l1 a2 a4 l5 l6 true a3_0 a3_1)) else (weirgatelaw05_ClockContainsTrueTime.j0 k a0 l1 a2 a4 l5 l6 true a3_0 a3_1)))
theorem weirgatelaw05_ClockContainsTrueTime.mono_l : ∀ k, (∀ y0 y1 y2 y3 y4 y5 y6 y7 y8, LeO (weirgatelaw05_ClockContainsTrueTime.j0 k y0 y1 y2 y3 y4 y5 y6 y7 y8) (weirgatelaw05_ClockContainsTrueTime.j0 (k + 1) y0 y1 y2 y3 y4 y5 y6 y7 y8))
  | 0 => fun _ _ _ _ _ _ _ _ _ r h => by simp [weirgatelaw05_ClockContainsTrueTime.j0] at h
  | k + 1 => by
    have ih0 := weirgatelaw05_ClockContainsTrueTime.mono_l k
    · intro y0 y1 y2 y3 y4 y5 y6 y7 y8
      unfold weirgatelaw05_ClockContainsTrueTime.j0
      repeat' first
      | (with_reducible exact ih0 _ _ _ _ _ _ _ _ _)
      | (with_reducible exact weirgatelaw05_follow.mono _ _ _ _ _ _ _ _ _ _)
      | (with_reducible exact weirgatelaw05_sanity.mono _)
      | (with_reducible exact weirgateref05_Honest.mono _ _ _)
      | (with_reducible exact LeO.refl _)
      | (with_reducible exact LeO.none _)
      | (with_reducible refine LeO.ite ?_ ?_)
      | (with_reducible refine LeO.bind ?_ (fun _ => ?_))
      | exact ih0 _ _ _ _ _ _ _ _ _
      | exact weirgatelaw05_follow.mono _ _ _ _ _ _ _ _ _ _
      | exact weirgatelaw05_sanity.mono _
      | exact weirgateref05_Honest.mono _ _ _
      | exact LeO.none _
      | refine LeO.ite ?_ ?_
      | refine LeO.bind ?_ (fun _ => ?_)
theorem weirgatelaw05_ClockContainsTrueTime.mono : ∀ a0 a1 a2 a3 a4 a5 a6 a7 k, LeO (weirgatelaw05_ClockContainsTrueTime.f k a0 a1 a2 a3 a4 a5 a6 a7) (weirgatelaw05_ClockContainsTrueTime.f (k + 1) a0 a1 a2 a3 a4 a5 a6 a7) := by
  intro a0 a1 a2 a3 a4 a5 a6 a7 k
  have ih0 := weirgatelaw05_ClockContainsTrueTime.mono_l k
  unfold weirgatelaw05_ClockContainsTrueTime.f
  repeat' first
      | (with_reducible exact ih0 _ _ _ _ _ _ _ _ _)
      | (with_reducible exact weirgatelaw05_follow.mono _ _ _ _ _ _ _ _ _ _)
      | (with_reducible exact weirgatelaw05_sanity.mono _)
      | (with_reducible exact weirgateref05_Honest.mono _ _ _)
      | (with_reducible exact LeO.refl _)
      | (with_reducible exact LeO.none _)
      | (with_reducible refine LeO.ite ?_ ?_)
      | (with_reducible refine LeO.bind ?_ (fun _ => ?_))
      | exact ih0 _ _ _ _ _ _ _ _ _
      | exact weirgatelaw05_follow.mono _ _ _ _ _ _ _ _ _ _
      | exact weirgatelaw05_sanity.mono _
      | exact weirgateref05_Honest.mono _ _ _
      | exact LeO.none _
      | refine LeO.ite ?_ ?_
      | refine LeO.bind ?_ (fun _ => ?_)
set_option maxHeartbeats 8000000 in
set_option maxRecDepth 100000 in
theorem weirgatelaw05_ClockContainsTrueTime.calls (k : Nat) (a0 : Int) (A1 : Option Addr) (c1 : Nat) (l1 : List (S70)) (a2 : Int) (a3_0 : Int) (a3_1 : Int) (a4 : Int) (A5 : Option Addr) (c5 : Nat) (l5 : List Int) (A6 : Option Addr) (c6 : Nat) (l6 : List Int) (r : Bool) (w : World) (hr1 : Kd.C k70 w A1 l1.length l1) (hc1 : l1.length ≤ c1) (hr5 : Kd.C (Kd.int .u32) w A5 l5.length l5) (hc5 : l5.length ≤ c5) (hr6 : Kd.C (Kd.int .u16) w A6 l6.length l6) (hc6 : l6.length ≤ c6) (h : weirgatelaw05_ClockContainsTrueTime.f k a0 l1 a2 a3_0 a3_1 a4 l5 l6 = some r) :
    Calls Try.prog 5 #[.int .i64 a0, .slice A1 l1.length c1, .int .i64 a2, .agg #[.int .i64 a3_0, .int .i64 a3_1], .int .i64 a4, .slice A5 l5.length c5, .slice A6 l6.length c6] w fun e w' => e = .returned (.bool r) ∧ Below w.heap.size w w' := by
  have hu23 := Try.underlying23
  have hu25 := Try.underlying25
  have HR1 := Aside0.mk hr1
  have HC1 := Aside0.mk hc1
  clear hr1 hc1
  have HR5 := Aside0.mk hr5
  have HC5 := Aside0.mk hc5
  clear hr5 hc5
  have HR6 := Aside0.mk hr6
  have HC6 := Aside0.mk hc6
  clear hr6 hc6
  have HB := Aside0.mk (Below.refl w.heap.size w)
  have H : ((weirgateref05_Honest.f k l1 a2).bind fun t289 => ((weirgateref05_Valid.f a3_0 a3_1).bind fun t290 => (if t289 = true then (if t290 = true then (if a2 < 0 then (weirgatelaw05_ClockContainsTrueTime.j0 k a0 l1 a2 a4 l5 l6 true a3_0 a3_1) else (if a2 > 100000 then (weirgatelaw05_ClockContainsTrueTime.j0 k a0 l1 a2 a4 l5 l6 true a3_0 a3_1) else (if a4 < a3_0 then (weirgatelaw05_ClockContainsTrueTime.j0 k a0 l1 a2 a4 l5 l6 true a3_0 a3_1) else (if a4 > a3_1 then (weirgatelaw05_ClockContainsTrueTime.j0 k a0 l1 a2 a4 l5 l6 true a3_0 a3_1) else (weirgatelaw05_ClockContainsTrueTime.j0 k a0 l1 a2 a4 l5 l6 (decide ((l5.length : Int) > 100)) a3_0 a3_1))))) else (weirgatelaw05_ClockContainsTrueTime.j0 k a0 l1 a2 a4 l5 l6 true a3_0 a3_1)) else (weirgatelaw05_ClockContainsTrueTime.j0 k a0 l1 a2 a4 l5 l6 true a3_0 a3_1)))) = some r := h
  clear h
  replace H := Option.bind_eq_some_iff.mp H
  obtain ⟨t289, A80, H⟩ := H
  replace H : ((weirgateref05_Valid.f a3_0 a3_1).bind fun t290 => (if t289 = true then (if t290 = true then (if a2 < 0 then (weirgatelaw05_ClockContainsTrueTime.j0 k a0 l1 a2 a4 l5 l6 true a3_0 a3_1) else (if a2 > 100000 then (weirgatelaw05_ClockContainsTrueTime.j0 k a0 l1 a2 a4 l5 l6 true a3_0 a3_1) else (if a4 < a3_0 then (weirgatelaw05_ClockContainsTrueTime.j0 k a0 l1 a2 a4 l5 l6 true a3_0 a3_1) else (if a4 > a3_1 then (weirgatelaw05_ClockContainsTrueTime.j0 k a0 l1 a2 a4 l5 l6 true a3_0 a3_1) else (weirgatelaw05_ClockContainsTrueTime.j0 k a0 l1 a2 a4 l5 l6 (decide ((l5.length : Int) > 100)) a3_0 a3_1))))) else (weirgatelaw05_ClockContainsTrueTime.j0 k a0 l1 a2 a4 l5 l6 true a3_0 a3_1)) else (weirgatelaw05_ClockContainsTrueTime.j0 k a0 l1 a2 a4 l5 l6 true a3_0 a3_1))) = some r := H
  have A8 := Aside0.mk A80
  clear A80
  replace H := Option.bind_eq_some_iff.mp H
  obtain ⟨t290, A90, H⟩ := H
  replace H : (if t289 = true then (if t290 = true then (if a2 < 0 then (weirgatelaw05_ClockContainsTrueTime.j0 k a0 l1 a2 a4 l5 l6 true a3_0 a3_1) else (if a2 > 100000 then (weirgatelaw05_ClockContainsTrueTime.j0 k a0 l1 a2 a4 l5 l6 true a3_0 a3_1) else (if a4 < a3_0 then (weirgatelaw05_ClockContainsTrueTime.j0 k a0 l1 a2 a4 l5 l6 true a3_0 a3_1) else (if a4 > a3_1 then (weirgatelaw05_ClockContainsTrueTime.j0 k a0 l1 a2 a4 l5 l6 true a3_0 a3_1) else (weirgatelaw05_ClockContainsTrueTime.j0 k a0 l1 a2 a4 l5 l6 (decide ((l5.length : Int) > 100)) a3_0 a3_1))))) else (weirgatelaw05_ClockContainsTrueTime.j0 k a0 l1 a2 a4 l5 l6 true a3_0 a3_1)) else (weirgatelaw05_ClockContainsTrueTime.j0 k a0 l1 a2 a4 l5 l6 true a3_0 a3_1)) = some r := H
  have A9 := Aside0.mk A90
  clear A90
  have HC10 := Aside0.mk H
  clear H
  go_enter Try.func5, Try.ntmps5
  go_upto_region 3 with (first | ((with_reducible refine gate_dst (N := 10) rfl ?_); (try (refine gate_guard (by rfl) ?_; dsimp only)); refine box_event ?hg (N := 10) ?hd (cs := #[.int .i64 a3_0, .int .i64 a3_1]) (t := 23) ?hr ?_; (case hd => rfl); (case hg => rfl); (case hr => first | (go_simp; done) | (go_simp; rfl)); intro gb288 hg w11 hbox hb; have n0_ := Aside0.mk (below_step (bk HB.out) hb); have n1_ := Aside0.mk (hbox); have n2_ := Aside0.mk ((by rw [hg]; exact (below_size (bk HB.out)) : w.heap.size ≤ gb288)); have n3_ := Aside0.mk ((by rw [hg]; exact (below_size (bk HB.out)) : w.heap.size ≤ gb288)); clear HB; have HB := n0_; have BK288 := n1_; have GW288 := n2_; have GE288 := n3_; clear n0_ n1_ n2_ n3_; clear hb hbox hg) | ((with_reducible refine gate_callee (f := 24) rfl ?_); refine goesL_ (some 23) rfl rfl Try.func24 (by kernel_rfl) rfl #[.slice A1 l1.length c1, .int .i64 a2] rfl (by (try simp only [List.map_toArray, List.map_cons, List.map_nil]); first | done | rfl | (simp only [List.length_drop, List.length_take]; rfl)) ?_; (with_reducible refine (weirgateref05_Honest.calls k _ _ l1 a2 t289 _ ?side1 ?side2 A8.out).mono ?_); (case side1 => repeat (first | exact (Kd.C_below HR1.out HB.out) | (with_reducible refine Kd.C_alloc ?_ _) | (with_reducible refine Kd.C_drewN ?_ _) | (with_reducible refine Kd.C_drew ?_))); (case side2 => exact HC1.out); rintro e w' ⟨rfl, ⟨nd, rfl⟩⟩; refine ⟨_, rfl, ?_⟩; have hcz12_0 : w11.cell? ⟨gb288, 0, none⟩ = some (.int .i64 a3_0) := (blk_cell BK288.out 0).trans rfl; have hcz12_1 : w11.cell? ⟨gb288, 1, none⟩ = some (.int .i64 a3_1) := (blk_cell BK288.out 1).trans rfl; have hfz12_0 := blk_frozen BK288.out 0; have hfz12_1 := blk_frozen BK288.out 1) | ((with_reducible refine gate_callee (f := 25) rfl ?_); refine goesL_ (some 25) rfl rfl Try.func25 (by kernel_rfl) rfl #[.agg #[.int .i64 a3_0, .int .i64 a3_1]] rfl (by (try simp only [List.map_toArray, List.map_cons, List.map_nil]); first | done | rfl | (simp only [List.length_drop, List.length_take]; rfl)) ?_; (with_reducible refine (weirgateref05_Valid.calls a3_0 a3_1 t290 _ A9.out).mono ?_); rintro e w13 ⟨rfl, hb⟩; refine ⟨_, rfl, ?_⟩; have n0_ := Aside0.mk (blk_below (pk BK288.out) hb); have n1_ := Aside0.mk (below_step (bk HB.out) hb); clear BK288 HB; have BK288 := n0_; have HB := n1_; clear n0_ n1_; (try clear hb); (try clear hb2); (try clear hk); (try clear hi)))
  (try simp only [Act.put, List.setIfInBounds_toArray, List.set_cons_zero, List.set_cons_succ])
  go_cut [56] (fun v56 wc => ∃ (kq : Nat) (x56_9 : Bool), v56 = .bool x56_9 ∧ Aside0 (weirgatelaw05_ClockContainsTrueTime.j0 kq a0 l1 a2 a4 l5 l6 x56_9 a3_0 a3_1 = some r) ∧ Aside0 (kq ≤ k) ∧ Aside0 (wc.heap[gb288]? = some (.cells #[.int .i64 a3_0, .int .i64 a3_1] 23 (0, 0))) ∧ Aside0 (Below w.heap.size w wc))
  case first =>
    have H := HC10.out
    clear HC10
    by_cases c14 : t289 = true
    · subst c14
      have H1 : (if t290 = true then (if a2 < 0 then (weirgatelaw05_ClockContainsTrueTime.j0 k a0 l1 a2 a4 l5 l6 true a3_0 a3_1) else (if a2 > 100000 then (weirgatelaw05_ClockContainsTrueTime.j0 k a0 l1 a2 a4 l5 l6 true a3_0 a3_1) else (if a4 < a3_0 then (weirgatelaw05_ClockContainsTrueTime.j0 k a0 l1 a2 a4 l5 l6 true a3_0 a3_1) else (if a4 > a3_1 then (weirgatelaw05_ClockContainsTrueTime.j0 k a0 l1 a2 a4 l5 l6 true a3_0 a3_1) else (weirgatelaw05_ClockContainsTrueTime.j0 k a0 l1 a2 a4 l5 l6 (decide ((l5.length : Int) > 100)) a3_0 a3_1))))) else (weirgatelaw05_ClockContainsTrueTime.j0 k a0 l1 a2 a4 l5 l6 true a3_0 a3_1)) = some r := by rw [if_pos rfl] at H; exact H
      clear H
      have H := H1
      clear H1
      by_cases c15 : t290 = true
      · subst c15
        have H1 : (if a2 < 0 then (weirgatelaw05_ClockContainsTrueTime.j0 k a0 l1 a2 a4 l5 l6 true a3_0 a3_1) else (if a2 > 100000 then (weirgatelaw05_ClockContainsTrueTime.j0 k a0 l1 a2 a4 l5 l6 true a3_0 a3_1) else (if a4 < a3_0 then (weirgatelaw05_ClockContainsTrueTime.j0 k a0 l1 a2 a4 l5 l6 true a3_0 a3_1) else (if a4 > a3_1 then (weirgatelaw05_ClockContainsTrueTime.j0 k a0 l1 a2 a4 l5 l6 true a3_0 a3_1) else (weirgatelaw05_ClockContainsTrueTime.j0 k a0 l1 a2 a4 l5 l6 (decide ((l5.length : Int) > 100)) a3_0 a3_1))))) = some r := by rw [if_pos rfl] at H; exact H
        clear H
        have H := H1
        clear H1
        by_cases c16 : a2 < 0
        · rw [if_pos c16] at H
          have c16b0 : decide (a2 < 0) = true := decide_eq_true c16
          clear c16
          (first | rw [c16b0] | (simp only [i64_w, i32_w]; rw [c16b0]) | skip)
          have H' := Aside0.mk H
          clear H
          go_wp2
          go_meet
          case rel => exact ⟨_, (true), (by first | rfl | (simp; done) | (simp [*]; done) | (simp only [show ∀ p : Prop, Aside0 p = p from fun p => propext ⟨Aside0.out, Aside0.mk⟩] at *; simp_all; done)), H', ⟨by first | omega | exact Nat.le_refl _⟩, ⟨pk BK288.out⟩, ⟨bk HB.out⟩⟩
        · rw [if_neg c16] at H
          have c16b0 : decide (a2 < 0) = false := decide_eq_false c16
          clear c16
          (first | rw [c16b0] | (simp only [i64_w, i32_w]; rw [c16b0]) | skip)
          by_cases c17 : a2 > 100000
          · rw [if_pos c17] at H
            have c17b0 : decide (100000 < a2) = true := decide_eq_true c17
            clear c17
            have H' := Aside0.mk H
            clear H
            go_wp2
            go_meet
            case rel => exact ⟨_, (true), (by first | rfl | (simp; done) | (simp [*]; done) | (simp only [show ∀ p : Prop, Aside0 p = p from fun p => propext ⟨Aside0.out, Aside0.mk⟩] at *; simp_all; done)), H', ⟨by first | omega | exact Nat.le_refl _⟩, ⟨pk BK288.out⟩, ⟨bk HB.out⟩⟩
          · rw [if_neg c17] at H
            have c17b0 : decide (100000 < a2) = false := decide_eq_false c17
            clear c17
            by_cases c18 : a4 < a3_0
            · rw [if_pos c18] at H
              have c18b0 : decide (a4 < a3_0) = true := decide_eq_true c18
              clear c18
              have H' := Aside0.mk H
              clear H
              have hcz19_0 : w13.cell? ⟨gb288, 0, none⟩ = some (.int .i64 a3_0) := (blk_cell BK288.out 0).trans rfl
              have hcz19_1 : w13.cell? ⟨gb288, 1, none⟩ = some (.int .i64 a3_1) := (blk_cell BK288.out 1).trans rfl
              have hfz19_0 := blk_frozen BK288.out 0
              have hfz19_1 := blk_frozen BK288.out 1
              go_wp2
              go_meet
              case rel => exact ⟨_, (true), (by first | rfl | (simp; done) | (simp [*]; done) | (simp only [show ∀ p : Prop, Aside0 p = p from fun p => propext ⟨Aside0.out, Aside0.mk⟩] at *; simp_all; done)), H', ⟨by first | omega | exact Nat.le_refl _⟩, ⟨pk BK288.out⟩, ⟨bk HB.out⟩⟩
            · rw [if_neg c18] at H
              have c18b0 : decide (a4 < a3_0) = false := decide_eq_false c18
              clear c18
              by_cases c20 : a4 > a3_1
              · rw [if_pos c20] at H
                have c20b0 : decide (a3_1 < a4) = true := decide_eq_true c20
                clear c20
                have H' := Aside0.mk H
                clear H
                have hcz21_0 : w13.cell? ⟨gb288, 0, none⟩ = some (.int .i64 a3_0) := (blk_cell BK288.out 0).trans rfl
                have hcz21_1 : w13.cell? ⟨gb288, 1, none⟩ = some (.int .i64 a3_1) := (blk_cell BK288.out 1).trans rfl
                have hfz21_0 := blk_frozen BK288.out 0
                have hfz21_1 := blk_frozen BK288.out 1
                go_wp2
                go_meet
                case rel => exact ⟨_, (true), (by first | rfl | (simp; done) | (simp [*]; done) | (simp only [show ∀ p : Prop, Aside0 p = p from fun p => propext ⟨Aside0.out, Aside0.mk⟩] at *; simp_all; done)), H', ⟨by first | omega | exact Nat.le_refl _⟩, ⟨pk BK288.out⟩, ⟨bk HB.out⟩⟩
              · rw [if_neg c20] at H
                have c20b0 : decide (a3_1 < a4) = false := decide_eq_false c20
                clear c20
                have H' := Aside0.mk H
                clear H
                have hcz22_0 : w13.cell? ⟨gb288, 0, none⟩ = some (.int .i64 a3_0) := (blk_cell BK288.out 0).trans rfl
                have hcz22_1 : w13.cell? ⟨gb288, 1, none⟩ = some (.int .i64 a3_1) := (blk_cell BK288.out 1).trans rfl
                have hfz22_0 := blk_frozen BK288.out 0
                have hfz22_1 := blk_frozen BK288.out 1
                go_wp2
                go_meet
                case rel => exact ⟨_, (decide ((l5.length : Int) > 100)), (by first | rfl | (simp; done) | (simp [*]; done) | (simp only [show ∀ p : Prop, Aside0 p = p from fun p => propext ⟨Aside0.out, Aside0.mk⟩] at *; simp_all; done)), H', ⟨by first | omega | exact Nat.le_refl _⟩, ⟨pk BK288.out⟩, ⟨bk HB.out⟩⟩
      · replace c15 := Bool.eq_false_iff.mpr c15
        subst c15
        have H1 : (weirgatelaw05_ClockContainsTrueTime.j0 k a0 l1 a2 a4 l5 l6 true a3_0 a3_1) = some r := by rw [if_neg (show ¬ (false = true) by decide)] at H; exact H
        clear H
        have H := H1
        clear H1
        have H' := Aside0.mk H
        clear H
        go_wp2
        go_meet
        case rel => exact ⟨_, (true), (by first | rfl | (simp; done) | (simp [*]; done) | (simp only [show ∀ p : Prop, Aside0 p = p from fun p => propext ⟨Aside0.out, Aside0.mk⟩] at *; simp_all; done)), H', ⟨by first | omega | exact Nat.le_refl _⟩, ⟨pk BK288.out⟩, ⟨bk HB.out⟩⟩
    · replace c14 := Bool.eq_false_iff.mpr c14
      subst c14
      have H1 : (weirgatelaw05_ClockContainsTrueTime.j0 k a0 l1 a2 a4 l5 l6 true a3_0 a3_1) = some r := by rw [if_neg (show ¬ (false = true) by decide)] at H; exact H
      clear H
      have H := H1
      clear H1
      have H' := Aside0.mk H
      clear H
      go_wp2
      go_meet
      case rel => exact ⟨_, (true), (by first | rfl | (simp; done) | (simp [*]; done) | (simp only [show ∀ p : Prop, Aside0 p = p from fun p => propext ⟨Aside0.out, Aside0.mk⟩] at *; simp_all; done)), H', ⟨by first | omega | exact Nat.le_refl _⟩, ⟨pk BK288.out⟩, ⟨bk HB.out⟩⟩
  case rest =>
    clear HC10
    try clear c1
    try clear c2
    try clear p2
    try clear c5
    try clear c6
    try clear c14
    try clear c15
    try clear c16
    try clear c16b0
    try clear c17
    try clear c17b0
    try clear c18
    try clear c18b0
    try clear c20
    try clear c20b0
    try clear hcz12_0
    try clear hcz12_1
    try clear hcz19_0
    try clear hcz19_1
    try clear hcz21_0
    try clear hcz21_1
    try clear hcz22_0
    try clear hcz22_1
    try clear hfz12_0
    try clear hfz12_1
    try clear hfz19_0
    try clear hfz19_1
    try clear hfz21_0
    try clear hfz21_1
    try clear hfz22_0
    try clear hfz22_1
    obtain ⟨kq, x56_9, rfl, HA, HJ9, BK288, HB⟩ := hcut
    cases kq with
    | zero => exact absurd HA.out (by simp [weirgatelaw05_ClockContainsTrueTime.j0])
    | succ kj9 =>
      have H := HA.out
      clear HA
      simp only [weirgatelaw05_ClockContainsTrueTime.j0] at H
      by_cases c23 : x56_9 = true
      · subst c23
        have H1 : ((weirgatelaw05_sanity.f kj9).bind fun t291 => (some t291)) = some r := by rw [if_pos rfl] at H; exact H
        clear H
        have H := H1
        clear H1
        replace H := Option.bind_eq_some_iff.mp H
        obtain ⟨t291, A240, H⟩ := H
        replace H : (some t291) = some r := H
        have A24 := Aside0.mk A240
        clear A240
        obtain rfl := Option.some.inj H
        go_wp2_with (first | ((with_reducible refine gate_callee (f := 13) rfl ?_); refine goesL_ (some 57) rfl rfl Try.func13 (by kernel_rfl) rfl #[] rfl (by (try simp only [List.map_toArray, List.map_cons, List.map_nil]); first | done | rfl | (simp only [List.length_drop, List.length_take]; rfl)) ?_; (with_reducible refine (weirgatelaw05_sanity.calls kj9  t291 _ A24.out).mono ?_); rintro e w25 ⟨rfl, hb⟩; refine ⟨_, rfl, ?_⟩; have n0_ := Aside0.mk (blk_below (pk BK288.out) hb); have n1_ := Aside0.mk (below_step (bk HB.out) hb); clear BK288 HB; have BK288 := n0_; have HB := n1_; clear n0_ n1_; (try clear hb); (try clear hb2); (try clear hk); (try clear hi)))
        go_ret
        exact ⟨by first | rfl | (simp [errW_none, errW_some] <;> rfl) | (simp [*, errW_none, errW_some] <;> rfl), bk HB.out⟩
      · replace c23 := Bool.eq_false_iff.mpr c23
        subst c23
        have H1 : ((clock_Show.f a0 l1 a4).bind fun bt292 => (if bt292.2 = 0 then ((clock_New.f bt292.1 a3_0 a3_1 a2).bind fun bt294 => ((weirgatelaw05_sanity.f kj9).bind fun t300 => (if t300 = true then (if bt294.2.2.2.2 = 0 then ((weirgatelaw05_follow.f kj9 bt294.1 bt294.2.1 bt294.2.2.1 bt294.2.2.2.1 a0 l1 a4 l5 l6).bind fun t301 => (some t301)) else (some false)) else (some false)))) else ((weirgatelaw05_sanity.f kj9).bind fun t302 => (some t302)))) = some r := by rw [if_neg (show ¬ (false = true) by decide)] at H; exact H
        clear H
        have H := H1
        clear H1
        replace H := Option.bind_eq_some_iff.mp H
        obtain ⟨⟨t292, t293⟩, A260, H⟩ := H
        replace H : (if t293 = 0 then ((clock_New.f t292 a3_0 a3_1 a2).bind fun bt294 => ((weirgatelaw05_sanity.f kj9).bind fun t300 => (if t300 = true then (if bt294.2.2.2.2 = 0 then ((weirgatelaw05_follow.f kj9 bt294.1 bt294.2.1 bt294.2.2.1 bt294.2.2.2.1 a0 l1 a4 l5 l6).bind fun t301 => (some t301)) else (some false)) else (some false)))) else ((weirgatelaw05_sanity.f kj9).bind fun t302 => (some t302))) = some r := H
        have A26 := Aside0.mk A260
        clear A260
        by_cases c27 : t293 = 0
        · rw [if_pos c27] at H
          have c27b0 : (t293 == 0) = true := beq_iff_eq.mpr c27
          have c27b1 : (t293 != 0) = false := bne_eq_false_iff_eq.mpr c27
          clear c27
          replace H := Option.bind_eq_some_iff.mp H
          obtain ⟨⟨t294, t295, t296, t297, t298⟩, A280, H⟩ := H
          replace H : ((weirgatelaw05_sanity.f kj9).bind fun t300 => (if t300 = true then (if t298 = 0 then ((weirgatelaw05_follow.f kj9 t294 t295 t296 t297 a0 l1 a4 l5 l6).bind fun t301 => (some t301)) else (some false)) else (some false))) = some r := H
          have A28 := Aside0.mk A280
          clear A280
          replace H := Option.bind_eq_some_iff.mp H
          obtain ⟨t300, A290, H⟩ := H
          replace H : (if t300 = true then (if t298 = 0 then ((weirgatelaw05_follow.f kj9 t294 t295 t296 t297 a0 l1 a4 l5 l6).bind fun t301 => (some t301)) else (some false)) else (some false)) = some r := H
          have A29 := Aside0.mk A290
          clear A290
          by_cases c30 : t300 = true
          · subst c30
            have H1 : (if t298 = 0 then ((weirgatelaw05_follow.f kj9 t294 t295 t296 t297 a0 l1 a4 l5 l6).bind fun t301 => (some t301)) else (some false)) = some r := by rw [if_pos rfl] at H; exact H
            clear H
            have H := H1
            clear H1
            by_cases c31 : t298 = 0
            · rw [if_pos c31] at H
              have c31b0 : (t298 == 0) = true := beq_iff_eq.mpr c31
              have c31b1 : (t298 != 0) = false := bne_eq_false_iff_eq.mpr c31
              clear c31
              replace H := Option.bind_eq_some_iff.mp H
              obtain ⟨t301, A320, H⟩ := H
              replace H : (some t301) = some r := H
              have A32 := Aside0.mk A320
              clear A320
              obtain rfl := Option.some.inj H
              go_wp2_with (first | ((with_reducible refine gate_callee (f := 26) rfl ?_); refine goesL_ (some 62) rfl rfl Try.func26 (by kernel_rfl) rfl #[.int .i64 a0, .slice A1 l1.length c1, .int .i64 a4] rfl (by (try simp only [List.map_toArray, List.map_cons, List.map_nil]); first | done | rfl | (simp only [List.length_drop, List.length_take]; rfl)) ?_; (with_reducible refine (clock_Show.calls a0 _ _ l1 a4 t292 t293 _ ?side1 ?side2 A26.out).mono ?_); (case side1 => repeat (first | exact (Kd.C_below HR1.out HB.out) | (with_reducible refine Kd.C_alloc ?_ _) | (with_reducible refine Kd.C_drewN ?_ _) | (with_reducible refine Kd.C_drew ?_))); (case side2 => exact HC1.out); rintro e w33 ⟨rfl, hb⟩; refine ⟨_, rfl, ?_⟩; have n0_ := Aside0.mk (blk_below (pk BK288.out) hb); have n1_ := Aside0.mk (below_step (bk HB.out) hb); clear BK288 HB; have BK288 := n0_; have HB := n1_; clear n0_ n1_; (try clear hb); (try clear hb2); (try clear hk); (try clear hi); have hcz34_0 : w33.cell? ⟨gb288, 0, none⟩ = some (.int .i64 a3_0) := (blk_cell BK288.out 0).trans rfl; have hcz34_1 : w33.cell? ⟨gb288, 1, none⟩ = some (.int .i64 a3_1) := (blk_cell BK288.out 1).trans rfl; have hfz34_0 := blk_frozen BK288.out 0; have hfz34_1 := blk_frozen BK288.out 1) | ((with_reducible refine gate_callee (f := 10) rfl ?_); refine goesL_ (some 72) rfl rfl Try.func10 (by kernel_rfl) rfl #[.int .i64 t292, .agg #[.int .i64 a3_0, .int .i64 a3_1], .int .i64 a2] rfl (by (try simp only [List.map_toArray, List.map_cons, List.map_nil]); first | done | rfl | (simp only [List.length_drop, List.length_take]; rfl)) ?_; (with_reducible refine (clock_New.calls t292 a3_0 a3_1 a2 t294 t295 t296 t297 t298 _ A28.out).mono ?_); rintro e w35 ⟨rfl, hb⟩; refine ⟨_, rfl, ?_⟩; have n0_ := Aside0.mk (blk_below (pk BK288.out) hb); have n1_ := Aside0.mk (below_step (bk HB.out) hb); clear BK288 HB; have BK288 := n0_; have HB := n1_; clear n0_ n1_; (try clear hb); (try clear hb2); (try clear hk); (try clear hi)) | ((with_reducible refine gate_dst (N := 19) rfl ?_); (try (refine gate_guard (by rfl) ?_; dsimp only)); refine box_event ?hg (N := 19) ?hd (cs := #[.int .i64 0, .int .i64 0, .int .i64 0, .int .i64 0]) (t := 25) ?hr ?_; (case hd => rfl); (case hg => rfl); (case hr => first | (go_simp; done) | (go_simp; rfl)); intro gb299 hg w36 hbox hb; have n0_ := Aside0.mk (blk_below (pk BK288.out) hb); have n1_ := Aside0.mk (below_step (bk HB.out) hb); have n2_ := Aside0.mk (hbox); have n3_ := Aside0.mk ((by rw [hg]; exact (below_size (bk HB.out)) : w.heap.size ≤ gb299)); have n4_ := Aside0.mk ((by rw [hg]; exact (below_size (bk HB.out)) : w.heap.size ≤ gb299)); have n5_ := Aside0.mk ((by rw [hg]; exact Nat.ne_of_lt (blk_lt (g := gb288) (o := .cells #[.int .i64 a3_0, .int .i64 a3_1] 23 (0, 0)) (pk BK288.out)) : gb288 ≠ gb299)); have n6_ := Aside0.mk ((by rw [hg]; exact Nat.ne_of_gt (blk_lt (g := gb288) (o := .cells #[.int .i64 a3_0, .int .i64 a3_1] 23 (0, 0)) (pk BK288.out)) : gb299 ≠ gb288)); clear BK288 HB; have BK288 := n0_; have HB := n1_; have BK299 := n2_; have GW299 := n3_; have GE299 := n4_; have NB288_299 := n5_; have NB299_288 := n6_; clear n0_ n1_ n2_ n3_ n4_ n5_ n6_; clear hb hbox hg; have hnb37 := NB299_288.out; have hnc37 := NB288_299.out; have hcz38_0 : w36.cell? ⟨gb299, 0, none⟩ = some (.int .i64 0) := (blk_cell BK299.out 0).trans rfl; have hcz38_1 : w36.cell? ⟨gb299, 1, none⟩ = some (.int .i64 0) := (blk_cell BK299.out 1).trans rfl; have hcz38_2 : w36.cell? ⟨gb299, 2, none⟩ = some (.int .i64 0) := (blk_cell BK299.out 2).trans rfl; have hcz38_3 : w36.cell? ⟨gb299, 3, none⟩ = some (.int .i64 0) := (blk_cell BK299.out 3).trans rfl; have hfz38_0 := blk_frozen BK299.out 0; have hfz38_1 := blk_frozen BK299.out 1; have hfz38_2 := blk_frozen BK299.out 2; have hfz38_3 := blk_frozen BK299.out 3) | ((with_reducible refine gate_callee (f := 13) rfl ?_); refine goesL_ (some 75) rfl rfl Try.func13 (by kernel_rfl) rfl #[] rfl (by (try simp only [List.map_toArray, List.map_cons, List.map_nil]); first | done | rfl | (simp only [List.length_drop, List.length_take]; rfl)) ?_; (with_reducible refine (weirgatelaw05_sanity.calls kj9  true _ A29.out).mono ?_); rintro e w39 ⟨rfl, hb⟩; refine ⟨_, rfl, ?_⟩; have n0_ := Aside0.mk (blk_below (g := gb288) (o := .cells #[.int .i64 a3_0, .int .i64 a3_1] 23 (0, 0)) (by refine pk ?_; refine blk_far ?_ NB288_299.out _; refine pk ?_; refine blk_far ?_ NB288_299.out _; refine pk ?_; refine blk_far ?_ NB288_299.out _; refine pk ?_; refine blk_far ?_ NB288_299.out _; refine pk ?_; exact BK288.out) hb); have n1_ := Aside0.mk (blk_below (g := gb299) (o := .cells #[.int .i64 t294, .int .i64 t295, .int .i64 t296, .int .i64 t297] 25 (0, 0)) (by refine pk ?_; refine blk_put (cs := #[.int .i64 t294, .int .i64 t295, .int .i64 t296, .int .i64 0]) ?_ 3 _ rfl; refine pk ?_; refine blk_put (cs := #[.int .i64 t294, .int .i64 t295, .int .i64 0, .int .i64 0]) ?_ 2 _ rfl; refine pk ?_; refine blk_put (cs := #[.int .i64 t294, .int .i64 0, .int .i64 0, .int .i64 0]) ?_ 1 _ rfl; refine pk ?_; refine blk_put (cs := #[.int .i64 0, .int .i64 0, .int .i64 0, .int .i64 0]) ?_ 0 _ rfl; refine pk ?_; exact BK299.out) hb); have n2_ := Aside0.mk (below_step (bk HB.out) hb); clear BK288 BK299 HB; have BK288 := n0_; have BK299 := n1_; have HB := n2_; clear n0_ n1_ n2_; (try clear hb); (try clear hb2); (try clear hk); (try clear hi); have hcz40_0 : w39.cell? ⟨gb299, 0, none⟩ = some (.int .i64 t294) := (blk_cell BK299.out 0).trans rfl; have hcz40_1 : w39.cell? ⟨gb299, 1, none⟩ = some (.int .i64 t295) := (blk_cell BK299.out 1).trans rfl; have hcz40_2 : w39.cell? ⟨gb299, 2, none⟩ = some (.int .i64 t296) := (blk_cell BK299.out 2).trans rfl; have hcz40_3 : w39.cell? ⟨gb299, 3, none⟩ = some (.int .i64 t297) := (blk_cell BK299.out 3).trans rfl; have hfz40_0 := blk_frozen BK299.out 0; have hfz40_1 := blk_frozen BK299.out 1; have hfz40_2 := blk_frozen BK299.out 2; have hfz40_3 := blk_frozen BK299.out 3) | (go_at_call 27; (with_reducible refine (weirgatelaw05_follow.calls kj9 t294 t295 t296 t297 a0 _ _ l1 a4 _ _ l5 _ _ l6 t301 _ ?side1 ?side2 ?side3 ?side4 ?side5 ?side6 A32.out).mono ?_); (case side1 => repeat (first | exact (Kd.C_below HR1.out HB.out) | (with_reducible refine Kd.C_alloc ?_ _) | (with_reducible refine Kd.C_drewN ?_ _) | (with_reducible refine Kd.C_drew ?_))); (case side2 => exact HC1.out); (case side3 => repeat (first | exact (Kd.C_below HR5.out HB.out) | (with_reducible refine Kd.C_alloc ?_ _) | (with_reducible refine Kd.C_drewN ?_ _) | (with_reducible refine Kd.C_drew ?_))); (case side4 => exact HC5.out); (case side5 => repeat (first | exact (Kd.C_below HR6.out HB.out) | (with_reducible refine Kd.C_alloc ?_ _) | (with_reducible refine Kd.C_drewN ?_ _) | (with_reducible refine Kd.C_drew ?_))); (case side6 => exact HC6.out); rintro e w41 ⟨rfl, hb⟩; have n0_ := Aside0.mk (blk_below (pk BK288.out) hb); have n1_ := Aside0.mk (blk_below (pk BK299.out) hb); have n2_ := Aside0.mk (below_step (bk HB.out) hb); clear BK288 BK299 HB; have BK288 := n0_; have BK299 := n1_; have HB := n2_; clear n0_ n1_ n2_; (try clear hb); (try clear hb2); (try clear hk); (try clear hi)))
              go_ret
              exact ⟨by first | rfl | (simp [errW_none, errW_some] <;> rfl) | (simp [*, errW_none, errW_some] <;> rfl), bk HB.out⟩
            · rw [if_neg c31] at H
              have c31b0 : (t298 == 0) = false := beq_eq_false_iff_ne.mpr c31
              have c31b1 : (t298 != 0) = true := bne_iff_ne.mpr c31
              obtain rfl := Option.some.inj H
              go_wp2_with (first | ((with_reducible refine gate_callee (f := 26) rfl ?_); refine goesL_ (some 62) rfl rfl Try.func26 (by kernel_rfl) rfl #[.int .i64 a0, .slice A1 l1.length c1, .int .i64 a4] rfl (by (try simp only [List.map_toArray, List.map_cons, List.map_nil]); first | done | rfl | (simp only [List.length_drop, List.length_take]; rfl)) ?_; (with_reducible refine (clock_Show.calls a0 _ _ l1 a4 t292 t293 _ ?side1 ?side2 A26.out).mono ?_); (case side1 => repeat (first | exact (Kd.C_below HR1.out HB.out) | (with_reducible refine Kd.C_alloc ?_ _) | (with_reducible refine Kd.C_drewN ?_ _) | (with_reducible refine Kd.C_drew ?_))); (case side2 => exact HC1.out); rintro e w42 ⟨rfl, hb⟩; refine ⟨_, rfl, ?_⟩; have n0_ := Aside0.mk (blk_below (pk BK288.out) hb); have n1_ := Aside0.mk (below_step (bk HB.out) hb); clear BK288 HB; have BK288 := n0_; have HB := n1_; clear n0_ n1_; (try clear hb); (try clear hb2); (try clear hk); (try clear hi); have hcz43_0 : w42.cell? ⟨gb288, 0, none⟩ = some (.int .i64 a3_0) := (blk_cell BK288.out 0).trans rfl; have hcz43_1 : w42.cell? ⟨gb288, 1, none⟩ = some (.int .i64 a3_1) := (blk_cell BK288.out 1).trans rfl; have hfz43_0 := blk_frozen BK288.out 0; have hfz43_1 := blk_frozen BK288.out 1) | ((with_reducible refine gate_callee (f := 10) rfl ?_); refine goesL_ (some 72) rfl rfl Try.func10 (by kernel_rfl) rfl #[.int .i64 t292, .agg #[.int .i64 a3_0, .int .i64 a3_1], .int .i64 a2] rfl (by (try simp only [List.map_toArray, List.map_cons, List.map_nil]); first | done | rfl | (simp only [List.length_drop, List.length_take]; rfl)) ?_; (with_reducible refine (clock_New.calls t292 a3_0 a3_1 a2 t294 t295 t296 t297 t298 _ A28.out).mono ?_); rintro e w44 ⟨rfl, hb⟩; refine ⟨_, rfl, ?_⟩; have n0_ := Aside0.mk (blk_below (pk BK288.out) hb); have n1_ := Aside0.mk (below_step (bk HB.out) hb); clear BK288 HB; have BK288 := n0_; have HB := n1_; clear n0_ n1_; (try clear hb); (try clear hb2); (try clear hk); (try clear hi)) | ((with_reducible refine gate_dst (N := 19) rfl ?_); (try (refine gate_guard (by rfl) ?_; dsimp only)); refine box_event ?hg (N := 19) ?hd (cs := #[.int .i64 0, .int .i64 0, .int .i64 0, .int .i64 0]) (t := 25) ?hr ?_; (case hd => rfl); (case hg => rfl); (case hr => first | (go_simp; done) | (go_simp; rfl)); intro gb299 hg w45 hbox hb; have n0_ := Aside0.mk (blk_below (pk BK288.out) hb); have n1_ := Aside0.mk (below_step (bk HB.out) hb); have n2_ := Aside0.mk (hbox); have n3_ := Aside0.mk ((by rw [hg]; exact (below_size (bk HB.out)) : w.heap.size ≤ gb299)); have n4_ := Aside0.mk ((by rw [hg]; exact (below_size (bk HB.out)) : w.heap.size ≤ gb299)); have n5_ := Aside0.mk ((by rw [hg]; exact Nat.ne_of_lt (blk_lt (g := gb288) (o := .cells #[.int .i64 a3_0, .int .i64 a3_1] 23 (0, 0)) (pk BK288.out)) : gb288 ≠ gb299)); have n6_ := Aside0.mk ((by rw [hg]; exact Nat.ne_of_gt (blk_lt (g := gb288) (o := .cells #[.int .i64 a3_0, .int .i64 a3_1] 23 (0, 0)) (pk BK288.out)) : gb299 ≠ gb288)); clear BK288 HB; have BK288 := n0_; have HB := n1_; have BK299 := n2_; have GW299 := n3_; have GE299 := n4_; have NB288_299 := n5_; have NB299_288 := n6_; clear n0_ n1_ n2_ n3_ n4_ n5_ n6_; clear hb hbox hg; have hnb46 := NB299_288.out; have hnc46 := NB288_299.out; have hcz47_0 : w45.cell? ⟨gb299, 0, none⟩ = some (.int .i64 0) := (blk_cell BK299.out 0).trans rfl; have hcz47_1 : w45.cell? ⟨gb299, 1, none⟩ = some (.int .i64 0) := (blk_cell BK299.out 1).trans rfl; have hcz47_2 : w45.cell? ⟨gb299, 2, none⟩ = some (.int .i64 0) := (blk_cell BK299.out 2).trans rfl; have hcz47_3 : w45.cell? ⟨gb299, 3, none⟩ = some (.int .i64 0) := (blk_cell BK299.out 3).trans rfl; have hfz47_0 := blk_frozen BK299.out 0; have hfz47_1 := blk_frozen BK299.out 1; have hfz47_2 := blk_frozen BK299.out 2; have hfz47_3 := blk_frozen BK299.out 3) | ((with_reducible refine gate_callee (f := 13) rfl ?_); refine goesL_ (some 75) rfl rfl Try.func13 (by kernel_rfl) rfl #[] rfl (by (try simp only [List.map_toArray, List.map_cons, List.map_nil]); first | done | rfl | (simp only [List.length_drop, List.length_take]; rfl)) ?_; (with_reducible refine (weirgatelaw05_sanity.calls kj9  true _ A29.out).mono ?_); rintro e w48 ⟨rfl, hb⟩; refine ⟨_, rfl, ?_⟩; have n0_ := Aside0.mk (blk_below (g := gb288) (o := .cells #[.int .i64 a3_0, .int .i64 a3_1] 23 (0, 0)) (by refine pk ?_; refine blk_far ?_ NB288_299.out _; refine pk ?_; refine blk_far ?_ NB288_299.out _; refine pk ?_; refine blk_far ?_ NB288_299.out _; refine pk ?_; refine blk_far ?_ NB288_299.out _; refine pk ?_; exact BK288.out) hb); have n1_ := Aside0.mk (blk_below (g := gb299) (o := .cells #[.int .i64 t294, .int .i64 t295, .int .i64 t296, .int .i64 t297] 25 (0, 0)) (by refine pk ?_; refine blk_put (cs := #[.int .i64 t294, .int .i64 t295, .int .i64 t296, .int .i64 0]) ?_ 3 _ rfl; refine pk ?_; refine blk_put (cs := #[.int .i64 t294, .int .i64 t295, .int .i64 0, .int .i64 0]) ?_ 2 _ rfl; refine pk ?_; refine blk_put (cs := #[.int .i64 t294, .int .i64 0, .int .i64 0, .int .i64 0]) ?_ 1 _ rfl; refine pk ?_; refine blk_put (cs := #[.int .i64 0, .int .i64 0, .int .i64 0, .int .i64 0]) ?_ 0 _ rfl; refine pk ?_; exact BK299.out) hb); have n2_ := Aside0.mk (below_step (bk HB.out) hb); clear BK288 BK299 HB; have BK288 := n0_; have BK299 := n1_; have HB := n2_; clear n0_ n1_ n2_; (try clear hb); (try clear hb2); (try clear hk); (try clear hi)))
              go_ret
              exact ⟨by first | rfl | (simp [errW_none, errW_some] <;> rfl) | (simp [*, errW_none, errW_some] <;> rfl), bk HB.out⟩
          · replace c30 := Bool.eq_false_iff.mpr c30
            subst c30
            have H1 : (some false) = some r := by rw [if_neg (show ¬ (false = true) by decide)] at H; exact H
            clear H
            have H := H1
            clear H1
            obtain rfl := Option.some.inj H
            go_wp2_with (first | ((with_reducible refine gate_callee (f := 26) rfl ?_); refine goesL_ (some 62) rfl rfl Try.func26 (by kernel_rfl) rfl #[.int .i64 a0, .slice A1 l1.length c1, .int .i64 a4] rfl (by (try simp only [List.map_toArray, List.map_cons, List.map_nil]); first | done | rfl | (simp only [List.length_drop, List.length_take]; rfl)) ?_; (with_reducible refine (clock_Show.calls a0 _ _ l1 a4 t292 t293 _ ?side1 ?side2 A26.out).mono ?_); (case side1 => repeat (first | exact (Kd.C_below HR1.out HB.out) | (with_reducible refine Kd.C_alloc ?_ _) | (with_reducible refine Kd.C_drewN ?_ _) | (with_reducible refine Kd.C_drew ?_))); (case side2 => exact HC1.out); rintro e w49 ⟨rfl, hb⟩; refine ⟨_, rfl, ?_⟩; have n0_ := Aside0.mk (blk_below (pk BK288.out) hb); have n1_ := Aside0.mk (below_step (bk HB.out) hb); clear BK288 HB; have BK288 := n0_; have HB := n1_; clear n0_ n1_; (try clear hb); (try clear hb2); (try clear hk); (try clear hi); have hcz50_0 : w49.cell? ⟨gb288, 0, none⟩ = some (.int .i64 a3_0) := (blk_cell BK288.out 0).trans rfl; have hcz50_1 : w49.cell? ⟨gb288, 1, none⟩ = some (.int .i64 a3_1) := (blk_cell BK288.out 1).trans rfl; have hfz50_0 := blk_frozen BK288.out 0; have hfz50_1 := blk_frozen BK288.out 1) | ((with_reducible refine gate_callee (f := 10) rfl ?_); refine goesL_ (some 72) rfl rfl Try.func10 (by kernel_rfl) rfl #[.int .i64 t292, .agg #[.int .i64 a3_0, .int .i64 a3_1], .int .i64 a2] rfl (by (try simp only [List.map_toArray, List.map_cons, List.map_nil]); first | done | rfl | (simp only [List.length_drop, List.length_take]; rfl)) ?_; (with_reducible refine (clock_New.calls t292 a3_0 a3_1 a2 t294 t295 t296 t297 t298 _ A28.out).mono ?_); rintro e w51 ⟨rfl, hb⟩; refine ⟨_, rfl, ?_⟩; have n0_ := Aside0.mk (blk_below (pk BK288.out) hb); have n1_ := Aside0.mk (below_step (bk HB.out) hb); clear BK288 HB; have BK288 := n0_; have HB := n1_; clear n0_ n1_; (try clear hb); (try clear hb2); (try clear hk); (try clear hi)) | ((with_reducible refine gate_dst (N := 19) rfl ?_); (try (refine gate_guard (by rfl) ?_; dsimp only)); refine box_event ?hg (N := 19) ?hd (cs := #[.int .i64 0, .int .i64 0, .int .i64 0, .int .i64 0]) (t := 25) ?hr ?_; (case hd => rfl); (case hg => rfl); (case hr => first | (go_simp; done) | (go_simp; rfl)); intro gb299 hg w52 hbox hb; have n0_ := Aside0.mk (blk_below (pk BK288.out) hb); have n1_ := Aside0.mk (below_step (bk HB.out) hb); have n2_ := Aside0.mk (hbox); have n3_ := Aside0.mk ((by rw [hg]; exact (below_size (bk HB.out)) : w.heap.size ≤ gb299)); have n4_ := Aside0.mk ((by rw [hg]; exact (below_size (bk HB.out)) : w.heap.size ≤ gb299)); have n5_ := Aside0.mk ((by rw [hg]; exact Nat.ne_of_lt (blk_lt (g := gb288) (o := .cells #[.int .i64 a3_0, .int .i64 a3_1] 23 (0, 0)) (pk BK288.out)) : gb288 ≠ gb299)); have n6_ := Aside0.mk ((by rw [hg]; exact Nat.ne_of_gt (blk_lt (g := gb288) (o := .cells #[.int .i64 a3_0, .int .i64 a3_1] 23 (0, 0)) (pk BK288.out)) : gb299 ≠ gb288)); clear BK288 HB; have BK288 := n0_; have HB := n1_; have BK299 := n2_; have GW299 := n3_; have GE299 := n4_; have NB288_299 := n5_; have NB299_288 := n6_; clear n0_ n1_ n2_ n3_ n4_ n5_ n6_; clear hb hbox hg; have hnb53 := NB299_288.out; have hnc53 := NB288_299.out; have hcz54_0 : w52.cell? ⟨gb299, 0, none⟩ = some (.int .i64 0) := (blk_cell BK299.out 0).trans rfl; have hcz54_1 : w52.cell? ⟨gb299, 1, none⟩ = some (.int .i64 0) := (blk_cell BK299.out 1).trans rfl; have hcz54_2 : w52.cell? ⟨gb299, 2, none⟩ = some (.int .i64 0) := (blk_cell BK299.out 2).trans rfl; have hcz54_3 : w52.cell? ⟨gb299, 3, none⟩ = some (.int .i64 0) := (blk_cell BK299.out 3).trans rfl; have hfz54_0 := blk_frozen BK299.out 0; have hfz54_1 := blk_frozen BK299.out 1; have hfz54_2 := blk_frozen BK299.out 2; have hfz54_3 := blk_frozen BK299.out 3) | ((with_reducible refine gate_callee (f := 13) rfl ?_); refine goesL_ (some 75) rfl rfl Try.func13 (by kernel_rfl) rfl #[] rfl (by (try simp only [List.map_toArray, List.map_cons, List.map_nil]); first | done | rfl | (simp only [List.length_drop, List.length_take]; rfl)) ?_; (with_reducible refine (weirgatelaw05_sanity.calls kj9  false _ A29.out).mono ?_); rintro e w55 ⟨rfl, hb⟩; refine ⟨_, rfl, ?_⟩; have n0_ := Aside0.mk (blk_below (g := gb288) (o := .cells #[.int .i64 a3_0, .int .i64 a3_1] 23 (0, 0)) (by refine pk ?_; refine blk_far ?_ NB288_299.out _; refine pk ?_; refine blk_far ?_ NB288_299.out _; refine pk ?_; refine blk_far ?_ NB288_299.out _; refine pk ?_; refine blk_far ?_ NB288_299.out _; refine pk ?_; exact BK288.out) hb); have n1_ := Aside0.mk (blk_below (g := gb299) (o := .cells #[.int .i64 t294, .int .i64 t295, .int .i64 t296, .int .i64 t297] 25 (0, 0)) (by refine pk ?_; refine blk_put (cs := #[.int .i64 t294, .int .i64 t295, .int .i64 t296, .int .i64 0]) ?_ 3 _ rfl; refine pk ?_; refine blk_put (cs := #[.int .i64 t294, .int .i64 t295, .int .i64 0, .int .i64 0]) ?_ 2 _ rfl; refine pk ?_; refine blk_put (cs := #[.int .i64 t294, .int .i64 0, .int .i64 0, .int .i64 0]) ?_ 1 _ rfl; refine pk ?_; refine blk_put (cs := #[.int .i64 0, .int .i64 0, .int .i64 0, .int .i64 0]) ?_ 0 _ rfl; refine pk ?_; exact BK299.out) hb); have n2_ := Aside0.mk (below_step (bk HB.out) hb); clear BK288 BK299 HB; have BK288 := n0_; have BK299 := n1_; have HB := n2_; clear n0_ n1_ n2_; (try clear hb); (try clear hb2); (try clear hk); (try clear hi)))
            go_ret
            exact ⟨by first | rfl | (simp [errW_none, errW_some] <;> rfl) | (simp [*, errW_none, errW_some] <;> rfl), bk HB.out⟩
        · rw [if_neg c27] at H
          have c27b0 : (t293 == 0) = false := beq_eq_false_iff_ne.mpr c27
          have c27b1 : (t293 != 0) = true := bne_iff_ne.mpr c27
          replace H := Option.bind_eq_some_iff.mp H
          obtain ⟨t302, A560, H⟩ := H
          replace H : (some t302) = some r := H
          have A56 := Aside0.mk A560
          clear A560
          obtain rfl := Option.some.inj H
          go_wp2_with (first | ((with_reducible refine gate_callee (f := 26) rfl ?_); refine goesL_ (some 62) rfl rfl Try.func26 (by kernel_rfl) rfl #[.int .i64 a0, .slice A1 l1.length c1, .int .i64 a4] rfl (by (try simp only [List.map_toArray, List.map_cons, List.map_nil]); first | done | rfl | (simp only [List.length_drop, List.length_take]; rfl)) ?_; (with_reducible refine (clock_Show.calls a0 _ _ l1 a4 t292 t293 _ ?side1 ?side2 A26.out).mono ?_); (case side1 => repeat (first | exact (Kd.C_below HR1.out HB.out) | (with_reducible refine Kd.C_alloc ?_ _) | (with_reducible refine Kd.C_drewN ?_ _) | (with_reducible refine Kd.C_drew ?_))); (case side2 => exact HC1.out); rintro e w57 ⟨rfl, hb⟩; refine ⟨_, rfl, ?_⟩; have n0_ := Aside0.mk (blk_below (pk BK288.out) hb); have n1_ := Aside0.mk (below_step (bk HB.out) hb); clear BK288 HB; have BK288 := n0_; have HB := n1_; clear n0_ n1_; (try clear hb); (try clear hb2); (try clear hk); (try clear hi)) | ((with_reducible refine gate_callee (f := 13) rfl ?_); refine goesL_ (some 67) rfl rfl Try.func13 (by kernel_rfl) rfl #[] rfl (by (try simp only [List.map_toArray, List.map_cons, List.map_nil]); first | done | rfl | (simp only [List.length_drop, List.length_take]; rfl)) ?_; (with_reducible refine (weirgatelaw05_sanity.calls kj9  t302 _ A56.out).mono ?_); rintro e w58 ⟨rfl, hb⟩; refine ⟨_, rfl, ?_⟩; have n0_ := Aside0.mk (blk_below (pk BK288.out) hb); have n1_ := Aside0.mk (below_step (bk HB.out) hb); clear BK288 HB; have BK288 := n0_; have HB := n1_; clear n0_ n1_; (try clear hb); (try clear hb2); (try clear hk); (try clear hi)))
          go_ret
          exact ⟨by first | rfl | (simp [errW_none, errW_some] <;> rfl) | (simp [*, errW_none, errW_some] <;> rfl), bk HB.out⟩

end Go.Proofs.Ytijeiemdhpkklaa.PP
