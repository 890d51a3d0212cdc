-- laid by a program of this session (wip/xprint), out of the translation
import Derived.Test.YtekbhcciabgnhaaPP0
import Derived.Test.YtekbhcciabgnhaaPP1
import Derived.Test.YtekbhcciabgnhaaGDigest
namespace Go.Proofs.Ytekbhcciabgnhaa.PP
open Go.RowKit Go.Proofs.YtekbhcciabgnhaaW.PrintWords Go.Proofs.YtekbhcciabgnhaaW.PrintLast Go.Proofs.YtekbhcciabgnhaaW.PrintMore
attribute [local go_sem] max2_int min2_int max_two min_two max_three min_three max_four min_four   -- for this text's walks alone
set_option linter.unusedVariables false
set_option linter.unusedSimpArgs false

attribute [local go_sem] isSome_put
/-! ### api_Digest_40: function 40 -/
def api_Digest_40.l0 : Nat → List Int → List (S57) → Int → Int → Option (List Int)
  | 0, _, _, _, _ => none
  | k + 1, x5, x11, x12, x13 => if x13 < x12 then (if 0 ≤ x13 then (if x13 < (x11.length : Int) then ((wire_digest.f ((rd_T57 x11 x13).f0) ((rd_T57 x11 x13).f1) ((rd_T57 x11 x13).f2) ((rd_T57 x11 x13).f3) ((rd_T57 x11 x13).f4) ((rd_T57 x11 x13).f5) ((rd_T57 x11 x13).f6) ((rd_T57 x11 x13).f7) ((rd_T57 x11 x13).f8) ((rd_T57 x11 x13).f9) ((rd_T57 x11 x13).f10) ((rd_T57 x11 x13).f11) ((rd_T57 x11 x13).f12) ((rd_T57 x11 x13).f13) ((rd_T57 x11 x13).f14) ((rd_T57 x11 x13).f15)).bind fun t145 => (if x5.length + t145.length < 140737488355328 then (api_Digest_40.l0 k (x5 ++ t145) x11 x12 (wrap64 (x13 + 1))) else (none))) else (none)) else (none)) else (some x5)
def api_Digest_40.f (k : Nat) (l0 : List (S57))  : Option (List Int) := (wire_Int.f k (l0.length : Int)).bind fun t140 => (api_Digest_40.l0 k t140 l0 (l0.length : Int) 0)
theorem api_Digest_40.mono_l : ∀ k, (∀ y0 y1 y2 y3, LeO (api_Digest_40.l0 k y0 y1 y2 y3) (api_Digest_40.l0 (k + 1) y0 y1 y2 y3))
  | 0 => fun _ _ _ _ r h => by simp [api_Digest_40.l0] at h
  | k + 1 => by
    have ih0 := api_Digest_40.mono_l k
    · intro y0 y1 y2 y3
      unfold api_Digest_40.l0
      repeat' first
      | (with_reducible exact ih0 _ _ _ _)
      | (with_reducible exact wire_Int.mono _ _)
      | (with_reducible exact LeO.refl _)
      | (with_reducible exact LeO.none _)
      | (with_reducible refine LeO.ite ?_ ?_)
      | (with_reducible refine LeO.bind ?_ (fun _ => ?_))
      | exact ih0 _ _ _ _
      | exact wire_Int.mono _ _
      | exact LeO.none _
      | refine LeO.ite ?_ ?_
      | refine LeO.bind ?_ (fun _ => ?_)
theorem api_Digest_40.mono : ∀ a0 k, LeO (api_Digest_40.f k a0) (api_Digest_40.f (k + 1) a0) := by
  intro a0 k
  have ih0 := api_Digest_40.mono_l k
  unfold api_Digest_40.f
  repeat' first
      | (with_reducible exact ih0 _ _ _ _)
      | (with_reducible exact wire_Int.mono _ _)
      | (with_reducible exact LeO.refl _)
      | (with_reducible exact LeO.none _)
      | (with_reducible refine LeO.ite ?_ ?_)
      | (with_reducible refine LeO.bind ?_ (fun _ => ?_))
      | exact ih0 _ _ _ _
      | exact wire_Int.mono _ _
      | exact LeO.none _
      | refine LeO.ite ?_ ?_
      | refine LeO.bind ?_ (fun _ => ?_)
set_option maxHeartbeats 8000000 in
set_option maxRecDepth 100000 in
theorem api_Digest_40.calls (k : Nat) (A0 : Option Addr) (c0 : Nat) (l0 : List (S57))  (r : List Int) (w : World) (hr0 : Kd.C k57 w A0 l0.length l0) (hc0 : l0.length ≤ c0) (h : api_Digest_40.f k l0 = some r) :
    Calls Try.prog 40 #[.slice A0 l0.length c0, .func (.func 41) #[] #[]] w fun e w' => ∃ v0_ : Value, e = .returned (v0_) ∧ Kd.R (Kd.int .u8) 5 w' w.heap.size (fun _ => True) v0_ r ∧ Below w.heap.size w w' := by
  have hu57 := Try.underlying57
  have HR0 := Aside0.mk hr0
  have HC0 := Aside0.mk hc0
  clear hr0 hc0
  have HB := Aside0.mk (Below.refl w.heap.size w)
  have H : ((wire_Int.f k (l0.length : Int)).bind fun t140 => (api_Digest_40.l0 k t140 l0 (l0.length : Int) 0)) = some r := h
  clear h
  replace H := Option.bind_eq_some_iff.mp H
  obtain ⟨t140, A30, H⟩ := H
  replace H : (api_Digest_40.l0 k t140 l0 (l0.length : Int) 0) = some r := H
  have A3 := Aside0.mk A30
  clear A30
  have H' := Aside0.mk H
  clear H
  go_enter Try.func40, Try.ntmps40
  go_wp2_with (first | ((with_reducible refine gate_callee (f := 14) rfl ?_); refine goesL_ (some 10) rfl rfl Try.func14 (by kernel_rfl) rfl #[.int .i64 (l0.length : Int)] rfl (by (try simp only [List.map_toArray, List.map_cons, List.map_nil]); first | done | rfl | (simp only [List.length_drop, List.length_take]; rfl)) ?_; (with_reducible refine (wire_Int.calls k (l0.length : Int) t140 _ A3.out).mono ?_); rintro e w4 ⟨v141, rfl, ho0, hb⟩; refine ⟨_, rfl, ?_⟩; have n0_ := Aside0.mk (Kd.R_lower ho0 (below_size (bk HB.out))); have n1_ := Aside0.mk (below_step (bk HB.out) hb); clear HB; have HO142 := n0_; have HB := n1_; clear n0_ n1_; (try clear hb); (try clear hb2); (try clear hk); (try clear hi); (try clear ho0)))
  go_loopg [5, 13] k (fun kq v5 v13 w' => ∃ (x5_1 : List Int) (x13_1 : Int), v13 = .int .i64 x13_1 ∧ Aside0 (api_Digest_40.l0 kq x5_1 l0 (l0.length : Int) x13_1 = some r) ∧ Aside0 (kq ≤ k) ∧ Aside0 (Kd.R (Kd.int .u8) 5 w' w.heap.size (fun _ => True) v5 x5_1) ∧ Aside0 (Below w.heap.size w w'))
  case atStart => exact ⟨(t140), (0), (by first | rfl | (simp; done) | (simp [*]; done) | (simp only [show ∀ p : Prop, Aside0 p = p from fun p => propext ⟨Aside0.out, Aside0.mk⟩] at *; simp_all; done)), H', ⟨Nat.le_refl _⟩, ⟨rk HO142.out⟩, ⟨bk HB.out⟩⟩
  case round =>
    clear H'
    try clear c1
    try clear p2
    try clear c4
    obtain ⟨x5_1, x13_1, rfl, HA, HK1, HO_5, HB⟩ := hrel
    cases gk with
    | zero => exact absurd HA.out (by simp [api_Digest_40.l0])
    | succ k1 =>
      have H := HA.out
      clear HA
      simp only [api_Digest_40.l0] at H
      by_cases c5 : x13_1 < (l0.length : Int)
      · rw [if_pos c5] at H
        have c5b0 : decide (x13_1 < (l0.length : Int)) = true := decide_eq_true c5
        clear c5
        by_cases c6 : 0 ≤ x13_1
        · rw [if_pos c6] at H
          have c6b0 : decide (0 ≤ x13_1) = true := decide_eq_true c6
          clear c6
          by_cases c7 : x13_1 < (l0.length : Int)
          · rw [if_pos c7] at H
            have c7b0 : decide (x13_1 < (l0.length : Int)) = true := decide_eq_true c7
            clear c7
            replace H := Option.bind_eq_some_iff.mp H
            obtain ⟨t145, A80, H⟩ := H
            replace H : (if x5_1.length + t145.length < 140737488355328 then (api_Digest_40.l0 k1 (x5_1 ++ t145) l0 (l0.length : Int) (wrap64 (x13_1 + 1))) else (none)) = some r := H
            have A8 := Aside0.mk A80
            clear A80
            by_cases c9 : x5_1.length + t145.length < 140737488355328
            · rw [if_pos c9] at H
              have LMc9 := Aside0.mk c9
              clear c9
              obtain ⟨y148, hy148⟩ : ∃ y_ : List Int, y_ = (x5_1 ++ t145) := ⟨_, rfl⟩
              replace H : (api_Digest_40.l0 k1 y148 l0 (l0.length : Int) (wrap64 (x13_1 + 1))) = some r := by first | (rw [hy148]; with_reducible exact H) | (have H2_ := (Option.bind_some _ _).symm.trans H; rw [hy148]; with_reducible exact H2_) | (have H2_ := (Option.bind_some _ _).symm.trans H; with_reducible exact H2_) | with_reducible exact H | (rw [hy148]; exact H) | exact H
              have Ny148 := Aside0.mk hy148
              clear hy148
              have H' := Aside0.mk H
              clear H
              have p143 : 0 ≤ (x13_1 : Int) := of_decide_eq_true (by first | (with_reducible assumption) | assumption)
              have q143 : x13_1 < (l0.length : Int) := of_decide_eq_true (by first | (with_reducible assumption) | assumption)
              obtain ⟨ad143, e143, hx143_0, hx143_1, hx143_2, hx143_3, hx143_4, hx143_5, hx143_6, hx143_7, hx143_8, hx143_9, hx143_10, hx143_11, hx143_12, hx143_13, hx143_14, hx143_15⟩ := at_T57 HR0.out x13_1 p143 q143
              cases e143
              replace hx143_0 := (HB.out.cell (World.block_lt_of_cell? w _ hx143_0)).trans hx143_0
              replace hx143_1 := (HB.out.cell (World.block_lt_of_cell? w _ hx143_1)).trans hx143_1
              replace hx143_2 := (HB.out.cell (World.block_lt_of_cell? w _ hx143_2)).trans hx143_2
              replace hx143_3 := (HB.out.cell (World.block_lt_of_cell? w _ hx143_3)).trans hx143_3
              replace hx143_4 := (HB.out.cell (World.block_lt_of_cell? w _ hx143_4)).trans hx143_4
              replace hx143_5 := (HB.out.cell (World.block_lt_of_cell? w _ hx143_5)).trans hx143_5
              replace hx143_6 := (HB.out.cell (World.block_lt_of_cell? w _ hx143_6)).trans hx143_6
              replace hx143_7 := (HB.out.cell (World.block_lt_of_cell? w _ hx143_7)).trans hx143_7
              replace hx143_8 := (HB.out.cell (World.block_lt_of_cell? w _ hx143_8)).trans hx143_8
              replace hx143_9 := (HB.out.cell (World.block_lt_of_cell? w _ hx143_9)).trans hx143_9
              replace hx143_10 := (HB.out.cell (World.block_lt_of_cell? w _ hx143_10)).trans hx143_10
              replace hx143_11 := (HB.out.cell (World.block_lt_of_cell? w _ hx143_11)).trans hx143_11
              replace hx143_12 := (HB.out.cell (World.block_lt_of_cell? w _ hx143_12)).trans hx143_12
              replace hx143_13 := (HB.out.cell (World.block_lt_of_cell? w _ hx143_13)).trans hx143_13
              replace hx143_14 := (HB.out.cell (World.block_lt_of_cell? w _ hx143_14)).trans hx143_14
              replace hx143_15 := (HB.out.cell (World.block_lt_of_cell? w _ hx143_15)).trans hx143_15
              replace p143 := eq_true p143
              replace q143 := eq_true q143
              go_wp2_with (first | ((with_reducible refine gate_dst (N := 7) rfl ?_); refine box_event ?hg (N := 7) ?hd (cs := #[.int .u8 0, .int .u8 0, .int .u8 0, .int .u8 0, .int .u8 0, .int .u8 0, .int .u8 0, .int .u8 0, .int .u8 0, .int .u8 0, .int .u8 0, .int .u8 0, .int .u8 0, .int .u8 0, .int .u8 0, .int .u8 0]) (t := 57) ?hr ?_; (case hd => rfl); (case hg => rfl); (case hr => first | (go_simp; done) | (go_simp; rfl)); intro gb144 hg w10 hbox hb; have n0_ := Aside0.mk (Kd.R_below (rk HO_5.out) hb); have n1_ := Aside0.mk (below_step (bk HB.out) hb); have n2_ := Aside0.mk (hbox); have n3_ := Aside0.mk ((by rw [hg]; exact (below_size (bk HB.out)) : w.heap.size ≤ gb144)); have n4_ := Aside0.mk ((by rw [hg]; exact (below_size (bk HB.out)) : w.heap.size ≤ gb144)); clear HO_5 HB; have HO_5 := n0_; have HB := n1_; have BK144 := n2_; have GW144 := n3_; have GE144 := n4_; clear n0_ n1_ n2_ n3_ n4_; clear hb hbox hg; have hcz11_0 : w10.cell? ⟨gb144, 0, none⟩ = some (.int .u8 0) := (blk_cell BK144.out 0).trans rfl; have hcz11_1 : w10.cell? ⟨gb144, 1, none⟩ = some (.int .u8 0) := (blk_cell BK144.out 1).trans rfl; have hcz11_2 : w10.cell? ⟨gb144, 2, none⟩ = some (.int .u8 0) := (blk_cell BK144.out 2).trans rfl; have hcz11_3 : w10.cell? ⟨gb144, 3, none⟩ = some (.int .u8 0) := (blk_cell BK144.out 3).trans rfl; have hcz11_4 : w10.cell? ⟨gb144, 4, none⟩ = some (.int .u8 0) := (blk_cell BK144.out 4).trans rfl; have hcz11_5 : w10.cell? ⟨gb144, 5, none⟩ = some (.int .u8 0) := (blk_cell BK144.out 5).trans rfl; have hcz11_6 : w10.cell? ⟨gb144, 6, none⟩ = some (.int .u8 0) := (blk_cell BK144.out 6).trans rfl; have hcz11_7 : w10.cell? ⟨gb144, 7, none⟩ = some (.int .u8 0) := (blk_cell BK144.out 7).trans rfl; have hcz11_8 : w10.cell? ⟨gb144, 8, none⟩ = some (.int .u8 0) := (blk_cell BK144.out 8).trans rfl; have hcz11_9 : w10.cell? ⟨gb144, 9, none⟩ = some (.int .u8 0) := (blk_cell BK144.out 9).trans rfl; have hcz11_10 : w10.cell? ⟨gb144, 10, none⟩ = some (.int .u8 0) := (blk_cell BK144.out 10).trans rfl; have hcz11_11 : w10.cell? ⟨gb144, 11, none⟩ = some (.int .u8 0) := (blk_cell BK144.out 11).trans rfl; have hcz11_12 : w10.cell? ⟨gb144, 12, none⟩ = some (.int .u8 0) := (blk_cell BK144.out 12).trans rfl; have hcz11_13 : w10.cell? ⟨gb144, 13, none⟩ = some (.int .u8 0) := (blk_cell BK144.out 13).trans rfl; have hcz11_14 : w10.cell? ⟨gb144, 14, none⟩ = some (.int .u8 0) := (blk_cell BK144.out 14).trans rfl; have hcz11_15 : w10.cell? ⟨gb144, 15, none⟩ = some (.int .u8 0) := (blk_cell BK144.out 15).trans rfl; have hfz11_0 := blk_frozen BK144.out 0; have hfz11_1 := blk_frozen BK144.out 1; have hfz11_2 := blk_frozen BK144.out 2; have hfz11_3 := blk_frozen BK144.out 3; have hfz11_4 := blk_frozen BK144.out 4; have hfz11_5 := blk_frozen BK144.out 5; have hfz11_6 := blk_frozen BK144.out 6; have hfz11_7 := blk_frozen BK144.out 7; have hfz11_8 := blk_frozen BK144.out 8; have hfz11_9 := blk_frozen BK144.out 9; have hfz11_10 := blk_frozen BK144.out 10; have hfz11_11 := blk_frozen BK144.out 11; have hfz11_12 := blk_frozen BK144.out 12; have hfz11_13 := blk_frozen BK144.out 13; have hfz11_14 := blk_frozen BK144.out 14; have hfz11_15 := blk_frozen BK144.out 15) | ((with_reducible refine gate_callee_t (t := 18) rfl ?_); refine goesLT_ (t := 18) (f := 41) (some 20) rfl rfl rfl Try.func41 (by kernel_rfl) rfl #[.agg #[.int .u8 ((rd_T57 l0 x13_1).f0), .int .u8 ((rd_T57 l0 x13_1).f1), .int .u8 ((rd_T57 l0 x13_1).f2), .int .u8 ((rd_T57 l0 x13_1).f3), .int .u8 ((rd_T57 l0 x13_1).f4), .int .u8 ((rd_T57 l0 x13_1).f5), .int .u8 ((rd_T57 l0 x13_1).f6), .int .u8 ((rd_T57 l0 x13_1).f7), .int .u8 ((rd_T57 l0 x13_1).f8), .int .u8 ((rd_T57 l0 x13_1).f9), .int .u8 ((rd_T57 l0 x13_1).f10), .int .u8 ((rd_T57 l0 x13_1).f11), .int .u8 ((rd_T57 l0 x13_1).f12), .int .u8 ((rd_T57 l0 x13_1).f13), .int .u8 ((rd_T57 l0 x13_1).f14), .int .u8 ((rd_T57 l0 x13_1).f15)]] rfl (by (try simp only [List.map_toArray, List.map_cons, List.map_nil]); first | done | rfl | (simp only [List.length_drop, List.length_take]; rfl)) ?_; (with_reducible refine (wire_digest.calls ((rd_T57 l0 x13_1).f0) ((rd_T57 l0 x13_1).f1) ((rd_T57 l0 x13_1).f2) ((rd_T57 l0 x13_1).f3) ((rd_T57 l0 x13_1).f4) ((rd_T57 l0 x13_1).f5) ((rd_T57 l0 x13_1).f6) ((rd_T57 l0 x13_1).f7) ((rd_T57 l0 x13_1).f8) ((rd_T57 l0 x13_1).f9) ((rd_T57 l0 x13_1).f10) ((rd_T57 l0 x13_1).f11) ((rd_T57 l0 x13_1).f12) ((rd_T57 l0 x13_1).f13) ((rd_T57 l0 x13_1).f14) ((rd_T57 l0 x13_1).f15) t145 _ A8.out).mono ?_); rintro e w12 ⟨v146, rfl, ho0, hb⟩; refine ⟨_, rfl, ?_⟩; have n0_ := Aside0.mk (Kd.R_elder' (by (with_reducible repeat (first | apply Kd.R_alloc | apply Kd.R_drewN | apply Kd.R_drew)); exact (Kd.R_mono (Kd.R_far (p := ⟨gb144, 15, none⟩) (Kd.R_far (p := ⟨gb144, 14, none⟩) (Kd.R_far (p := ⟨gb144, 13, none⟩) (Kd.R_far (p := ⟨gb144, 12, none⟩) (Kd.R_far (p := ⟨gb144, 11, none⟩) (Kd.R_far (p := ⟨gb144, 10, none⟩) (Kd.R_far (p := ⟨gb144, 9, none⟩) (Kd.R_far (p := ⟨gb144, 8, none⟩) (Kd.R_far (p := ⟨gb144, 7, none⟩) (Kd.R_far (p := ⟨gb144, 6, none⟩) (Kd.R_far (p := ⟨gb144, 5, none⟩) (Kd.R_far (p := ⟨gb144, 4, none⟩) (Kd.R_far (p := ⟨gb144, 3, none⟩) (Kd.R_far (p := ⟨gb144, 2, none⟩) (Kd.R_far (p := ⟨gb144, 1, none⟩) (Kd.R_far (p := ⟨gb144, 0, none⟩) (Kd.R_types HO_5.out BK144.out (by decide)) (fun _ hk => hk.2) (.int .u8 ((rd_T57 l0 x13_1).f0))) (fun _ hk => hk.2) (.int .u8 ((rd_T57 l0 x13_1).f1))) (fun _ hk => hk.2) (.int .u8 ((rd_T57 l0 x13_1).f2))) (fun _ hk => hk.2) (.int .u8 ((rd_T57 l0 x13_1).f3))) (fun _ hk => hk.2) (.int .u8 ((rd_T57 l0 x13_1).f4))) (fun _ hk => hk.2) (.int .u8 ((rd_T57 l0 x13_1).f5))) (fun _ hk => hk.2) (.int .u8 ((rd_T57 l0 x13_1).f6))) (fun _ hk => hk.2) (.int .u8 ((rd_T57 l0 x13_1).f7))) (fun _ hk => hk.2) (.int .u8 ((rd_T57 l0 x13_1).f8))) (fun _ hk => hk.2) (.int .u8 ((rd_T57 l0 x13_1).f9))) (fun _ hk => hk.2) (.int .u8 ((rd_T57 l0 x13_1).f10))) (fun _ hk => hk.2) (.int .u8 ((rd_T57 l0 x13_1).f11))) (fun _ hk => hk.2) (.int .u8 ((rd_T57 l0 x13_1).f12))) (fun _ hk => hk.2) (.int .u8 ((rd_T57 l0 x13_1).f13))) (fun _ hk => hk.2) (.int .u8 ((rd_T57 l0 x13_1).f14))) (fun _ hk => hk.2) (.int .u8 ((rd_T57 l0 x13_1).f15))) (fun _ h_ => h_.1))) (Kd.R_base ho0) hb); have n1_ := Aside0.mk (Kd.R_lower (Kd.R_new' ho0 (Kd.R_lt (by (with_reducible repeat (first | apply Kd.R_alloc | apply Kd.R_drewN | apply Kd.R_drew)); exact (Kd.R_mono (Kd.R_far (p := ⟨gb144, 15, none⟩) (Kd.R_far (p := ⟨gb144, 14, none⟩) (Kd.R_far (p := ⟨gb144, 13, none⟩) (Kd.R_far (p := ⟨gb144, 12, none⟩) (Kd.R_far (p := ⟨gb144, 11, none⟩) (Kd.R_far (p := ⟨gb144, 10, none⟩) (Kd.R_far (p := ⟨gb144, 9, none⟩) (Kd.R_far (p := ⟨gb144, 8, none⟩) (Kd.R_far (p := ⟨gb144, 7, none⟩) (Kd.R_far (p := ⟨gb144, 6, none⟩) (Kd.R_far (p := ⟨gb144, 5, none⟩) (Kd.R_far (p := ⟨gb144, 4, none⟩) (Kd.R_far (p := ⟨gb144, 3, none⟩) (Kd.R_far (p := ⟨gb144, 2, none⟩) (Kd.R_far (p := ⟨gb144, 1, none⟩) (Kd.R_far (p := ⟨gb144, 0, none⟩) (Kd.R_types HO_5.out BK144.out (by decide)) (fun _ hk => hk.2) (.int .u8 ((rd_T57 l0 x13_1).f0))) (fun _ hk => hk.2) (.int .u8 ((rd_T57 l0 x13_1).f1))) (fun _ hk => hk.2) (.int .u8 ((rd_T57 l0 x13_1).f2))) (fun _ hk => hk.2) (.int .u8 ((rd_T57 l0 x13_1).f3))) (fun _ hk => hk.2) (.int .u8 ((rd_T57 l0 x13_1).f4))) (fun _ hk => hk.2) (.int .u8 ((rd_T57 l0 x13_1).f5))) (fun _ hk => hk.2) (.int .u8 ((rd_T57 l0 x13_1).f6))) (fun _ hk => hk.2) (.int .u8 ((rd_T57 l0 x13_1).f7))) (fun _ hk => hk.2) (.int .u8 ((rd_T57 l0 x13_1).f8))) (fun _ hk => hk.2) (.int .u8 ((rd_T57 l0 x13_1).f9))) (fun _ hk => hk.2) (.int .u8 ((rd_T57 l0 x13_1).f10))) (fun _ hk => hk.2) (.int .u8 ((rd_T57 l0 x13_1).f11))) (fun _ hk => hk.2) (.int .u8 ((rd_T57 l0 x13_1).f12))) (fun _ hk => hk.2) (.int .u8 ((rd_T57 l0 x13_1).f13))) (fun _ hk => hk.2) (.int .u8 ((rd_T57 l0 x13_1).f14))) (fun _ hk => hk.2) (.int .u8 ((rd_T57 l0 x13_1).f15))) (fun _ h_ => h_.1))))) (below_size (bk HB.out))); have n2_ := Aside0.mk (blk_below (g := gb144) (o := .cells #[.int .u8 ((rd_T57 l0 x13_1).f0), .int .u8 ((rd_T57 l0 x13_1).f1), .int .u8 ((rd_T57 l0 x13_1).f2), .int .u8 ((rd_T57 l0 x13_1).f3), .int .u8 ((rd_T57 l0 x13_1).f4), .int .u8 ((rd_T57 l0 x13_1).f5), .int .u8 ((rd_T57 l0 x13_1).f6), .int .u8 ((rd_T57 l0 x13_1).f7), .int .u8 ((rd_T57 l0 x13_1).f8), .int .u8 ((rd_T57 l0 x13_1).f9), .int .u8 ((rd_T57 l0 x13_1).f10), .int .u8 ((rd_T57 l0 x13_1).f11), .int .u8 ((rd_T57 l0 x13_1).f12), .int .u8 ((rd_T57 l0 x13_1).f13), .int .u8 ((rd_T57 l0 x13_1).f14), .int .u8 ((rd_T57 l0 x13_1).f15)] 57 (0, 0)) (by refine pk ?_; refine blk_put (cs := #[.int .u8 ((rd_T57 l0 x13_1).f0), .int .u8 ((rd_T57 l0 x13_1).f1), .int .u8 ((rd_T57 l0 x13_1).f2), .int .u8 ((rd_T57 l0 x13_1).f3), .int .u8 ((rd_T57 l0 x13_1).f4), .int .u8 ((rd_T57 l0 x13_1).f5), .int .u8 ((rd_T57 l0 x13_1).f6), .int .u8 ((rd_T57 l0 x13_1).f7), .int .u8 ((rd_T57 l0 x13_1).f8), .int .u8 ((rd_T57 l0 x13_1).f9), .int .u8 ((rd_T57 l0 x13_1).f10), .int .u8 ((rd_T57 l0 x13_1).f11), .int .u8 ((rd_T57 l0 x13_1).f12), .int .u8 ((rd_T57 l0 x13_1).f13), .int .u8 ((rd_T57 l0 x13_1).f14), .int .u8 0]) ?_ 15 _ rfl; refine pk ?_; refine blk_put (cs := #[.int .u8 ((rd_T57 l0 x13_1).f0), .int .u8 ((rd_T57 l0 x13_1).f1), .int .u8 ((rd_T57 l0 x13_1).f2), .int .u8 ((rd_T57 l0 x13_1).f3), .int .u8 ((rd_T57 l0 x13_1).f4), .int .u8 ((rd_T57 l0 x13_1).f5), .int .u8 ((rd_T57 l0 x13_1).f6), .int .u8 ((rd_T57 l0 x13_1).f7), .int .u8 ((rd_T57 l0 x13_1).f8), .int .u8 ((rd_T57 l0 x13_1).f9), .int .u8 ((rd_T57 l0 x13_1).f10), .int .u8 ((rd_T57 l0 x13_1).f11), .int .u8 ((rd_T57 l0 x13_1).f12), .int .u8 ((rd_T57 l0 x13_1).f13), .int .u8 0, .int .u8 0]) ?_ 14 _ rfl; refine pk ?_; refine blk_put (cs := #[.int .u8 ((rd_T57 l0 x13_1).f0), .int .u8 ((rd_T57 l0 x13_1).f1), .int .u8 ((rd_T57 l0 x13_1).f2), .int .u8 ((rd_T57 l0 x13_1).f3), .int .u8 ((rd_T57 l0 x13_1).f4), .int .u8 ((rd_T57 l0 x13_1).f5), .int .u8 ((rd_T57 l0 x13_1).f6), .int .u8 ((rd_T57 l0 x13_1).f7), .int .u8 ((rd_T57 l0 x13_1).f8), .int .u8 ((rd_T57 l0 x13_1).f9), .int .u8 ((rd_T57 l0 x13_1).f10), .int .u8 ((rd_T57 l0 x13_1).f11), .int .u8 ((rd_T57 l0 x13_1).f12), .int .u8 0, .int .u8 0, .int .u8 0]) ?_ 13 _ rfl; refine pk ?_; refine blk_put (cs := #[.int .u8 ((rd_T57 l0 x13_1).f0), .int .u8 ((rd_T57 l0 x13_1).f1), .int .u8 ((rd_T57 l0 x13_1).f2), .int .u8 ((rd_T57 l0 x13_1).f3), .int .u8 ((rd_T57 l0 x13_1).f4), .int .u8 ((rd_T57 l0 x13_1).f5), .int .u8 ((rd_T57 l0 x13_1).f6), .int .u8 ((rd_T57 l0 x13_1).f7), .int .u8 ((rd_T57 l0 x13_1).f8), .int .u8 ((rd_T57 l0 x13_1).f9), .int .u8 ((rd_T57 l0 x13_1).f10), .int .u8 ((rd_T57 l0 x13_1).f11), .int .u8 0, .int .u8 0, .int .u8 0, .int .u8 0]) ?_ 12 _ rfl; refine pk ?_; refine blk_put (cs := #[.int .u8 ((rd_T57 l0 x13_1).f0), .int .u8 ((rd_T57 l0 x13_1).f1), .int .u8 ((rd_T57 l0 x13_1).f2), .int .u8 ((rd_T57 l0 x13_1).f3), .int .u8 ((rd_T57 l0 x13_1).f4), .int .u8 ((rd_T57 l0 x13_1).f5), .int .u8 ((rd_T57 l0 x13_1).f6), .int .u8 ((rd_T57 l0 x13_1).f7), .int .u8 ((rd_T57 l0 x13_1).f8), .int .u8 ((rd_T57 l0 x13_1).f9), .int .u8 ((rd_T57 l0 x13_1).f10), .int .u8 0, .int .u8 0, .int .u8 0, .int .u8 0, .int .u8 0]) ?_ 11 _ rfl; refine pk ?_; refine blk_put (cs := #[.int .u8 ((rd_T57 l0 x13_1).f0), .int .u8 ((rd_T57 l0 x13_1).f1), .int .u8 ((rd_T57 l0 x13_1).f2), .int .u8 ((rd_T57 l0 x13_1).f3), .int .u8 ((rd_T57 l0 x13_1).f4), .int .u8 ((rd_T57 l0 x13_1).f5), .int .u8 ((rd_T57 l0 x13_1).f6), .int .u8 ((rd_T57 l0 x13_1).f7), .int .u8 ((rd_T57 l0 x13_1).f8), .int .u8 ((rd_T57 l0 x13_1).f9), .int .u8 0, .int .u8 0, .int .u8 0, .int .u8 0, .int .u8 0, .int .u8 0]) ?_ 10 _ rfl; refine pk ?_; refine blk_put (cs := #[.int .u8 ((rd_T57 l0 x13_1).f0), .int .u8 ((rd_T57 l0 x13_1).f1), .int .u8 ((rd_T57 l0 x13_1).f2), .int .u8 ((rd_T57 l0 x13_1).f3), .int .u8 ((rd_T57 l0 x13_1).f4), .int .u8 ((rd_T57 l0 x13_1).f5), .int .u8 ((rd_T57 l0 x13_1).f6), .int .u8 ((rd_T57 l0 x13_1).f7), .int .u8 ((rd_T57 l0 x13_1).f8), .int .u8 0, .int .u8 0, .int .u8 0, .int .u8 0, .int .u8 0, .int .u8 0, .int .u8 0]) ?_ 9 _ rfl; refine pk ?_; refine blk_put (cs := #[.int .u8 ((rd_T57 l0 x13_1).f0), .int .u8 ((rd_T57 l0 x13_1).f1), .int .u8 ((rd_T57 l0 x13_1).f2), .int .u8 ((rd_T57 l0 x13_1).f3), .int .u8 ((rd_T57 l0 x13_1).f4), .int .u8 ((rd_T57 l0 x13_1).f5), .int .u8 ((rd_T57 l0 x13_1).f6), .int .u8 ((rd_T57 l0 x13_1).f7), .int .u8 0, .int .u8 0, .int .u8 0, .int .u8 0, .int .u8 0, .int .u8 0, .int .u8 0, .int .u8 0]) ?_ 8 _ rfl; refine pk ?_; refine blk_put (cs := #[.int .u8 ((rd_T57 l0 x13_1).f0), .int .u8 ((rd_T57 l0 x13_1).f1), .int .u8 ((rd_T57 l0 x13_1).f2), .int .u8 ((rd_T57 l0 x13_1).f3), .int .u8 ((rd_T57 l0 x13_1).f4), .int .u8 ((rd_T57 l0 x13_1).f5), .int .u8 ((rd_T57 l0 x13_1).f6), .int .u8 0, .int .u8 0, .int .u8 0, .int .u8 0, .int .u8 0, .int .u8 0, .int .u8 0, .int .u8 0, .int .u8 0]) ?_ 7 _ rfl; refine pk ?_; refine blk_put (cs := #[.int .u8 ((rd_T57 l0 x13_1).f0), .int .u8 ((rd_T57 l0 x13_1).f1), .int .u8 ((rd_T57 l0 x13_1).f2), .int .u8 ((rd_T57 l0 x13_1).f3), .int .u8 ((rd_T57 l0 x13_1).f4), .int .u8 ((rd_T57 l0 x13_1).f5), .int .u8 0, .int .u8 0, .int .u8 0, .int .u8 0, .int .u8 0, .int .u8 0, .int .u8 0, .int .u8 0, .int .u8 0, .int .u8 0]) ?_ 6 _ rfl; refine pk ?_; refine blk_put (cs := #[.int .u8 ((rd_T57 l0 x13_1).f0), .int .u8 ((rd_T57 l0 x13_1).f1), .int .u8 ((rd_T57 l0 x13_1).f2), .int .u8 ((rd_T57 l0 x13_1).f3), .int .u8 ((rd_T57 l0 x13_1).f4), .int .u8 0, .int .u8 0, .int .u8 0, .int .u8 0, .int .u8 0, .int .u8 0, .int .u8 0, .int .u8 0, .int .u8 0, .int .u8 0, .int .u8 0]) ?_ 5 _ rfl; refine pk ?_; refine blk_put (cs := #[.int .u8 ((rd_T57 l0 x13_1).f0), .int .u8 ((rd_T57 l0 x13_1).f1), .int .u8 ((rd_T57 l0 x13_1).f2), .int .u8 ((rd_T57 l0 x13_1).f3), .int .u8 0, .int .u8 0, .int .u8 0, .int .u8 0, .int .u8 0, .int .u8 0, .int .u8 0, .int .u8 0, .int .u8 0, .int .u8 0, .int .u8 0, .int .u8 0]) ?_ 4 _ rfl; refine pk ?_; refine blk_put (cs := #[.int .u8 ((rd_T57 l0 x13_1).f0), .int .u8 ((rd_T57 l0 x13_1).f1), .int .u8 ((rd_T57 l0 x13_1).f2), .int .u8 0, .int .u8 0, .int .u8 0, .int .u8 0, .int .u8 0, .int .u8 0, .int .u8 0, .int .u8 0, .int .u8 0, .int .u8 0, .int .u8 0, .int .u8 0, .int .u8 0]) ?_ 3 _ rfl; refine pk ?_; refine blk_put (cs := #[.int .u8 ((rd_T57 l0 x13_1).f0), .int .u8 ((rd_T57 l0 x13_1).f1), .int .u8 0, .int .u8 0, .int .u8 0, .int .u8 0, .int .u8 0, .int .u8 0, .int .u8 0, .int .u8 0, .int .u8 0, .int .u8 0, .int .u8 0, .int .u8 0, .int .u8 0, .int .u8 0]) ?_ 2 _ rfl; refine pk ?_; refine blk_put (cs := #[.int .u8 ((rd_T57 l0 x13_1).f0), .int .u8 0, .int .u8 0, .int .u8 0, .int .u8 0, .int .u8 0, .int .u8 0, .int .u8 0, .int .u8 0, .int .u8 0, .int .u8 0, .int .u8 0, .int .u8 0, .int .u8 0, .int .u8 0, .int .u8 0]) ?_ 1 _ rfl; refine pk ?_; refine blk_put (cs := #[.int .u8 0, .int .u8 0, .int .u8 0, .int .u8 0, .int .u8 0, .int .u8 0, .int .u8 0, .int .u8 0, .int .u8 0, .int .u8 0, .int .u8 0, .int .u8 0, .int .u8 0, .int .u8 0, .int .u8 0, .int .u8 0]) ?_ 0 _ rfl; refine pk ?_; exact BK144.out) hb); have n3_ := Aside0.mk (below_step (bk HB.out) hb); clear HO_5 BK144 HB; have HO_5 := n0_; have HO147 := n1_; have BK144 := n2_; have HB := n3_; clear n0_ n1_ n2_ n3_; (try clear hb); (try clear hb2); (try clear hk); (try clear hi); (try clear ho0); obtain ⟨Ao14, co14, eo14⟩ := Kd.R_slice HO147.out; subst eo14) | ((with_reducible refine gate_builtin (b := .append) (xs := #[.tmp 17, .tmp 20]) rfl ?_); at_builtin; refine Kd.R_append_rows (Kd.int .u8) (w0 := w) w.heap.size rfl (.tmp 17) (.tmp 20) 28 5 (.int .u8 0) 1 rfl Try.underlying28 info5 rfl (by decide) (by omega) u5 x5_1 t145 _ _ _ (fun k_ => some k_ ≠ (.slice Ao14 t145.length co14 : Value).ownBlock) (fun _ => False) rfl rfl ?aO ?aR (fun _ _ h => h) (fun _ h => h.elim) ?aF ?aB ?aS ?aL ?_; (case aR => repeat (first | exact (Kd.R_reads' HO147.out).2.2 | (with_reducible refine Kd.C_alloc ?_ _) | (with_reducible refine Kd.C_drewN ?_ _) | (with_reducible refine Kd.C_drew ?_))); (case aB => exact (bk HB.out)); (case aF => exact (fun k_ hk => Kd.fresh' (Kd.R_lt (rk HO147.out)) k_ hk)); (case aO => exact (by (with_reducible repeat (first | apply Kd.R_alloc | apply Kd.R_drewN | apply Kd.R_drew)); exact Kd.R_mono HO_5.out (fun _ hk => hk.2))); (case aS => exact (below_size (bk HB.out))); (case aL => have := LMc9.out; omega); intro v149 w13 ho hb hg hat; rw [← Ny148.out] at ho; have n0_ := Aside0.mk (blk_grown (g := gb144) (o := .cells #[.int .u8 ((rd_T57 l0 x13_1).f0), .int .u8 ((rd_T57 l0 x13_1).f1), .int .u8 ((rd_T57 l0 x13_1).f2), .int .u8 ((rd_T57 l0 x13_1).f3), .int .u8 ((rd_T57 l0 x13_1).f4), .int .u8 ((rd_T57 l0 x13_1).f5), .int .u8 ((rd_T57 l0 x13_1).f6), .int .u8 ((rd_T57 l0 x13_1).f7), .int .u8 ((rd_T57 l0 x13_1).f8), .int .u8 ((rd_T57 l0 x13_1).f9), .int .u8 ((rd_T57 l0 x13_1).f10), .int .u8 ((rd_T57 l0 x13_1).f11), .int .u8 ((rd_T57 l0 x13_1).f12), .int .u8 ((rd_T57 l0 x13_1).f13), .int .u8 ((rd_T57 l0 x13_1).f14), .int .u8 ((rd_T57 l0 x13_1).f15)] 57 (0, 0)) (pk BK144.out) hg (Kd.R_ne HO_5.out BK144.out (by decide))); have n1_ := Aside0.mk (Kd.R_after (ok := (fun _ => True)) (rk HO147.out) hg hat); have n2_ := Aside0.mk (hb); have n3_ := Aside0.mk (ho); clear BK144 HO147; clear HB HO_5; have BK144 := n0_; have HO147 := n1_; have HB := n2_; have HO150 := n3_; clear n0_ n1_ n2_ n3_; clear ho hb hg hat))
              go_roundg k1
              case measure => have := HK1.out; omega
              case rel => exact ⟨(y148), (wrap64 (x13_1 + 1)), (by first | rfl | (simp; done) | (simp [*]; done) | (simp only [show ∀ p : Prop, Aside0 p = p from fun p => propext ⟨Aside0.out, Aside0.mk⟩] at *; simp_all; done)), H', ⟨by have := HK1.out; omega⟩, ⟨by (with_reducible repeat (first | apply Kd.R_alloc | apply Kd.R_drewN | apply Kd.R_drew)); exact Kd.R_mono HO150.out (fun _ hk => trivial)⟩, ⟨bk HB.out⟩⟩
            · rw [if_neg c9] at H
              exact absurd H (by simp)
          · rw [if_neg c7] at H
            exact absurd H (by simp)
        · rw [if_neg c6] at H
          exact absurd H (by simp)
      · rw [if_neg c5] at H
        have c5b0 : decide (x13_1 < (l0.length : Int)) = false := decide_eq_false c5
        clear c5
        obtain rfl := Option.some.inj H
        go_wp2
        go_ret
        exact ⟨_, by first | rfl | (simp [errW_none, errW_some] <;> rfl) | (simp [*, errW_none, errW_some] <;> rfl), rk HO_5.out, bk HB.out⟩

/-! ### wire_Digests: function 22 -/
def wire_Digests.f (k : Nat) (l0 : List (S57)) : Option (List Int) := (api_Digest_40.f k l0).bind fun t151 => (some t151)
theorem wire_Digests.mono : ∀ a0 k, LeO (wire_Digests.f k a0) (wire_Digests.f (k + 1) a0) := by
  intro a0 k
  unfold wire_Digests.f
  repeat' first
      | (with_reducible exact api_Digest_40.mono _ _)
      | (with_reducible exact LeO.refl _)
      | (with_reducible exact LeO.none _)
      | (with_reducible refine LeO.ite ?_ ?_)
      | (with_reducible refine LeO.bind ?_ (fun _ => ?_))
      | exact api_Digest_40.mono _ _
      | exact LeO.none _
      | refine LeO.ite ?_ ?_
      | refine LeO.bind ?_ (fun _ => ?_)
set_option maxHeartbeats 8000000 in
set_option maxRecDepth 100000 in
theorem wire_Digests.calls (k : Nat) (A0 : Option Addr) (c0 : Nat) (l0 : List (S57)) (r : List Int) (w : World) (hr0 : Kd.C k57 w A0 l0.length l0) (hc0 : l0.length ≤ c0) (h : wire_Digests.f k l0 = some r) :
    Calls Try.prog 22 #[.slice A0 l0.length c0] w fun e w' => ∃ v0_ : Value, e = .returned (v0_) ∧ Kd.R (Kd.int .u8) 5 w' w.heap.size (fun _ => True) v0_ r ∧ Below w.heap.size w w' := by
  have HR0 := Aside0.mk hr0
  have HC0 := Aside0.mk hc0
  clear hr0 hc0
  have HB := Aside0.mk (Below.refl w.heap.size w)
  have H : ((api_Digest_40.f k l0).bind fun t151 => (some t151)) = some r := h
  clear h
  replace H := Option.bind_eq_some_iff.mp H
  obtain ⟨t151, A20, H⟩ := H
  replace H : (some t151) = some r := H
  have A2 := Aside0.mk A20
  clear A20
  obtain rfl := Option.some.inj H
  go_enter Try.func22, Try.ntmps22
  go_wp2_with (first | ((with_reducible refine gate_callee (f := 40) rfl ?_); refine goesL_ (some 4) rfl rfl Try.func40 (by kernel_rfl) rfl #[.slice A0 l0.length c0, .func (.func 41) #[] #[]] rfl (by (try simp only [List.map_toArray, List.map_cons, List.map_nil]); first | done | rfl | (simp only [List.length_drop, List.length_take]; rfl)) ?_; (with_reducible refine (api_Digest_40.calls k _ _ l0  t151 _ ?side1 ?side2 A2.out).mono ?_); (case side1 => repeat (first | exact HR0.out | (with_reducible refine Kd.C_alloc ?_ _) | (with_reducible refine Kd.C_drewN ?_ _) | (with_reducible refine Kd.C_drew ?_))); (case side2 => exact HC0.out); rintro e w3 ⟨v152, rfl, ho0, hb⟩; refine ⟨_, rfl, ?_⟩; have n0_ := Aside0.mk (Kd.R_lower ho0 (below_size (bk HB.out))); have n1_ := Aside0.mk (below_step (bk HB.out) hb); clear HB; have HO153 := n0_; have HB := n1_; clear n0_ n1_; (try clear hb); (try clear hb2); (try clear hk); (try clear hi); (try clear ho0)))
  go_ret
  exact ⟨_, by first | rfl | (simp [errW_none, errW_some] <;> rfl) | (simp [*, errW_none, errW_some] <;> rfl), rk HO153.out, bk HB.out⟩

end Go.Proofs.Ytekbhcciabgnhaa.PP
