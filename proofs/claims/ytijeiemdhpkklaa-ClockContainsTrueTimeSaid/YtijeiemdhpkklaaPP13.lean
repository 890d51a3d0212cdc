-- laid by a program of this session (wip/xprint), out of the translation
import Derived.Test.YtijeiemdhpkklaaPP0
import Derived.Test.YtijeiemdhpkklaaPP3
import Derived.Test.YtijeiemdhpkklaaGShow
namespace Go.Proofs.Ytijeiemdhpkklaa.PP
open Go.RowKit Go.Proofs.YtijeiemdhpkklaaW.PrintWords Go.Proofs.YtijeiemdhpkklaaW.PrintLast Go.Proofs.YtijeiemdhpkklaaW.PrintMore
attribute [local go_sem] max2_int min2_int max_two min_two max_three min_three max_four min_four   -- for this text's walks alone
set_option linter.unusedVariables false
set_option linter.unusedSimpArgs false

attribute [local go_sem] isSome_put
/-! ### weirgatelaw05_follow: function 27 -/
mutual
def weirgatelaw05_follow.l0 : Nat → Int → List (S70) → Int → List Int → List Int → Int → Int → Int → Int → Int → Option (Bool)
  | 0, _, _, _, _, _, _, _, _, _, _ => none
  | k + 1, x1, x2, x3, x4, x5, x13, x272000, x272001, x272002, x272003 => if x13 < (x4.length : Int) then (if 0 ≤ x13 then ((clock_Show.f x1 x2 (wrap64 (x3 + (wrap64 (rd x4 x13))))).bind fun bt273 => (if (wrap64 (x3 + (wrap64 (rd x4 x13)))) > 1099511627776 then (weirgatelaw05_follow.j1 k x1 x2 (wrap64 (x3 + (wrap64 (rd x4 x13)))) x4 x5 x13 bt273.1 true x272000 x272001 x272002 x272003) else (weirgatelaw05_follow.j1 k x1 x2 (wrap64 (x3 + (wrap64 (rd x4 x13)))) x4 x5 x13 bt273.1 (bt273.2 != 0) x272000 x272001 x272002 x272003))) else (none)) else (some true)
def weirgatelaw05_follow.j1 : Nat → Int → List (S70) → Int → List Int → List Int → Int → Int → Bool → Int → Int → Int → Int → Option (Bool)
  | 0, _, _, _, _, _, _, _, _, _, _, _, _ => none
  | k + 1, x1, x2, x3, x4, x5, x13, x14, x47, x272000, x272001, x272002, x272003 => if x47 = true then (some true) else ((clock_Read.f k x272000 x272001 x272002 x272003 x14).bind fun bt275 => (if bt275.2.2 = 0 then (if x3 < bt275.1 then (weirgatelaw05_follow.j2 k x1 x2 x3 x4 x5 x13 x14 true x272000 x272001 x272002 x272003) else (weirgatelaw05_follow.j2 k x1 x2 x3 x4 x5 x13 x14 (decide (x3 > bt275.2.1)) x272000 x272001 x272002 x272003)) else (weirgatelaw05_follow.j2 k x1 x2 x3 x4 x5 x13 x14 true x272000 x272001 x272002 x272003)))
def weirgatelaw05_follow.j2 : Nat → Int → List (S70) → Int → List Int → List Int → Int → Int → Bool → Int → Int → Int → Int → Option (Bool)
  | 0, _, _, _, _, _, _, _, _, _, _, _, _ => none
  | k + 1, x1, x2, x3, x4, x5, x13, x14, x67, x272000, x272001, x272002, x272003 => if x67 = true then (some false) else (if x13 < (x5.length : Int) then (if 0 ≤ x13 then (weirgatelaw05_follow.j3 k x1 x2 x3 x4 x5 x13 x14 ((Int.tmod (rd x5 x13) 2) == 1) x272000 x272001 x272002 x272003) else (none)) else (weirgatelaw05_follow.j3 k x1 x2 x3 x4 x5 x13 x14 false x272000 x272001 x272002 x272003))
def weirgatelaw05_follow.j3 : Nat → Int → List (S70) → Int → List Int → List Int → Int → Int → Bool → Int → Int → Int → Int → Option (Bool)
  | 0, _, _, _, _, _, _, _, _, _, _, _, _ => none
  | k + 1, x1, x2, x3, x4, x5, x13, x14, x79, x272000, x272001, x272002, x272003 => if x79 = true then (if 0 ≤ x13 then (if x13 < (x5.length : Int) then ((clock_Sync.f k x272000 x272001 x272002 x272003 x14 (mx (wrap64 (x3 - (Int.tmod (wrap64 (rd x5 x13)) 100))) 0) (mn (wrap64 (x3 + (Int.tmod (wrap64 (rd x5 x13)) 300))) 1099511627776)).bind fun bt282 => (if bt282.2.2.2.2 = 0 then (weirgatelaw05_follow.l0 k x1 x2 x3 x4 x5 (wrap64 (x13 + 1)) bt282.1 bt282.2.1 bt282.2.2.1 bt282.2.2.2.1) else (some false))) else (none)) else (none)) else (weirgatelaw05_follow.l0 k x1 x2 x3 x4 x5 (wrap64 (x13 + 1)) x272000 x272001 x272002 x272003)
end
def weirgatelaw05_follow.f (k : Nat) (a0_0 : Int) (a0_1 : Int) (a0_2 : Int) (a0_3 : Int) (a1 : Int) (l2 : List (S70)) (a3 : Int) (l4 : List Int) (l5 : List Int) : Option (Bool) := weirgatelaw05_follow.l0 k a1 l2 a3 l4 l5 0 a0_0 a0_1 a0_2 a0_3
theorem weirgatelaw05_follow.mono_l : ∀ k, (∀ y0 y1 y2 y3 y4 y5 y6 y7 y8 y9, LeO (weirgatelaw05_follow.l0 k y0 y1 y2 y3 y4 y5 y6 y7 y8 y9) (weirgatelaw05_follow.l0 (k + 1) y0 y1 y2 y3 y4 y5 y6 y7 y8 y9)) ∧ (∀ y0 y1 y2 y3 y4 y5 y6 y7 y8 y9 y10 y11, LeO (weirgatelaw05_follow.j1 k y0 y1 y2 y3 y4 y5 y6 y7 y8 y9 y10 y11) (weirgatelaw05_follow.j1 (k + 1) y0 y1 y2 y3 y4 y5 y6 y7 y8 y9 y10 y11)) ∧ (∀ y0 y1 y2 y3 y4 y5 y6 y7 y8 y9 y10 y11, LeO (weirgatelaw05_follow.j2 k y0 y1 y2 y3 y4 y5 y6 y7 y8 y9 y10 y11) (weirgatelaw05_follow.j2 (k + 1) y0 y1 y2 y3 y4 y5 y6 y7 y8 y9 y10 y11)) ∧ (∀ y0 y1 y2 y3 y4 y5 y6 y7 y8 y9 y10 y11, LeO (weirgatelaw05_follow.j3 k y0 y1 y2 y3 y4 y5 y6 y7 y8 y9 y10 y11) (weirgatelaw05_follow.j3 (k + 1) y0 y1 y2 y3 y4 y5 y6 y7 y8 y9 y10 y11))
  | 0 => ⟨fun _ _ _ _ _ _ _ _ _ _ r h => by simp [weirgatelaw05_follow.l0] at h, fun _ _ _ _ _ _ _ _ _ _ _ _ r h => by simp [weirgatelaw05_follow.j1] at h, fun _ _ _ _ _ _ _ _ _ _ _ _ r h => by simp [weirgatelaw05_follow.j2] at h, fun _ _ _ _ _ _ _ _ _ _ _ _ r h => by simp [weirgatelaw05_follow.j3] at h⟩
  | k + 1 => by
    obtain ⟨ih0, ih1, ih2, ih3⟩ := weirgatelaw05_follow.mono_l k
    refine ⟨?_, ?_, ?_, ?_⟩
    · intro y0 y1 y2 y3 y4 y5 y6 y7 y8 y9
      unfold weirgatelaw05_follow.l0
      repeat' first
      | (with_reducible exact ih0 _ _ _ _ _ _ _ _ _ _)
      | (with_reducible exact ih1 _ _ _ _ _ _ _ _ _ _ _ _)
      | (with_reducible exact ih2 _ _ _ _ _ _ _ _ _ _ _ _)
      | (with_reducible exact ih3 _ _ _ _ _ _ _ _ _ _ _ _)
      | (with_reducible exact clock_Read.mono _ _ _ _ _ _)
      | (with_reducible exact clock_Sync.mono _ _ _ _ _ _ _ _)
      | (with_reducible exact LeO.refl _)
      | (with_reducible exact LeO.none _)
      | (with_reducible refine LeO.ite ?_ ?_)
      | (with_reducible refine LeO.bind ?_ (fun _ => ?_))
      | exact ih0 _ _ _ _ _ _ _ _ _ _
      | exact ih1 _ _ _ _ _ _ _ _ _ _ _ _
      | exact ih2 _ _ _ _ _ _ _ _ _ _ _ _
      | exact ih3 _ _ _ _ _ _ _ _ _ _ _ _
      | exact clock_Read.mono _ _ _ _ _ _
      | exact clock_Sync.mono _ _ _ _ _ _ _ _
      | exact LeO.none _
      | refine LeO.ite ?_ ?_
      | refine LeO.bind ?_ (fun _ => ?_)
    · intro y0 y1 y2 y3 y4 y5 y6 y7 y8 y9 y10 y11
      unfold weirgatelaw05_follow.j1
      repeat' first
      | (with_reducible exact ih0 _ _ _ _ _ _ _ _ _ _)
      | (with_reducible exact ih1 _ _ _ _ _ _ _ _ _ _ _ _)
      | (with_reducible exact ih2 _ _ _ _ _ _ _ _ _ _ _ _)
      | (with_reducible exact ih3 _ _ _ _ _ _ _ _ _ _ _ _)
      | (with_reducible exact clock_Read.mono _ _ _ _ _ _)
      | (with_reducible exact clock_Sync.mono _ _ _ _ _ _ _ _)
      | (with_reducible exact LeO.refl _)
      | (with_reducible exact LeO.none _)
      | (with_reducible refine LeO.ite ?_ ?_)
      | (with_reducible refine LeO.bind ?_ (fun _ => ?_))
      | exact ih0 _ _ _ _ _ _ _ _ _ _
      | exact ih1 _ _ _ _ _ _ _ _ _ _ _ _
      | exact ih2 _ _ _ _ _ _ _ _ _ _ _ _
      | exact ih3 _ _ _ _ _ _ _ _ _ _ _ _
      | exact clock_Read.mono _ _ _ _ _ _
      | exact clock_Sync.mono _ _ _ _ _ _ _ _
      | exact LeO.none _
      | refine LeO.ite ?_ ?_
      | refine LeO.bind ?_ (fun _ => ?_)
    · intro y0 y1 y2 y3 y4 y5 y6 y7 y8 y9 y10 y11
      unfold weirgatelaw05_follow.j2
      repeat' first
      | (with_reducible exact ih0 _ _ _ _ _ _ _ _ _ _)
      | (with_reducible exact ih1 _ _ _ _ _ _ _ _ _ _ _ _)
      | (with_reducible exact ih2 _ _ _ _ _ _ _ _ _ _ _ _)
      | (with_reducible exact ih3 _ _ _ _ _ _ _ _ _ _ _ _)
      | (with_reducible exact clock_Read.mono _ _ _ _ _ _)
      | (with_reducible exact clock_Sync.mono _ _ _ _ _ _ _ _)
      | (with_reducible exact LeO.refl _)
      | (with_reducible exact LeO.none _)
      | (with_reducible refine LeO.ite ?_ ?_)
      | (with_reducible refine LeO.bind ?_ (fun _ => ?_))
      | exact ih0 _ _ _ _ _ _ _ _ _ _
      | exact ih1 _ _ _ _ _ _ _ _ _ _ _ _
      | exact ih2 _ _ _ _ _ _ _ _ _ _ _ _
      | exact ih3 _ _ _ _ _ _ _ _ _ _ _ _
      | exact clock_Read.mono _ _ _ _ _ _
      | exact clock_Sync.mono _ _ _ _ _ _ _ _
      | exact LeO.none _
      | refine LeO.ite ?_ ?_
      | refine LeO.bind ?_ (fun _ => ?_)
    · intro y0 y1 y2 y3 y4 y5 y6 y7 y8 y9 y10 y11
      unfold weirgatelaw05_follow.j3
      repeat' first
      | (with_reducible exact ih0 _ _ _ _ _ _ _ _ _ _)
      | (with_reducible exact ih1 _ _ _ _ _ _ _ _ _ _ _ _)
      | (with_reducible exact ih2 _ _ _ _ _ _ _ _ _ _ _ _)
      | (with_reducible exact ih3 _ _ _ _ _ _ _ _ _ _ _ _)
      | (with_reducible exact clock_Read.mono _ _ _ _ _ _)
      | (with_reducible exact clock_Sync.mono _ _ _ _ _ _ _ _)
      | (with_reducible exact LeO.refl _)
      | (with_reducible exact LeO.none _)
      | (with_reducible refine LeO.ite ?_ ?_)
      | (with_reducible refine LeO.bind ?_ (fun _ => ?_))
      | exact ih0 _ _ _ _ _ _ _ _ _ _
      | exact ih1 _ _ _ _ _ _ _ _ _ _ _ _
      | exact ih2 _ _ _ _ _ _ _ _ _ _ _ _
      | exact ih3 _ _ _ _ _ _ _ _ _ _ _ _
      | exact clock_Read.mono _ _ _ _ _ _
      | exact clock_Sync.mono _ _ _ _ _ _ _ _
      | exact LeO.none _
      | refine LeO.ite ?_ ?_
      | refine LeO.bind ?_ (fun _ => ?_)
theorem weirgatelaw05_follow.mono : ∀ a0 a1 a2 a3 a4 a5 a6 a7 a8 k, LeO (weirgatelaw05_follow.f k a0 a1 a2 a3 a4 a5 a6 a7 a8) (weirgatelaw05_follow.f (k + 1) a0 a1 a2 a3 a4 a5 a6 a7 a8) := by
  intro a0 a1 a2 a3 a4 a5 a6 a7 a8 k
  obtain ⟨ih0, ih1, ih2, ih3⟩ := weirgatelaw05_follow.mono_l k
  unfold weirgatelaw05_follow.f
  repeat' first
      | (with_reducible exact ih0 _ _ _ _ _ _ _ _ _ _)
      | (with_reducible exact ih1 _ _ _ _ _ _ _ _ _ _ _ _)
      | (with_reducible exact ih2 _ _ _ _ _ _ _ _ _ _ _ _)
      | (with_reducible exact ih3 _ _ _ _ _ _ _ _ _ _ _ _)
      | (with_reducible exact clock_Read.mono _ _ _ _ _ _)
      | (with_reducible exact clock_Sync.mono _ _ _ _ _ _ _ _)
      | (with_reducible exact LeO.refl _)
      | (with_reducible exact LeO.none _)
      | (with_reducible refine LeO.ite ?_ ?_)
      | (with_reducible refine LeO.bind ?_ (fun _ => ?_))
      | exact ih0 _ _ _ _ _ _ _ _ _ _
      | exact ih1 _ _ _ _ _ _ _ _ _ _ _ _
      | exact ih2 _ _ _ _ _ _ _ _ _ _ _ _
      | exact ih3 _ _ _ _ _ _ _ _ _ _ _ _
      | exact clock_Read.mono _ _ _ _ _ _
      | exact clock_Sync.mono _ _ _ _ _ _ _ _
      | exact LeO.none _
      | refine LeO.ite ?_ ?_
      | refine LeO.bind ?_ (fun _ => ?_)
set_option maxHeartbeats 8000000 in
set_option maxRecDepth 100000 in
theorem weirgatelaw05_follow.calls (k : Nat) (a0_0 : Int) (a0_1 : Int) (a0_2 : Int) (a0_3 : Int) (a1 : Int) (A2 : Option Addr) (c2 : Nat) (l2 : List (S70)) (a3 : Int) (A4 : Option Addr) (c4 : Nat) (l4 : List Int) (A5 : Option Addr) (c5 : Nat) (l5 : List Int) (r : Bool) (w : World) (hr2 : Kd.C k70 w A2 l2.length l2) (hc2 : l2.length ≤ c2) (hr4 : Kd.C (Kd.int .u32) w A4 l4.length l4) (hc4 : l4.length ≤ c4) (hr5 : Kd.C (Kd.int .u16) w A5 l5.length l5) (hc5 : l5.length ≤ c5) (h : weirgatelaw05_follow.f k a0_0 a0_1 a0_2 a0_3 a1 l2 a3 l4 l5 = some r) :
    Calls Try.prog 27 #[.agg #[.int .i64 a0_0, .int .i64 a0_1, .int .i64 a0_2, .int .i64 a0_3], .int .i64 a1, .slice A2 l2.length c2, .int .i64 a3, .slice A4 l4.length c4, .slice A5 l5.length c5] w fun e w' => e = .returned (.bool r) ∧ Below w.heap.size w w' := by
  have hu25 := Try.underlying25
  have hu23 := Try.underlying23
  have HR2 := Aside0.mk hr2
  have HC2 := Aside0.mk hc2
  clear hr2 hc2
  have HR4 := Aside0.mk hr4
  have HC4 := Aside0.mk hc4
  clear hr4 hc4
  have HR5 := Aside0.mk hr5
  have HC5 := Aside0.mk hc5
  clear hr5 hc5
  have HB := Aside0.mk (Below.refl w.heap.size w)
  have H : (weirgatelaw05_follow.l0 k a1 l2 a3 l4 l5 0 a0_0 a0_1 a0_2 a0_3) = some r := h
  clear h
  have H' := Aside0.mk H
  clear H
  go_enter Try.func27, Try.ntmps27
  go_wp2_with (first | ((with_reducible refine gate_dst (N := 6) rfl ?_); refine box_event ?hg (N := 6) ?hd (cs := #[.int .i64 a0_0, .int .i64 a0_1, .int .i64 a0_2, .int .i64 a0_3]) (t := 25) ?hr ?_; (case hd => rfl); (case hg => rfl); (case hr => first | (go_simp; done) | (go_simp; rfl)); intro gb271 hg w7 hbox hb; have n0_ := Aside0.mk (below_step (bk HB.out) hb); have n1_ := Aside0.mk (hbox); have n2_ := Aside0.mk ((by rw [hg]; exact (below_size (bk HB.out)) : w.heap.size ≤ gb271)); have n3_ := Aside0.mk ((by rw [hg]; exact (below_size (bk HB.out)) : w.heap.size ≤ gb271)); clear HB; have HB := n0_; have BK271 := n1_; have GW271 := n2_; have GE271 := n3_; clear n0_ n1_ n2_ n3_; clear hb hbox hg))
  go_loopg [3, 13] k (fun kq v3 v13 w' => ∃ (x3_1 : Int) (x13_1 : Int) (x272000_1 : Int) (x272001_1 : Int) (x272002_1 : Int) (x272003_1 : Int), v3 = .int .i64 x3_1 ∧ v13 = .int .i64 x13_1 ∧ Aside0 (weirgatelaw05_follow.l0 kq a1 l2 x3_1 l4 l5 x13_1 x272000_1 x272001_1 x272002_1 x272003_1 = some r) ∧ Aside0 (kq ≤ k) ∧ Aside0 (w'.heap[gb271]? = some (.cells #[.int .i64 x272000_1, .int .i64 x272001_1, .int .i64 x272002_1, .int .i64 x272003_1] 25 (0, 0))) ∧ Aside0 (Below w.heap.size w w'))
  case atStart => exact ⟨(a3), (0), (a0_0), (a0_1), (a0_2), (a0_3), (by first | rfl | (simp; done) | (simp [*]; done) | (simp only [show ∀ p : Prop, Aside0 p = p from fun p => propext ⟨Aside0.out, Aside0.mk⟩] at *; simp_all; done)), (by first | rfl | (simp; done) | (simp [*]; done) | (simp only [show ∀ p : Prop, Aside0 p = p from fun p => propext ⟨Aside0.out, Aside0.mk⟩] at *; simp_all; done)), H', ⟨Nat.le_refl _⟩, ⟨pk BK271.out⟩, ⟨bk HB.out⟩⟩
  case round =>
    clear H'
    try clear c2
    try clear p2
    try clear c4
    try clear c5
    obtain ⟨x3_1, x13_1, x272000_1, x272001_1, x272002_1, x272003_1, rfl, rfl, HA, HK1, BK271, HB⟩ := hrel
    cases gk with
    | zero => exact absurd HA.out (by simp [weirgatelaw05_follow.l0])
    | succ k1 =>
      have H := HA.out
      clear HA
      simp only [weirgatelaw05_follow.l0] at H
      by_cases c8 : x13_1 < (l4.length : Int)
      · rw [if_pos c8] at H
        have c8b0 : decide (x13_1 < (l4.length : Int)) = true := decide_eq_true c8
        clear c8
        by_cases c9 : 0 ≤ x13_1
        · rw [if_pos c9] at H
          have c9b0 : decide (0 ≤ x13_1) = true := decide_eq_true c9
          clear c9
          replace H := Option.bind_eq_some_iff.mp H
          obtain ⟨⟨t273, t274⟩, A100, H⟩ := H
          replace H : (if (wrap64 (x3_1 + (wrap64 (rd l4 x13_1)))) > 1099511627776 then (weirgatelaw05_follow.j1 k1 a1 l2 (wrap64 (x3_1 + (wrap64 (rd l4 x13_1)))) l4 l5 x13_1 t273 true x272000_1 x272001_1 x272002_1 x272003_1) else (weirgatelaw05_follow.j1 k1 a1 l2 (wrap64 (x3_1 + (wrap64 (rd l4 x13_1)))) l4 l5 x13_1 t273 (t274 != 0) x272000_1 x272001_1 x272002_1 x272003_1)) = some r := H
          have A10 := Aside0.mk A100
          clear A100
          have HC11 := Aside0.mk H
          clear H
          have p272 : 0 ≤ (x13_1 : Int) := of_decide_eq_true (by first | (with_reducible assumption) | assumption)
          have q272 : x13_1 < (l4.length : Int) := of_decide_eq_true (by first | (with_reducible assumption) | assumption)
          obtain ⟨ad272, e272, hx272_0⟩ := Kd.at_int HR4.out x13_1 p272 q272
          cases e272
          replace hx272_0 := (HB.out.cell (World.block_lt_of_cell? w _ hx272_0)).trans hx272_0
          replace p272 := eq_true p272
          replace q272 := eq_true q272
          go_upto_region 6 with (first | ((with_reducible refine gate_callee (f := 26) rfl ?_); refine goesL_ (some 39) rfl rfl Try.func26 (by kernel_rfl) rfl #[.int .i64 a1, .slice A2 l2.length c2, .int .i64 (wrap64 (x3_1 + (wrap64 (rd l4 x13_1))))] rfl (by (try simp only [List.map_toArray, List.map_cons, List.map_nil]); first | done | rfl | (simp only [List.length_drop, List.length_take]; rfl)) ?_; (with_reducible refine (clock_Show.calls a1 _ _ l2 (wrap64 (x3_1 + (wrap64 (rd l4 x13_1)))) t273 t274 _ ?side1 ?side2 A10.out).mono ?_); (case side1 => repeat (first | exact (Kd.C_below HR2.out HB.out) | (with_reducible refine Kd.C_alloc ?_ _) | (with_reducible refine Kd.C_drewN ?_ _) | (with_reducible refine Kd.C_drew ?_))); (case side2 => exact HC2.out); rintro e w12 ⟨rfl, hb⟩; refine ⟨_, rfl, ?_⟩; have n0_ := Aside0.mk (blk_below (pk BK271.out) hb); have n1_ := Aside0.mk (below_step (bk HB.out) hb); clear BK271 HB; have BK271 := n0_; have HB := n1_; clear n0_ n1_; (try clear hb); (try clear hb2); (try clear hk); (try clear hi)))
          (try simp only [Act.put, List.setIfInBounds_toArray, List.set_cons_zero, List.set_cons_succ])
          go_cut [47] (fun v47 wc => ∃ (kq : Nat) (x47_10 : Bool), v47 = .bool x47_10 ∧ Aside0 (weirgatelaw05_follow.j1 kq a1 l2 (wrap64 (x3_1 + (wrap64 (rd l4 x13_1)))) l4 l5 x13_1 t273 x47_10 x272000_1 x272001_1 x272002_1 x272003_1 = some r) ∧ Aside0 (kq ≤ k1) ∧ Aside0 (wc.heap[gb271]? = some (.cells #[.int .i64 x272000_1, .int .i64 x272001_1, .int .i64 x272002_1, .int .i64 x272003_1] 25 (0, 0))) ∧ Aside0 (Below w.heap.size w wc))
          case first =>
            have H := HC11.out
            clear HC11
            by_cases c13 : (wrap64 (x3_1 + (wrap64 (rd l4 x13_1)))) > 1099511627776
            · rw [if_pos c13] at H
              have c13b0 : decide (1099511627776 < (wrap64 (x3_1 + (wrap64 (rd l4 x13_1))))) = true := decide_eq_true c13
              clear c13
              (first | rw [c13b0] | (simp only [i64_w, i32_w]; rw [c13b0]) | skip)
              have H' := Aside0.mk H
              clear H
              go_wp2
              go_meet
              case rel => exact ⟨_, (true), (by first | rfl | (simp; done) | (simp [*]; done) | (simp only [show ∀ p : Prop, Aside0 p = p from fun p => propext ⟨Aside0.out, Aside0.mk⟩] at *; simp_all; done)), H', ⟨by have := HK1.out; first | omega | exact Nat.le_refl _⟩, ⟨pk BK271.out⟩, ⟨bk HB.out⟩⟩
            · rw [if_neg c13] at H
              have c13b0 : decide (1099511627776 < (wrap64 (x3_1 + (wrap64 (rd l4 x13_1))))) = false := decide_eq_false c13
              clear c13
              (first | rw [c13b0] | (simp only [i64_w, i32_w]; rw [c13b0]) | skip)
              have H' := Aside0.mk H
              clear H
              go_wp2
              go_meet
              case rel => exact ⟨_, ((t274 != 0)), (by first | rfl | (simp; done) | (simp [*]; done) | (simp only [show ∀ p : Prop, Aside0 p = p from fun p => propext ⟨Aside0.out, Aside0.mk⟩] at *; simp_all; done)), H', ⟨by have := HK1.out; first | omega | exact Nat.le_refl _⟩, ⟨pk BK271.out⟩, ⟨bk HB.out⟩⟩
          case rest =>
            clear HC11
            try clear c1
            try clear c2
            try clear p2
            try clear q2
            try clear hx2
            try clear c4
            try clear c5
            try clear p6
            try clear c8
            try clear c8b0
            try clear c9
            try clear c9b0
            try clear c13
            try clear c13b0
            try clear hx272_0
            try clear p2
            try clear p272
            try clear q272
            obtain ⟨kq, x47_10, rfl, HA, HJ10, BK271, HB⟩ := hcut
            cases kq with
            | zero => exact absurd HA.out (by simp [weirgatelaw05_follow.j1])
            | succ kj10 =>
              have H := HA.out
              clear HA
              simp only [weirgatelaw05_follow.j1] at H
              by_cases c14 : x47_10 = true
              · subst c14
                have H1 : (some true) = some r := by rw [if_pos rfl] at H; exact H
                clear H
                have H := H1
                clear H1
                obtain rfl := Option.some.inj H
                go_wp2
                go_ret
                exact ⟨by first | rfl | (simp [errW_none, errW_some] <;> rfl) | (simp [*, errW_none, errW_some] <;> rfl), bk HB.out⟩
              · replace c14 := Bool.eq_false_iff.mpr c14
                subst c14
                have H1 : ((clock_Read.f kj10 x272000_1 x272001_1 x272002_1 x272003_1 t273).bind fun bt275 => (if bt275.2.2 = 0 then (if (wrap64 (x3_1 + (wrap64 (rd l4 x13_1)))) < bt275.1 then (weirgatelaw05_follow.j2 kj10 a1 l2 (wrap64 (x3_1 + (wrap64 (rd l4 x13_1)))) l4 l5 x13_1 t273 true x272000_1 x272001_1 x272002_1 x272003_1) else (weirgatelaw05_follow.j2 kj10 a1 l2 (wrap64 (x3_1 + (wrap64 (rd l4 x13_1)))) l4 l5 x13_1 t273 (decide ((wrap64 (x3_1 + (wrap64 (rd l4 x13_1)))) > bt275.2.1)) x272000_1 x272001_1 x272002_1 x272003_1)) else (weirgatelaw05_follow.j2 kj10 a1 l2 (wrap64 (x3_1 + (wrap64 (rd l4 x13_1)))) l4 l5 x13_1 t273 true x272000_1 x272001_1 x272002_1 x272003_1))) = some r := by rw [if_neg (show ¬ (false = true) by decide)] at H; exact H
                clear H
                have H := H1
                clear H1
                replace H := Option.bind_eq_some_iff.mp H
                obtain ⟨⟨t275, t276, t277⟩, A150, H⟩ := H
                replace H : (if t277 = 0 then (if (wrap64 (x3_1 + (wrap64 (rd l4 x13_1)))) < t275 then (weirgatelaw05_follow.j2 kj10 a1 l2 (wrap64 (x3_1 + (wrap64 (rd l4 x13_1)))) l4 l5 x13_1 t273 true x272000_1 x272001_1 x272002_1 x272003_1) else (weirgatelaw05_follow.j2 kj10 a1 l2 (wrap64 (x3_1 + (wrap64 (rd l4 x13_1)))) l4 l5 x13_1 t273 (decide ((wrap64 (x3_1 + (wrap64 (rd l4 x13_1)))) > t276)) x272000_1 x272001_1 x272002_1 x272003_1)) else (weirgatelaw05_follow.j2 kj10 a1 l2 (wrap64 (x3_1 + (wrap64 (rd l4 x13_1)))) l4 l5 x13_1 t273 true x272000_1 x272001_1 x272002_1 x272003_1)) = some r := H
                have A15 := Aside0.mk A150
                clear A150
                have HC16 := Aside0.mk H
                clear H
                have hcz17_0 : wc.cell? ⟨gb271, 0, none⟩ = some (.int .i64 x272000_1) := (blk_cell BK271.out 0).trans rfl
                have hcz17_1 : wc.cell? ⟨gb271, 1, none⟩ = some (.int .i64 x272001_1) := (blk_cell BK271.out 1).trans rfl
                have hcz17_2 : wc.cell? ⟨gb271, 2, none⟩ = some (.int .i64 x272002_1) := (blk_cell BK271.out 2).trans rfl
                have hcz17_3 : wc.cell? ⟨gb271, 3, none⟩ = some (.int .i64 x272003_1) := (blk_cell BK271.out 3).trans rfl
                have hfz17_0 := blk_frozen BK271.out 0
                have hfz17_1 := blk_frozen BK271.out 1
                have hfz17_2 := blk_frozen BK271.out 2
                have hfz17_3 := blk_frozen BK271.out 3
                go_upto_region 9 with (first | ((with_reducible refine gate_callee (f := 14) rfl ?_); refine goesL_ (some 51) rfl rfl Try.func14 (by kernel_rfl) rfl #[.agg #[.int .i64 x272000_1, .int .i64 x272001_1, .int .i64 x272002_1, .int .i64 x272003_1], .int .i64 t273] rfl (by (try simp only [List.map_toArray, List.map_cons, List.map_nil]); first | done | rfl | (simp only [List.length_drop, List.length_take]; rfl)) ?_; (with_reducible refine (clock_Read.calls kj10 x272000_1 x272001_1 x272002_1 x272003_1 t273 t275 t276 t277 _ A15.out).mono ?_); rintro e w18 ⟨rfl, hb⟩; refine ⟨_, rfl, ?_⟩; have n0_ := Aside0.mk (blk_below (pk BK271.out) hb); have n1_ := Aside0.mk (below_step (bk HB.out) hb); clear BK271 HB; have BK271 := n0_; have HB := n1_; clear n0_ n1_; (try clear hb); (try clear hb2); (try clear hk); (try clear hi)) | ((with_reducible refine gate_dst (N := 16) rfl ?_); refine box_event ?hg (N := 16) ?hd (cs := #[.int .i64 0, .int .i64 0]) (t := 23) ?hr ?_; (case hd => rfl); (case hg => rfl); (case hr => first | (go_simp; done) | (go_simp; rfl)); intro gb278 hg w19 hbox hb; have n0_ := Aside0.mk (blk_below (pk BK271.out) hb); have n1_ := Aside0.mk (below_step (bk HB.out) hb); have n2_ := Aside0.mk (hbox); have n3_ := Aside0.mk ((by rw [hg]; exact (below_size (bk HB.out)) : w.heap.size ≤ gb278)); have n4_ := Aside0.mk ((by rw [hg]; exact (below_size (bk HB.out)) : w.heap.size ≤ gb278)); have n5_ := Aside0.mk ((by rw [hg]; exact Nat.ne_of_lt (blk_lt (g := gb271) (o := .cells #[.int .i64 x272000_1, .int .i64 x272001_1, .int .i64 x272002_1, .int .i64 x272003_1] 25 (0, 0)) (pk BK271.out)) : gb271 ≠ gb278)); have n6_ := Aside0.mk ((by rw [hg]; exact Nat.ne_of_gt (blk_lt (g := gb271) (o := .cells #[.int .i64 x272000_1, .int .i64 x272001_1, .int .i64 x272002_1, .int .i64 x272003_1] 25 (0, 0)) (pk BK271.out)) : gb278 ≠ gb271)); clear BK271 HB; have BK271 := n0_; have HB := n1_; have BK278 := n2_; have GW278 := n3_; have GE278 := n4_; have NB271_278 := n5_; have NB278_271 := n6_; clear n0_ n1_ n2_ n3_ n4_ n5_ n6_; clear hb hbox hg; have hnb20 := NB278_271.out; have hnc20 := NB271_278.out; have hcz21_0 : w19.cell? ⟨gb278, 0, none⟩ = some (.int .i64 0) := (blk_cell BK278.out 0).trans rfl; have hcz21_1 : w19.cell? ⟨gb278, 1, none⟩ = some (.int .i64 0) := (blk_cell BK278.out 1).trans rfl; have hfz21_0 := blk_frozen BK278.out 0; have hfz21_1 := blk_frozen BK278.out 1))
                (try simp only [Act.put, List.setIfInBounds_toArray, List.set_cons_zero, List.set_cons_succ])
                go_cut [67] (fun v67 wc => ∃ (kq : Nat) (x67_15 : Bool), v67 = .bool x67_15 ∧ Aside0 (weirgatelaw05_follow.j2 kq a1 l2 (wrap64 (x3_1 + (wrap64 (rd l4 x13_1)))) l4 l5 x13_1 t273 x67_15 x272000_1 x272001_1 x272002_1 x272003_1 = some r) ∧ Aside0 (kq ≤ kj10) ∧ Aside0 (wc.heap[gb271]? = some (.cells #[.int .i64 x272000_1, .int .i64 x272001_1, .int .i64 x272002_1, .int .i64 x272003_1] 25 (0, 0))) ∧ Aside0 (wc.heap[gb278]? = some (.cells #[.int .i64 t275, .int .i64 t276] 23 (0, 0))) ∧ Aside0 (Below w.heap.size w wc))
                case first =>
                  have H := HC16.out
                  clear HC16
                  by_cases c22 : t277 = 0
                  · rw [if_pos c22] at H
                    have c22b0 : (t277 == 0) = true := beq_iff_eq.mpr c22
                    have c22b1 : (t277 != 0) = false := bne_eq_false_iff_eq.mpr c22
                    clear c22
                    (first | rw [c22b0] | (simp only [i64_w, i32_w]; rw [c22b0]) | skip)
                    by_cases c23 : (wrap64 (x3_1 + (wrap64 (rd l4 x13_1)))) < t275
                    · rw [if_pos c23] at H
                      have c23b0 : decide ((wrap64 (x3_1 + (wrap64 (rd l4 x13_1)))) < t275) = true := decide_eq_true c23
                      clear c23
                      have H' := Aside0.mk H
                      clear H
                      have hnb24 := NB278_271.out
                      have hnc24 := NB271_278.out
                      have hcz25_0 : w19.cell? ⟨gb278, 0, none⟩ = some (.int .i64 0) := (blk_cell BK278.out 0).trans rfl
                      have hcz25_1 : w19.cell? ⟨gb278, 1, none⟩ = some (.int .i64 0) := (blk_cell BK278.out 1).trans rfl
                      have hfz25_0 := blk_frozen BK278.out 0
                      have hfz25_1 := blk_frozen BK278.out 1
                      go_wp2
                      go_meet
                      case rel => exact ⟨_, (true), (by first | rfl | (simp; done) | (simp [*]; done) | (simp only [show ∀ p : Prop, Aside0 p = p from fun p => propext ⟨Aside0.out, Aside0.mk⟩] at *; simp_all; done)), H', ⟨by have := HK1.out; have := HJ10.out; first | omega | exact Nat.le_refl _⟩, ⟨by refine pk ?_; refine blk_far ?_ NB271_278.out _; refine pk ?_; refine blk_far ?_ NB271_278.out _; refine pk ?_; exact BK271.out⟩, ⟨by refine pk ?_; refine blk_put (cs := #[.int .i64 t275, .int .i64 0]) ?_ 1 _ rfl; refine pk ?_; refine blk_put (cs := #[.int .i64 0, .int .i64 0]) ?_ 0 _ rfl; refine pk ?_; exact BK278.out⟩, ⟨bk HB.out⟩⟩
                    · rw [if_neg c23] at H
                      have c23b0 : decide ((wrap64 (x3_1 + (wrap64 (rd l4 x13_1)))) < t275) = false := decide_eq_false c23
                      clear c23
                      have H' := Aside0.mk H
                      clear H
                      have hnb26 := NB278_271.out
                      have hnc26 := NB271_278.out
                      have hcz27_0 : w19.cell? ⟨gb278, 0, none⟩ = some (.int .i64 0) := (blk_cell BK278.out 0).trans rfl
                      have hcz27_1 : w19.cell? ⟨gb278, 1, none⟩ = some (.int .i64 0) := (blk_cell BK278.out 1).trans rfl
                      have hfz27_0 := blk_frozen BK278.out 0
                      have hfz27_1 := blk_frozen BK278.out 1
                      go_wp2
                      go_meet
                      case rel => exact ⟨_, (decide ((wrap64 (x3_1 + (wrap64 (rd l4 x13_1)))) > t276)), (by first | rfl | (simp; done) | (simp [*]; done) | (simp only [show ∀ p : Prop, Aside0 p = p from fun p => propext ⟨Aside0.out, Aside0.mk⟩] at *; simp_all; done)), H', ⟨by have := HK1.out; have := HJ10.out; first | omega | exact Nat.le_refl _⟩, ⟨by refine pk ?_; refine blk_far ?_ NB271_278.out _; refine pk ?_; refine blk_far ?_ NB271_278.out _; refine pk ?_; exact BK271.out⟩, ⟨by refine pk ?_; refine blk_put (cs := #[.int .i64 t275, .int .i64 0]) ?_ 1 _ rfl; refine pk ?_; refine blk_put (cs := #[.int .i64 0, .int .i64 0]) ?_ 0 _ rfl; refine pk ?_; exact BK278.out⟩, ⟨bk HB.out⟩⟩
                  · rw [if_neg c22] at H
                    have c22b0 : (t277 == 0) = false := beq_eq_false_iff_ne.mpr c22
                    have c22b1 : (t277 != 0) = true := bne_iff_ne.mpr c22
                    (first | rw [c22b0] | (simp only [i64_w, i32_w]; rw [c22b0]) | skip)
                    have H' := Aside0.mk H
                    clear H
                    go_wp2
                    go_meet
                    case rel => exact ⟨_, (true), (by first | rfl | (simp; done) | (simp [*]; done) | (simp only [show ∀ p : Prop, Aside0 p = p from fun p => propext ⟨Aside0.out, Aside0.mk⟩] at *; simp_all; done)), H', ⟨by have := HK1.out; have := HJ10.out; first | omega | exact Nat.le_refl _⟩, ⟨by refine pk ?_; refine blk_far ?_ NB271_278.out _; refine pk ?_; refine blk_far ?_ NB271_278.out _; refine pk ?_; exact BK271.out⟩, ⟨by refine pk ?_; refine blk_put (cs := #[.int .i64 t275, .int .i64 0]) ?_ 1 _ rfl; refine pk ?_; refine blk_put (cs := #[.int .i64 0, .int .i64 0]) ?_ 0 _ rfl; refine pk ?_; exact BK278.out⟩, ⟨bk HB.out⟩⟩
                case rest =>
                  clear HC16
                  try clear c1
                  try clear c2
                  try clear p2
                  try clear q2
                  try clear hx2
                  try clear c4
                  try clear c5
                  try clear p6
                  try clear c8
                  try clear c8b0
                  try clear c9
                  try clear c9b0
                  try clear c13
                  try clear c13b0
                  try clear c14
                  try clear c20
                  try clear c22
                  try clear c22b0
                  try clear c22b1
                  try clear c23
                  try clear c23b0
                  try clear c24
                  try clear c26
                  try clear c27
                  try clear p27
                  try clear q27
                  try clear hx27
                  try clear hcz17_0
                  try clear hcz17_1
                  try clear hcz17_2
                  try clear hcz17_3
                  try clear hcz21_0
                  try clear hcz21_1
                  try clear hcz25_0
                  try clear hcz25_1
                  try clear hcz27_0
                  try clear hcz27_1
                  try clear hfz17_0
                  try clear hfz17_1
                  try clear hfz17_2
                  try clear hfz17_3
                  try clear hfz21_0
                  try clear hfz21_1
                  try clear hfz25_0
                  try clear hfz25_1
                  try clear hfz27_0
                  try clear hfz27_1
                  try clear hx272_0
                  try clear p2
                  try clear p272
                  try clear p6
                  try clear q2
                  try clear q272
                  obtain ⟨kq, x67_15, rfl, HA, HJ15, BK271, BK278, HB⟩ := hcut
                  cases kq with
                  | zero => exact absurd HA.out (by simp [weirgatelaw05_follow.j2])
                  | succ kj15 =>
                    have H := HA.out
                    clear HA
                    simp only [weirgatelaw05_follow.j2] at H
                    by_cases c28 : x67_15 = true
                    · subst c28
                      have H1 : (some false) = some r := by rw [if_pos rfl] at H; exact H
                      clear H
                      have H := H1
                      clear H1
                      obtain rfl := Option.some.inj H
                      go_wp2
                      go_ret
                      exact ⟨by first | rfl | (simp [errW_none, errW_some] <;> rfl) | (simp [*, errW_none, errW_some] <;> rfl), bk HB.out⟩
                    · replace c28 := Bool.eq_false_iff.mpr c28
                      subst c28
                      have H1 : (if x13_1 < (l5.length : Int) then (if 0 ≤ x13_1 then (weirgatelaw05_follow.j3 kj15 a1 l2 (wrap64 (x3_1 + (wrap64 (rd l4 x13_1)))) l4 l5 x13_1 t273 ((Int.tmod (rd l5 x13_1) 2) == 1) x272000_1 x272001_1 x272002_1 x272003_1) else (none)) else (weirgatelaw05_follow.j3 kj15 a1 l2 (wrap64 (x3_1 + (wrap64 (rd l4 x13_1)))) l4 l5 x13_1 t273 false x272000_1 x272001_1 x272002_1 x272003_1)) = some r := by rw [if_neg (show ¬ (false = true) by decide)] at H; exact H
                      clear H
                      have H := H1
                      clear H1
                      have HC29 := Aside0.mk H
                      clear H
                      go_upto_region 11 with (fail)
                      go_cut [79] (fun v79 wc => ∃ (kq : Nat) (x79_28 : Bool), v79 = .bool x79_28 ∧ Aside0 (weirgatelaw05_follow.j3 kq a1 l2 (wrap64 (x3_1 + (wrap64 (rd l4 x13_1)))) l4 l5 x13_1 t273 x79_28 x272000_1 x272001_1 x272002_1 x272003_1 = some r) ∧ Aside0 (kq ≤ kj15) ∧ Aside0 (wc.heap[gb271]? = some (.cells #[.int .i64 x272000_1, .int .i64 x272001_1, .int .i64 x272002_1, .int .i64 x272003_1] 25 (0, 0))) ∧ Aside0 (wc.heap[gb278]? = some (.cells #[.int .i64 t275, .int .i64 t276] 23 (0, 0))) ∧ Aside0 (Below w.heap.size w wc))
                      case first =>
                        have H := HC29.out
                        clear HC29
                        by_cases c30 : x13_1 < (l5.length : Int)
                        · rw [if_pos c30] at H
                          have c30b0 : decide (x13_1 < (l5.length : Int)) = true := decide_eq_true c30
                          clear c30
                          (first | rw [c30b0] | (simp only [i64_w, i32_w]; rw [c30b0]) | skip)
                          by_cases c31 : 0 ≤ x13_1
                          · rw [if_pos c31] at H
                            have c31b0 : decide (0 ≤ x13_1) = true := decide_eq_true c31
                            clear c31
                            have H' := Aside0.mk H
                            clear H
                            have p279 : 0 ≤ (x13_1 : Int) := of_decide_eq_true (by first | (with_reducible assumption) | assumption)
                            have q279 : x13_1 < (l5.length : Int) := of_decide_eq_true (by first | (with_reducible assumption) | assumption)
                            obtain ⟨ad279, e279, hx279_0⟩ := Kd.at_int HR5.out x13_1 p279 q279
                            cases e279
                            replace hx279_0 := (HB.out.cell (World.block_lt_of_cell? w _ hx279_0)).trans hx279_0
                            replace p279 := eq_true p279
                            replace q279 := eq_true q279
                            go_wp2
                            go_meet
                            case rel => exact ⟨_, (((Int.tmod (rd l5 x13_1) 2) == 1)), (by first | rfl | (simp; done) | (simp [*]; done) | (simp only [show ∀ p : Prop, Aside0 p = p from fun p => propext ⟨Aside0.out, Aside0.mk⟩] at *; simp_all; done)), H', ⟨by have := HK1.out; have := HJ10.out; have := HJ15.out; first | omega | exact Nat.le_refl _⟩, ⟨pk BK271.out⟩, ⟨pk BK278.out⟩, ⟨bk HB.out⟩⟩
                          · rw [if_neg c31] at H
                            exact absurd H (by simp)
                        · rw [if_neg c30] at H
                          have c30b0 : decide (x13_1 < (l5.length : Int)) = false := decide_eq_false c30
                          clear c30
                          (first | rw [c30b0] | (simp only [i64_w, i32_w]; rw [c30b0]) | skip)
                          have H' := Aside0.mk H
                          clear H
                          go_wp2
                          go_meet
                          case rel => exact ⟨_, (false), (by first | rfl | (simp; done) | (simp [*]; done) | (simp only [show ∀ p : Prop, Aside0 p = p from fun p => propext ⟨Aside0.out, Aside0.mk⟩] at *; simp_all; done)), H', ⟨by have := HK1.out; have := HJ10.out; have := HJ15.out; first | omega | exact Nat.le_refl _⟩, ⟨pk BK271.out⟩, ⟨pk BK278.out⟩, ⟨bk HB.out⟩⟩
                      case rest =>
                        clear HC29
                        try clear c1
                        try clear c2
                        try clear p2
                        try clear q2
                        try clear hx2
                        try clear c3
                        try clear c4
                        try clear c5
                        try clear p6
                        try clear c8
                        try clear c8b0
                        try clear c9
                        try clear c9b0
                        try clear c13
                        try clear c13b0
                        try clear c14
                        try clear c20
                        try clear c22
                        try clear c22b0
                        try clear c22b1
                        try clear c23
                        try clear c23b0
                        try clear c24
                        try clear c26
                        try clear c27
                        try clear p27
                        try clear q27
                        try clear hx27
                        try clear c28
                        try clear c30
                        try clear c30b0
                        try clear c31
                        try clear c31b0
                        try clear hcz17_0
                        try clear hcz17_1
                        try clear hcz17_2
                        try clear hcz17_3
                        try clear hcz21_0
                        try clear hcz21_1
                        try clear hcz25_0
                        try clear hcz25_1
                        try clear hcz27_0
                        try clear hcz27_1
                        try clear hfz17_0
                        try clear hfz17_1
                        try clear hfz17_2
                        try clear hfz17_3
                        try clear hfz21_0
                        try clear hfz21_1
                        try clear hfz25_0
                        try clear hfz25_1
                        try clear hfz27_0
                        try clear hfz27_1
                        try clear hx272_0
                        try clear hx279_0
                        try clear p2
                        try clear p27
                        try clear p272
                        try clear p279
                        try clear p6
                        try clear q2
                        try clear q27
                        try clear q272
                        try clear q279
                        obtain ⟨kq, x79_28, rfl, HA, HJ28, BK271, BK278, HB⟩ := hcut
                        cases kq with
                        | zero => exact absurd HA.out (by simp [weirgatelaw05_follow.j3])
                        | succ kj28 =>
                          have H := HA.out
                          clear HA
                          simp only [weirgatelaw05_follow.j3] at H
                          by_cases c32 : x79_28 = true
                          · subst c32
                            have H1 : (if 0 ≤ x13_1 then (if x13_1 < (l5.length : Int) then ((clock_Sync.f kj28 x272000_1 x272001_1 x272002_1 x272003_1 t273 (mx (wrap64 ((wrap64 (x3_1 + (wrap64 (rd l4 x13_1)))) - (Int.tmod (wrap64 (rd l5 x13_1)) 100))) 0) (mn (wrap64 ((wrap64 (x3_1 + (wrap64 (rd l4 x13_1)))) + (Int.tmod (wrap64 (rd l5 x13_1)) 300))) 1099511627776)).bind fun bt282 => (if bt282.2.2.2.2 = 0 then (weirgatelaw05_follow.l0 kj28 a1 l2 (wrap64 (x3_1 + (wrap64 (rd l4 x13_1)))) l4 l5 (wrap64 (x13_1 + 1)) bt282.1 bt282.2.1 bt282.2.2.1 bt282.2.2.2.1) else (some false))) else (none)) else (none)) = some r := by rw [if_pos rfl] at H; exact H
                            clear H
                            have H := H1
                            clear H1
                            by_cases c33 : 0 ≤ x13_1
                            · rw [if_pos c33] at H
                              have c33b0 : decide (0 ≤ x13_1) = true := decide_eq_true c33
                              clear c33
                              by_cases c34 : x13_1 < (l5.length : Int)
                              · rw [if_pos c34] at H
                                have c34b0 : decide (x13_1 < (l5.length : Int)) = true := decide_eq_true c34
                                clear c34
                                obtain ⟨ji35, hji35⟩ : ∃ j_ : Int, (mx (wrap64 ((wrap64 (x3_1 + (wrap64 (rd l4 x13_1)))) - (Int.tmod (wrap64 (rd l5 x13_1)) 100))) 0) = j_ := ⟨_, rfl⟩
                                replace H : ((clock_Sync.f kj28 x272000_1 x272001_1 x272002_1 x272003_1 t273 (ji35) (mn (wrap64 ((wrap64 (x3_1 + (wrap64 (rd l4 x13_1)))) + (Int.tmod (wrap64 (rd l5 x13_1)) 300))) 1099511627776)).bind fun bt282 => (if bt282.2.2.2.2 = 0 then (weirgatelaw05_follow.l0 kj28 a1 l2 (wrap64 (x3_1 + (wrap64 (rd l4 x13_1)))) l4 l5 (wrap64 (x13_1 + 1)) bt282.1 bt282.2.1 bt282.2.2.1 bt282.2.2.2.1) else (some false))) = some r := by first | (rw [hji35] at H; exact H) | (simp only [hji35] at H ⊢; exact H)
                                have hji35_ : (if (wrap64 ((wrap64 (x3_1 + (wrap64 (rd l4 x13_1)))) - (Int.tmod (wrap64 (rd l5 x13_1)) 100))) < 0 then 0 else (wrap64 ((wrap64 (x3_1 + (wrap64 (rd l4 x13_1)))) - (Int.tmod (wrap64 (rd l5 x13_1)) 100)))) = ji35 := hji35
                                obtain ⟨ji36, hji36⟩ : ∃ j_ : Int, (mn (wrap64 ((wrap64 (x3_1 + (wrap64 (rd l4 x13_1)))) + (Int.tmod (wrap64 (rd l5 x13_1)) 300))) 1099511627776) = j_ := ⟨_, rfl⟩
                                replace H : ((clock_Sync.f kj28 x272000_1 x272001_1 x272002_1 x272003_1 t273 (ji35) (ji36)).bind fun bt282 => (if bt282.2.2.2.2 = 0 then (weirgatelaw05_follow.l0 kj28 a1 l2 (wrap64 (x3_1 + (wrap64 (rd l4 x13_1)))) l4 l5 (wrap64 (x13_1 + 1)) bt282.1 bt282.2.1 bt282.2.2.1 bt282.2.2.2.1) else (some false))) = some r := by first | (rw [hji36] at H; exact H) | (simp only [hji36] at H ⊢; exact H)
                                have hji36_ : (if 1099511627776 < (wrap64 ((wrap64 (x3_1 + (wrap64 (rd l4 x13_1)))) + (Int.tmod (wrap64 (rd l5 x13_1)) 300))) then 1099511627776 else (wrap64 ((wrap64 (x3_1 + (wrap64 (rd l4 x13_1)))) + (Int.tmod (wrap64 (rd l5 x13_1)) 300)))) = ji36 := hji36
                                replace H := Option.bind_eq_some_iff.mp H
                                obtain ⟨⟨t282, t283, t284, t285, t286⟩, A370, H⟩ := H
                                replace H : (if t286 = 0 then (weirgatelaw05_follow.l0 kj28 a1 l2 (wrap64 (x3_1 + (wrap64 (rd l4 x13_1)))) l4 l5 (wrap64 (x13_1 + 1)) t282 t283 t284 t285) else (some false)) = some r := H
                                have A37 := Aside0.mk A370
                                clear A370
                                by_cases c38 : t286 = 0
                                · rw [if_pos c38] at H
                                  have c38b0 : (t286 == 0) = true := beq_iff_eq.mpr c38
                                  have c38b1 : (t286 != 0) = false := bne_eq_false_iff_eq.mpr c38
                                  clear c38
                                  have H' := Aside0.mk H
                                  clear H
                                  have p280 : 0 ≤ (x13_1 : Int) := of_decide_eq_true (by first | (with_reducible assumption) | assumption)
                                  have q280 : x13_1 < (l5.length : Int) := of_decide_eq_true (by first | (with_reducible assumption) | assumption)
                                  obtain ⟨ad280, e280, hx280_0⟩ := Kd.at_int HR5.out x13_1 p280 q280
                                  cases e280
                                  replace hx280_0 := (HB.out.cell (World.block_lt_of_cell? w _ hx280_0)).trans hx280_0
                                  replace p280 := eq_true p280
                                  replace q280 := eq_true q280
                                  go_wp2_with (first | ((with_reducible refine gate_dst (N := 19) rfl ?_); refine box_event ?hg (N := 19) ?hd (cs := #[.int .i64 0, .int .i64 0]) (t := 23) ?hr ?_; (case hd => rfl); (case hg => rfl); (case hr => first | (go_simp; done) | (go_simp; rfl)); intro gb281 hg w39 hbox hb; have n0_ := Aside0.mk (blk_below (pk BK271.out) hb); have n1_ := Aside0.mk (blk_below (pk BK278.out) hb); have n2_ := Aside0.mk (below_step (bk HB.out) hb); have n3_ := Aside0.mk (hbox); have n4_ := Aside0.mk ((by rw [hg]; exact (below_size (bk HB.out)) : w.heap.size ≤ gb281)); have n5_ := Aside0.mk ((by rw [hg]; exact (below_size (bk HB.out)) : w.heap.size ≤ gb281)); have n6_ := Aside0.mk ((by rw [hg]; exact Nat.ne_of_lt (blk_lt (g := gb271) (o := .cells #[.int .i64 x272000_1, .int .i64 x272001_1, .int .i64 x272002_1, .int .i64 x272003_1] 25 (0, 0)) (pk BK271.out)) : gb271 ≠ gb281)); have n7_ := Aside0.mk ((by rw [hg]; exact Nat.ne_of_gt (blk_lt (g := gb271) (o := .cells #[.int .i64 x272000_1, .int .i64 x272001_1, .int .i64 x272002_1, .int .i64 x272003_1] 25 (0, 0)) (pk BK271.out)) : gb281 ≠ gb271)); have n8_ := Aside0.mk ((by rw [hg]; exact Nat.ne_of_lt (blk_lt (g := gb278) (o := .cells #[.int .i64 t275, .int .i64 t276] 23 (0, 0)) (pk BK278.out)) : gb278 ≠ gb281)); have n9_ := Aside0.mk ((by rw [hg]; exact Nat.ne_of_gt (blk_lt (g := gb278) (o := .cells #[.int .i64 t275, .int .i64 t276] 23 (0, 0)) (pk BK278.out)) : gb281 ≠ gb278)); clear BK271 BK278 HB; have BK271 := n0_; have BK278 := n1_; have HB := n2_; have BK281 := n3_; have GW281 := n4_; have GE281 := n5_; have NB271_281 := n6_; have NB281_271 := n7_; have NB278_281 := n8_; have NB281_278 := n9_; clear n0_ n1_ n2_ n3_ n4_ n5_ n6_ n7_ n8_ n9_; clear hb hbox hg; have hnb40 := NB281_271.out; have hnc40 := NB271_281.out; have hnb41 := NB281_278.out; have hnc41 := NB278_281.out; have hcz42_0 : w39.cell? ⟨gb281, 0, none⟩ = some (.int .i64 0) := (blk_cell BK281.out 0).trans rfl; have hcz42_1 : w39.cell? ⟨gb281, 1, none⟩ = some (.int .i64 0) := (blk_cell BK281.out 1).trans rfl; have hfz42_0 := blk_frozen BK281.out 0; have hfz42_1 := blk_frozen BK281.out 1; have hnb43 := NB271_278.out; have hnc43 := NB278_271.out; have hcz44_0 : w39.cell? ⟨gb271, 0, none⟩ = some (.int .i64 x272000_1) := (blk_cell BK271.out 0).trans rfl; have hcz44_1 : w39.cell? ⟨gb271, 1, none⟩ = some (.int .i64 x272001_1) := (blk_cell BK271.out 1).trans rfl; have hcz44_2 : w39.cell? ⟨gb271, 2, none⟩ = some (.int .i64 x272002_1) := (blk_cell BK271.out 2).trans rfl; have hcz44_3 : w39.cell? ⟨gb271, 3, none⟩ = some (.int .i64 x272003_1) := (blk_cell BK271.out 3).trans rfl; have hfz44_0 := blk_frozen BK271.out 0; have hfz44_1 := blk_frozen BK271.out 1; have hfz44_2 := blk_frozen BK271.out 2; have hfz44_3 := blk_frozen BK271.out 3) | ((with_reducible refine gate_callee (f := 16) rfl ?_); refine goesL_ (some 100) rfl rfl Try.func16 (by kernel_rfl) rfl #[.agg #[.int .i64 x272000_1, .int .i64 x272001_1, .int .i64 x272002_1, .int .i64 x272003_1], .int .i64 t273, .agg #[.int .i64 ji35, .int .i64 ji36]] rfl (by (try simp only [List.map_toArray, List.map_cons, List.map_nil]); first | done | (simp only [hji35, hji36]; rfl) | rfl | (simp only [List.length_drop, List.length_take]; rfl)) ?_; (with_reducible refine (clock_Sync.calls kj28 x272000_1 x272001_1 x272002_1 x272003_1 t273 ji35 ji36 t282 t283 t284 t285 t286 _ A37.out).mono ?_); rintro e w45 ⟨rfl, hb⟩; refine ⟨_, rfl, ?_⟩; have n0_ := Aside0.mk (blk_below (g := gb271) (o := .cells #[.int .i64 x272000_1, .int .i64 x272001_1, .int .i64 x272002_1, .int .i64 x272003_1] 25 (0, 0)) (by refine pk ?_; refine blk_far ?_ NB271_281.out _; refine pk ?_; refine blk_far ?_ NB271_281.out _; refine pk ?_; exact BK271.out) hb); have n1_ := Aside0.mk (blk_below (g := gb278) (o := .cells #[.int .i64 t275, .int .i64 t276] 23 (0, 0)) (by refine pk ?_; refine blk_far ?_ NB278_281.out _; refine pk ?_; refine blk_far ?_ NB278_281.out _; refine pk ?_; exact BK278.out) hb); have n2_ := Aside0.mk (blk_below (g := gb281) (o := .cells #[.int .i64 ji35, .int .i64 ji36] 23 (0, 0)) (by refine pk ?_; refine blk_put (cs := #[.int .i64 ji35, .int .i64 0]) ?_ 1 _ rfl; refine pk ?_; refine blk_put (cs := #[.int .i64 0, .int .i64 0]) ?_ 0 _ rfl; refine pk ?_; exact BK281.out) hb); have n3_ := Aside0.mk (below_step (bk HB.out) hb); clear BK271 BK278; clear BK281 HB; have BK271 := n0_; have BK278 := n1_; have BK281 := n2_; have HB := n3_; clear n0_ n1_ n2_ n3_; (try clear hb); (try clear hb2); (try clear hk); (try clear hi)) | ((with_reducible refine gate_dst (N := 20) rfl ?_); refine box_event ?hg (N := 20) ?hd (cs := #[.int .i64 0, .int .i64 0, .int .i64 0, .int .i64 0]) (t := 25) ?hr ?_; (case hd => rfl); (case hg => rfl); (case hr => first | (go_simp; done) | (go_simp; rfl)); intro gb287 hg w46 hbox hb; have n0_ := Aside0.mk (blk_below (pk BK271.out) hb); have n1_ := Aside0.mk (blk_below (pk BK278.out) hb); have n2_ := Aside0.mk (blk_below (pk BK281.out) hb); have n3_ := Aside0.mk (below_step (bk HB.out) hb); have n4_ := Aside0.mk (hbox); have n5_ := Aside0.mk ((by rw [hg]; exact (below_size (bk HB.out)) : w.heap.size ≤ gb287)); have n6_ := Aside0.mk ((by rw [hg]; exact (below_size (bk HB.out)) : w.heap.size ≤ gb287)); have n7_ := Aside0.mk ((by rw [hg]; exact Nat.ne_of_lt (blk_lt (g := gb271) (o := .cells #[.int .i64 x272000_1, .int .i64 x272001_1, .int .i64 x272002_1, .int .i64 x272003_1] 25 (0, 0)) (pk BK271.out)) : gb271 ≠ gb287)); have n8_ := Aside0.mk ((by rw [hg]; exact Nat.ne_of_gt (blk_lt (g := gb271) (o := .cells #[.int .i64 x272000_1, .int .i64 x272001_1, .int .i64 x272002_1, .int .i64 x272003_1] 25 (0, 0)) (pk BK271.out)) : gb287 ≠ gb271)); have n9_ := Aside0.mk ((by rw [hg]; exact Nat.ne_of_lt (blk_lt (g := gb278) (o := .cells #[.int .i64 t275, .int .i64 t276] 23 (0, 0)) (pk BK278.out)) : gb278 ≠ gb287)); have n10_ := Aside0.mk ((by rw [hg]; exact Nat.ne_of_gt (blk_lt (g := gb278) (o := .cells #[.int .i64 t275, .int .i64 t276] 23 (0, 0)) (pk BK278.out)) : gb287 ≠ gb278)); have n11_ := Aside0.mk ((by rw [hg]; exact Nat.ne_of_lt (blk_lt (g := gb281) (o := .cells #[.int .i64 ji35, .int .i64 ji36] 23 (0, 0)) (pk BK281.out)) : gb281 ≠ gb287)); have n12_ := Aside0.mk ((by rw [hg]; exact Nat.ne_of_gt (blk_lt (g := gb281) (o := .cells #[.int .i64 ji35, .int .i64 ji36] 23 (0, 0)) (pk BK281.out)) : gb287 ≠ gb281)); clear BK271 BK278; clear BK281 HB; have BK271 := n0_; have BK278 := n1_; have BK281 := n2_; have HB := n3_; have BK287 := n4_; have GW287 := n5_; have GE287 := n6_; have NB271_287 := n7_; have NB287_271 := n8_; have NB278_287 := n9_; have NB287_278 := n10_; have NB281_287 := n11_; have NB287_281 := n12_; clear n0_ n1_ n2_ n3_ n4_ n5_ n6_ n7_ n8_ n9_ n10_ n11_ n12_; clear hb hbox hg; have hnb47 := NB287_271.out; have hnc47 := NB271_287.out; have hnb48 := NB287_278.out; have hnc48 := NB278_287.out; have hnb49 := NB287_281.out; have hnc49 := NB281_287.out; have hcz50_0 : w46.cell? ⟨gb287, 0, none⟩ = some (.int .i64 0) := (blk_cell BK287.out 0).trans rfl; have hcz50_1 : w46.cell? ⟨gb287, 1, none⟩ = some (.int .i64 0) := (blk_cell BK287.out 1).trans rfl; have hcz50_2 : w46.cell? ⟨gb287, 2, none⟩ = some (.int .i64 0) := (blk_cell BK287.out 2).trans rfl; have hcz50_3 : w46.cell? ⟨gb287, 3, none⟩ = some (.int .i64 0) := (blk_cell BK287.out 3).trans rfl; have hfz50_0 := blk_frozen BK287.out 0; have hfz50_1 := blk_frozen BK287.out 1; have hfz50_2 := blk_frozen BK287.out 2; have hfz50_3 := blk_frozen BK287.out 3; have hcz51_0 : w46.cell? ⟨gb271, 0, none⟩ = some (.int .i64 x272000_1) := (blk_cell BK271.out 0).trans rfl; have hcz51_1 : w46.cell? ⟨gb271, 1, none⟩ = some (.int .i64 x272001_1) := (blk_cell BK271.out 1).trans rfl; have hcz51_2 : w46.cell? ⟨gb271, 2, none⟩ = some (.int .i64 x272002_1) := (blk_cell BK271.out 2).trans rfl; have hcz51_3 : w46.cell? ⟨gb271, 3, none⟩ = some (.int .i64 x272003_1) := (blk_cell BK271.out 3).trans rfl; have hfz51_0 := blk_frozen BK271.out 0; have hfz51_1 := blk_frozen BK271.out 1; have hfz51_2 := blk_frozen BK271.out 2; have hfz51_3 := blk_frozen BK271.out 3))
                                  go_roundg kj28
                                  case measure => have := HK1.out; have := HJ10.out; have := HJ15.out; have := HJ28.out; omega
                                  case rel => exact ⟨((wrap64 (x3_1 + (wrap64 (rd l4 x13_1))))), (wrap64 (x13_1 + 1)), (t282), (t283), (t284), (t285), (by first | rfl | (simp; done) | (simp [*]; done) | (simp only [show ∀ p : Prop, Aside0 p = p from fun p => propext ⟨Aside0.out, Aside0.mk⟩] at *; simp_all; done)), (by first | rfl | (simp; done) | (simp [*]; done) | (simp only [show ∀ p : Prop, Aside0 p = p from fun p => propext ⟨Aside0.out, Aside0.mk⟩] at *; simp_all; done)), H', ⟨by have := HK1.out; have := HJ10.out; have := HJ15.out; have := HJ28.out; omega⟩, ⟨by refine pk ?_; refine blk_put (cs := #[.int .i64 t282, .int .i64 t283, .int .i64 t284, .int .i64 x272003_1]) ?_ 3 _ rfl; refine pk ?_; refine blk_put (cs := #[.int .i64 t282, .int .i64 t283, .int .i64 x272002_1, .int .i64 x272003_1]) ?_ 2 _ rfl; refine pk ?_; refine blk_put (cs := #[.int .i64 t282, .int .i64 x272001_1, .int .i64 x272002_1, .int .i64 x272003_1]) ?_ 1 _ rfl; refine pk ?_; refine blk_put (cs := #[.int .i64 x272000_1, .int .i64 x272001_1, .int .i64 x272002_1, .int .i64 x272003_1]) ?_ 0 _ rfl; refine pk ?_; refine blk_far ?_ NB271_287.out _; refine pk ?_; refine blk_far ?_ NB271_287.out _; refine pk ?_; refine blk_far ?_ NB271_287.out _; refine pk ?_; refine blk_far ?_ NB271_287.out _; refine pk ?_; exact BK271.out⟩, ⟨bk HB.out⟩⟩
                                · rw [if_neg c38] at H
                                  have c38b0 : (t286 == 0) = false := beq_eq_false_iff_ne.mpr c38
                                  have c38b1 : (t286 != 0) = true := bne_iff_ne.mpr c38
                                  obtain rfl := Option.some.inj H
                                  have p280 : 0 ≤ (x13_1 : Int) := of_decide_eq_true (by first | (with_reducible assumption) | assumption)
                                  have q280 : x13_1 < (l5.length : Int) := of_decide_eq_true (by first | (with_reducible assumption) | assumption)
                                  obtain ⟨ad280, e280, hx280_0⟩ := Kd.at_int HR5.out x13_1 p280 q280
                                  cases e280
                                  replace hx280_0 := (HB.out.cell (World.block_lt_of_cell? w _ hx280_0)).trans hx280_0
                                  replace p280 := eq_true p280
                                  replace q280 := eq_true q280
                                  go_wp2_with (first | ((with_reducible refine gate_dst (N := 19) rfl ?_); refine box_event ?hg (N := 19) ?hd (cs := #[.int .i64 0, .int .i64 0]) (t := 23) ?hr ?_; (case hd => rfl); (case hg => rfl); (case hr => first | (go_simp; done) | (go_simp; rfl)); intro gb281 hg w52 hbox hb; have n0_ := Aside0.mk (blk_below (pk BK271.out) hb); have n1_ := Aside0.mk (blk_below (pk BK278.out) hb); have n2_ := Aside0.mk (below_step (bk HB.out) hb); have n3_ := Aside0.mk (hbox); have n4_ := Aside0.mk ((by rw [hg]; exact (below_size (bk HB.out)) : w.heap.size ≤ gb281)); have n5_ := Aside0.mk ((by rw [hg]; exact (below_size (bk HB.out)) : w.heap.size ≤ gb281)); have n6_ := Aside0.mk ((by rw [hg]; exact Nat.ne_of_lt (blk_lt (g := gb271) (o := .cells #[.int .i64 x272000_1, .int .i64 x272001_1, .int .i64 x272002_1, .int .i64 x272003_1] 25 (0, 0)) (pk BK271.out)) : gb271 ≠ gb281)); have n7_ := Aside0.mk ((by rw [hg]; exact Nat.ne_of_gt (blk_lt (g := gb271) (o := .cells #[.int .i64 x272000_1, .int .i64 x272001_1, .int .i64 x272002_1, .int .i64 x272003_1] 25 (0, 0)) (pk BK271.out)) : gb281 ≠ gb271)); have n8_ := Aside0.mk ((by rw [hg]; exact Nat.ne_of_lt (blk_lt (g := gb278) (o := .cells #[.int .i64 t275, .int .i64 t276] 23 (0, 0)) (pk BK278.out)) : gb278 ≠ gb281)); have n9_ := Aside0.mk ((by rw [hg]; exact Nat.ne_of_gt (blk_lt (g := gb278) (o := .cells #[.int .i64 t275, .int .i64 t276] 23 (0, 0)) (pk BK278.out)) : gb281 ≠ gb278)); clear BK271 BK278 HB; have BK271 := n0_; have BK278 := n1_; have HB := n2_; have BK281 := n3_; have GW281 := n4_; have GE281 := n5_; have NB271_281 := n6_; have NB281_271 := n7_; have NB278_281 := n8_; have NB281_278 := n9_; clear n0_ n1_ n2_ n3_ n4_ n5_ n6_ n7_ n8_ n9_; clear hb hbox hg; have hnb53 := NB281_271.out; have hnc53 := NB271_281.out; have hnb54 := NB281_278.out; have hnc54 := NB278_281.out; have hcz55_0 : w52.cell? ⟨gb281, 0, none⟩ = some (.int .i64 0) := (blk_cell BK281.out 0).trans rfl; have hcz55_1 : w52.cell? ⟨gb281, 1, none⟩ = some (.int .i64 0) := (blk_cell BK281.out 1).trans rfl; have hfz55_0 := blk_frozen BK281.out 0; have hfz55_1 := blk_frozen BK281.out 1; have hnb56 := NB271_278.out; have hnc56 := NB278_271.out; have hcz57_0 : w52.cell? ⟨gb271, 0, none⟩ = some (.int .i64 x272000_1) := (blk_cell BK271.out 0).trans rfl; have hcz57_1 : w52.cell? ⟨gb271, 1, none⟩ = some (.int .i64 x272001_1) := (blk_cell BK271.out 1).trans rfl; have hcz57_2 : w52.cell? ⟨gb271, 2, none⟩ = some (.int .i64 x272002_1) := (blk_cell BK271.out 2).trans rfl; have hcz57_3 : w52.cell? ⟨gb271, 3, none⟩ = some (.int .i64 x272003_1) := (blk_cell BK271.out 3).trans rfl; have hfz57_0 := blk_frozen BK271.out 0; have hfz57_1 := blk_frozen BK271.out 1; have hfz57_2 := blk_frozen BK271.out 2; have hfz57_3 := blk_frozen BK271.out 3) | ((with_reducible refine gate_callee (f := 16) rfl ?_); refine goesL_ (some 100) rfl rfl Try.func16 (by kernel_rfl) rfl #[.agg #[.int .i64 x272000_1, .int .i64 x272001_1, .int .i64 x272002_1, .int .i64 x272003_1], .int .i64 t273, .agg #[.int .i64 ji35, .int .i64 ji36]] rfl (by (try simp only [List.map_toArray, List.map_cons, List.map_nil]); first | done | (simp only [hji35, hji36]; rfl) | rfl | (simp only [List.length_drop, List.length_take]; rfl)) ?_; (with_reducible refine (clock_Sync.calls kj28 x272000_1 x272001_1 x272002_1 x272003_1 t273 ji35 ji36 t282 t283 t284 t285 t286 _ A37.out).mono ?_); rintro e w58 ⟨rfl, hb⟩; refine ⟨_, rfl, ?_⟩; have n0_ := Aside0.mk (blk_below (g := gb271) (o := .cells #[.int .i64 x272000_1, .int .i64 x272001_1, .int .i64 x272002_1, .int .i64 x272003_1] 25 (0, 0)) (by refine pk ?_; refine blk_far ?_ NB271_281.out _; refine pk ?_; refine blk_far ?_ NB271_281.out _; refine pk ?_; exact BK271.out) hb); have n1_ := Aside0.mk (blk_below (g := gb278) (o := .cells #[.int .i64 t275, .int .i64 t276] 23 (0, 0)) (by refine pk ?_; refine blk_far ?_ NB278_281.out _; refine pk ?_; refine blk_far ?_ NB278_281.out _; refine pk ?_; exact BK278.out) hb); have n2_ := Aside0.mk (blk_below (g := gb281) (o := .cells #[.int .i64 ji35, .int .i64 ji36] 23 (0, 0)) (by refine pk ?_; refine blk_put (cs := #[.int .i64 ji35, .int .i64 0]) ?_ 1 _ rfl; refine pk ?_; refine blk_put (cs := #[.int .i64 0, .int .i64 0]) ?_ 0 _ rfl; refine pk ?_; exact BK281.out) hb); have n3_ := Aside0.mk (below_step (bk HB.out) hb); clear BK271 BK278; clear BK281 HB; have BK271 := n0_; have BK278 := n1_; have BK281 := n2_; have HB := n3_; clear n0_ n1_ n2_ n3_; (try clear hb); (try clear hb2); (try clear hk); (try clear hi)) | ((with_reducible refine gate_dst (N := 20) rfl ?_); refine box_event ?hg (N := 20) ?hd (cs := #[.int .i64 0, .int .i64 0, .int .i64 0, .int .i64 0]) (t := 25) ?hr ?_; (case hd => rfl); (case hg => rfl); (case hr => first | (go_simp; done) | (go_simp; rfl)); intro gb287 hg w59 hbox hb; have n0_ := Aside0.mk (blk_below (pk BK271.out) hb); have n1_ := Aside0.mk (blk_below (pk BK278.out) hb); have n2_ := Aside0.mk (blk_below (pk BK281.out) hb); have n3_ := Aside0.mk (below_step (bk HB.out) hb); have n4_ := Aside0.mk (hbox); have n5_ := Aside0.mk ((by rw [hg]; exact (below_size (bk HB.out)) : w.heap.size ≤ gb287)); have n6_ := Aside0.mk ((by rw [hg]; exact (below_size (bk HB.out)) : w.heap.size ≤ gb287)); have n7_ := Aside0.mk ((by rw [hg]; exact Nat.ne_of_lt (blk_lt (g := gb271) (o := .cells #[.int .i64 x272000_1, .int .i64 x272001_1, .int .i64 x272002_1, .int .i64 x272003_1] 25 (0, 0)) (pk BK271.out)) : gb271 ≠ gb287)); have n8_ := Aside0.mk ((by rw [hg]; exact Nat.ne_of_gt (blk_lt (g := gb271) (o := .cells #[.int .i64 x272000_1, .int .i64 x272001_1, .int .i64 x272002_1, .int .i64 x272003_1] 25 (0, 0)) (pk BK271.out)) : gb287 ≠ gb271)); have n9_ := Aside0.mk ((by rw [hg]; exact Nat.ne_of_lt (blk_lt (g := gb278) (o := .cells #[.int .i64 t275, .int .i64 t276] 23 (0, 0)) (pk BK278.out)) : gb278 ≠ gb287)); have n10_ := Aside0.mk ((by rw [hg]; exact Nat.ne_of_gt (blk_lt (g := gb278) (o := .cells #[.int .i64 t275, .int .i64 t276] 23 (0, 0)) (pk BK278.out)) : gb287 ≠ gb278)); have n11_ := Aside0.mk ((by rw [hg]; exact Nat.ne_of_lt (blk_lt (g := gb281) (o := .cells #[.int .i64 ji35, .int .i64 ji36] 23 (0, 0)) (pk BK281.out)) : gb281 ≠ gb287)); have n12_ := Aside0.mk ((by rw [hg]; exact Nat.ne_of_gt (blk_lt (g := gb281) (o := .cells #[.int .i64 ji35, .int .i64 ji36] 23 (0, 0)) (pk BK281.out)) : gb287 ≠ gb281)); clear BK271 BK278; clear BK281 HB; have BK271 := n0_; have BK278 := n1_; have BK281 := n2_; have HB := n3_; have BK287 := n4_; have GW287 := n5_; have GE287 := n6_; have NB271_287 := n7_; have NB287_271 := n8_; have NB278_287 := n9_; have NB287_278 := n10_; have NB281_287 := n11_; have NB287_281 := n12_; clear n0_ n1_ n2_ n3_ n4_ n5_ n6_ n7_ n8_ n9_ n10_ n11_ n12_; clear hb hbox hg; have hnb60 := NB287_271.out; have hnc60 := NB271_287.out; have hnb61 := NB287_278.out; have hnc61 := NB278_287.out; have hnb62 := NB287_281.out; have hnc62 := NB281_287.out; have hcz63_0 : w59.cell? ⟨gb287, 0, none⟩ = some (.int .i64 0) := (blk_cell BK287.out 0).trans rfl; have hcz63_1 : w59.cell? ⟨gb287, 1, none⟩ = some (.int .i64 0) := (blk_cell BK287.out 1).trans rfl; have hcz63_2 : w59.cell? ⟨gb287, 2, none⟩ = some (.int .i64 0) := (blk_cell BK287.out 2).trans rfl; have hcz63_3 : w59.cell? ⟨gb287, 3, none⟩ = some (.int .i64 0) := (blk_cell BK287.out 3).trans rfl; have hfz63_0 := blk_frozen BK287.out 0; have hfz63_1 := blk_frozen BK287.out 1; have hfz63_2 := blk_frozen BK287.out 2; have hfz63_3 := blk_frozen BK287.out 3))
                                  go_ret
                                  exact ⟨by first | rfl | (simp [errW_none, errW_some] <;> rfl) | (simp only [← hji35, ← hji36]; first | rfl | (simp [errW_none, errW_some] <;> rfl)) | (simp [*, errW_none, errW_some] <;> rfl), bk HB.out⟩
                              · rw [if_neg c34] at H
                                exact absurd H (by simp)
                            · rw [if_neg c33] at H
                              exact absurd H (by simp)
                          · replace c32 := Bool.eq_false_iff.mpr c32
                            subst c32
                            have H1 : (weirgatelaw05_follow.l0 kj28 a1 l2 (wrap64 (x3_1 + (wrap64 (rd l4 x13_1)))) l4 l5 (wrap64 (x13_1 + 1)) x272000_1 x272001_1 x272002_1 x272003_1) = some r := by rw [if_neg (show ¬ (false = true) by decide)] at H; exact H
                            clear H
                            have H := H1
                            clear H1
                            have H' := Aside0.mk H
                            clear H
                            go_wp2
                            go_roundg kj28
                            case measure => have := HK1.out; have := HJ10.out; have := HJ15.out; have := HJ28.out; omega
                            case rel => exact ⟨((wrap64 (x3_1 + (wrap64 (rd l4 x13_1))))), (wrap64 (x13_1 + 1)), (x272000_1), (x272001_1), (x272002_1), (x272003_1), (by first | rfl | (simp; done) | (simp [*]; done) | (simp only [show ∀ p : Prop, Aside0 p = p from fun p => propext ⟨Aside0.out, Aside0.mk⟩] at *; simp_all; done)), (by first | rfl | (simp; done) | (simp [*]; done) | (simp only [show ∀ p : Prop, Aside0 p = p from fun p => propext ⟨Aside0.out, Aside0.mk⟩] at *; simp_all; done)), H', ⟨by have := HK1.out; have := HJ10.out; have := HJ15.out; have := HJ28.out; omega⟩, ⟨pk BK271.out⟩, ⟨bk HB.out⟩⟩
        · rw [if_neg c9] at H
          exact absurd H (by simp)
      · rw [if_neg c8] at H
        have c8b0 : decide (x13_1 < (l4.length : Int)) = false := decide_eq_false c8
        clear c8
        obtain rfl := Option.some.inj H
        go_wp2
        go_ret
        exact ⟨by first | rfl | (simp [errW_none, errW_some] <;> rfl) | (simp [*, errW_none, errW_some] <;> rfl), bk HB.out⟩

end Go.Proofs.Ytijeiemdhpkklaa.PP
