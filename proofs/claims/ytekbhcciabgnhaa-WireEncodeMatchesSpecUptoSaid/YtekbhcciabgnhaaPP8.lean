-- laid by a program of this session (wip/xprint), out of the translation
import Derived.Test.YtekbhcciabgnhaaPP0
import Derived.Test.YtekbhcciabgnhaaPP1
import Derived.Test.YtekbhcciabgnhaaPP2
import Derived.Test.YtekbhcciabgnhaaPP6
import Derived.Test.YtekbhcciabgnhaaPP7
import Derived.Test.YtekbhcciabgnhaaGRefDigests
namespace Go.Proofs.Ytekbhcciabgnhaa.PP
open Go.RowKit Go.Proofs.YtekbhcciabgnhaaW.PrintWords Go.Proofs.YtekbhcciabgnhaaW.PrintLast Go.Proofs.YtekbhcciabgnhaaW.PrintMore
attribute [local go_sem] max2_int min2_int max_two min_two max_three min_three max_four min_four   -- for this text's walks alone
set_option linter.unusedVariables false
set_option linter.unusedSimpArgs false

attribute [local go_sem] isSome_put
/-! ### weirgatelaw01_WireEncodeMatchesSpec: function 3 -/
def weirgatelaw01_WireEncodeMatchesSpec.j0 : Nat → Int → ByteArray → List Int → List ByteArray → List (S57) → Bool → Option (Bool)
  | 0, _, _, _, _, _, _ => none
  | k + 1, x0, x1, x2, x3, x4, x24 => if x24 = true then ((weirgatelaw01_sanity.f k).bind fun t358 => (some t358)) else ((weirgatelaw01_sanity.f k).bind fun t359 => (if t359 = true then ((wire_Int.f k x0).bind fun t360 => ((weirgateref01_Int.f k x0).bind fun t363 => ((weirgateref01_Same.f t360 t363).bind fun t366 => (if t366 = true then ((wire_Bytes.f k x1).bind fun t367 => ((weirgateref01_Bytes.f k x1).bind fun t370 => ((weirgateref01_Same.f t367 t370).bind fun t373 => (if t373 = true then ((wire_Ints.f k x2).bind fun t374 => ((weirgateref01_Ints.f k x2).bind fun t377 => ((weirgateref01_Same.f t374 t377).bind fun t380 => (if t380 = true then ((wire_Strings.f k x3).bind fun t381 => ((weirgateref01_Strings.f k x3).bind fun t384 => ((weirgateref01_Same.f t381 t384).bind fun t387 => (if t387 = true then ((wire_Digests.f k x4).bind fun t388 => ((weirgateref01_Digests.f k x4).bind fun t391 => ((weirgateref01_Same.f t388 t391).bind fun t394 => (some t394)))) else (none))))) else (none))))) else (none))))) else (none))))) else (none)))
def weirgatelaw01_WireEncodeMatchesSpec.f (k : Nat) (a0 : Int) (a1 : ByteArray) (l2 : List Int) (l3 : List ByteArray) (l4 : List (S57)) : Option (Bool) := if (wrap64 ((wrap64 ((a1.size : Int) + (l2.length : Int))) + (l4.length : Int))) > 2000 then (weirgatelaw01_WireEncodeMatchesSpec.j0 k a0 a1 l2 l3 l4 true) else ((weirgatelaw01_few.f k l3).bind fun t357 => (weirgatelaw01_WireEncodeMatchesSpec.j0 k a0 a1 l2 l3 l4 (!t357)))
theorem weirgatelaw01_WireEncodeMatchesSpec.mono_l : ∀ k, (∀ y0 y1 y2 y3 y4 y5, LeO (weirgatelaw01_WireEncodeMatchesSpec.j0 k y0 y1 y2 y3 y4 y5) (weirgatelaw01_WireEncodeMatchesSpec.j0 (k + 1) y0 y1 y2 y3 y4 y5))
  | 0 => fun _ _ _ _ _ _ r h => by simp [weirgatelaw01_WireEncodeMatchesSpec.j0] at h
  | k + 1 => by
    have ih0 := weirgatelaw01_WireEncodeMatchesSpec.mono_l k
    · intro y0 y1 y2 y3 y4 y5
      unfold weirgatelaw01_WireEncodeMatchesSpec.j0
      repeat' first
      | (with_reducible exact ih0 _ _ _ _ _ _)
      | (with_reducible exact weirgatelaw01_few.mono _ _)
      | (with_reducible exact weirgatelaw01_sanity.mono _)
      | (with_reducible exact weirgateref01_Bytes.mono _ _)
      | (with_reducible exact weirgateref01_Digests.mono _ _)
      | (with_reducible exact weirgateref01_Int.mono _ _)
      | (with_reducible exact weirgateref01_Ints.mono _ _)
      | (with_reducible exact weirgateref01_Strings.mono _ _)
      | (with_reducible exact wire_Bytes.mono _ _)
      | (with_reducible exact wire_Digests.mono _ _)
      | (with_reducible exact wire_Int.mono _ _)
      | (with_reducible exact wire_Ints.mono _ _)
      | (with_reducible exact wire_Strings.mono _ _)
      | (with_reducible exact LeO.refl _)
      | (with_reducible exact LeO.none _)
      | (with_reducible refine LeO.ite ?_ ?_)
      | (with_reducible refine LeO.bind ?_ (fun _ => ?_))
      | exact ih0 _ _ _ _ _ _
      | exact weirgatelaw01_few.mono _ _
      | exact weirgatelaw01_sanity.mono _
      | exact weirgateref01_Bytes.mono _ _
      | exact weirgateref01_Digests.mono _ _
      | exact weirgateref01_Int.mono _ _
      | exact weirgateref01_Ints.mono _ _
      | exact weirgateref01_Strings.mono _ _
      | exact wire_Bytes.mono _ _
      | exact wire_Digests.mono _ _
      | exact wire_Int.mono _ _
      | exact wire_Ints.mono _ _
      | exact wire_Strings.mono _ _
      | exact LeO.none _
      | refine LeO.ite ?_ ?_
      | refine LeO.bind ?_ (fun _ => ?_)
theorem weirgatelaw01_WireEncodeMatchesSpec.mono : ∀ a0 a1 a2 a3 a4 k, LeO (weirgatelaw01_WireEncodeMatchesSpec.f k a0 a1 a2 a3 a4) (weirgatelaw01_WireEncodeMatchesSpec.f (k + 1) a0 a1 a2 a3 a4) := by
  intro a0 a1 a2 a3 a4 k
  have ih0 := weirgatelaw01_WireEncodeMatchesSpec.mono_l k
  unfold weirgatelaw01_WireEncodeMatchesSpec.f
  repeat' first
      | (with_reducible exact ih0 _ _ _ _ _ _)
      | (with_reducible exact weirgatelaw01_few.mono _ _)
      | (with_reducible exact weirgatelaw01_sanity.mono _)
      | (with_reducible exact weirgateref01_Bytes.mono _ _)
      | (with_reducible exact weirgateref01_Digests.mono _ _)
      | (with_reducible exact weirgateref01_Int.mono _ _)
      | (with_reducible exact weirgateref01_Ints.mono _ _)
      | (with_reducible exact weirgateref01_Strings.mono _ _)
      | (with_reducible exact wire_Bytes.mono _ _)
      | (with_reducible exact wire_Digests.mono _ _)
      | (with_reducible exact wire_Int.mono _ _)
      | (with_reducible exact wire_Ints.mono _ _)
      | (with_reducible exact wire_Strings.mono _ _)
      | (with_reducible exact LeO.refl _)
      | (with_reducible exact LeO.none _)
      | (with_reducible refine LeO.ite ?_ ?_)
      | (with_reducible refine LeO.bind ?_ (fun _ => ?_))
      | exact ih0 _ _ _ _ _ _
      | exact weirgatelaw01_few.mono _ _
      | exact weirgatelaw01_sanity.mono _
      | exact weirgateref01_Bytes.mono _ _
      | exact weirgateref01_Digests.mono _ _
      | exact weirgateref01_Int.mono _ _
      | exact weirgateref01_Ints.mono _ _
      | exact weirgateref01_Strings.mono _ _
      | exact wire_Bytes.mono _ _
      | exact wire_Digests.mono _ _
      | exact wire_Int.mono _ _
      | exact wire_Ints.mono _ _
      | exact wire_Strings.mono _ _
      | exact LeO.none _
      | refine LeO.ite ?_ ?_
      | refine LeO.bind ?_ (fun _ => ?_)
set_option maxHeartbeats 8000000 in
set_option maxRecDepth 100000 in
theorem weirgatelaw01_WireEncodeMatchesSpec.calls (k : Nat) (a0 : Int) (a1 : ByteArray) (A2 : Option Addr) (c2 : Nat) (l2 : List Int) (A3 : Option Addr) (c3 : Nat) (l3 : List ByteArray) (A4 : Option Addr) (c4 : Nat) (l4 : List (S57)) (r : Bool) (w : World) (hr2 : Kd.C (Kd.int .i64) w A2 l2.length l2) (hc2 : l2.length ≤ c2) (hr3 : Kd.C Kd.string w A3 l3.length l3) (hc3 : l3.length ≤ c3) (hr4 : Kd.C k57 w A4 l4.length l4) (hc4 : l4.length ≤ c4) (h : weirgatelaw01_WireEncodeMatchesSpec.f k a0 a1 l2 l3 l4 = some r) :
    Calls Try.prog 3 #[.int .i64 a0, .string a1, .slice A2 l2.length c2, .slice A3 l3.length c3, .slice A4 l4.length c4] w fun e w' => e = .returned (.bool r) ∧ Below w.heap.size w w' := by
  have HR2 := Aside0.mk hr2
  have HC2 := Aside0.mk hc2
  clear hr2 hc2
  have HR3 := Aside0.mk hr3
  have HC3 := Aside0.mk hc3
  clear hr3 hc3
  have HR4 := Aside0.mk hr4
  have HC4 := Aside0.mk hc4
  clear hr4 hc4
  have HB := Aside0.mk (Below.refl w.heap.size w)
  have H : (if (wrap64 ((wrap64 ((a1.size : Int) + (l2.length : Int))) + (l4.length : Int))) > 2000 then (weirgatelaw01_WireEncodeMatchesSpec.j0 k a0 a1 l2 l3 l4 true) else ((weirgatelaw01_few.f k l3).bind fun t357 => (weirgatelaw01_WireEncodeMatchesSpec.j0 k a0 a1 l2 l3 l4 (!t357)))) = some r := h
  clear h
  have HC6 := Aside0.mk H
  clear H
  go_enter Try.func3, Try.ntmps3
  go_upto_region 1 with (fail)
  go_cut [24] (fun v24 wc => ∃ (kq : Nat) (x24_5 : Bool), v24 = .bool x24_5 ∧ Aside0 (weirgatelaw01_WireEncodeMatchesSpec.j0 kq a0 a1 l2 l3 l4 x24_5 = some r) ∧ Aside0 (kq ≤ k) ∧ Aside0 (Below w.heap.size w wc))
  case first =>
    have H := HC6.out
    clear HC6
    by_cases c7 : (wrap64 ((wrap64 ((a1.size : Int) + (l2.length : Int))) + (l4.length : Int))) > 2000
    · rw [if_pos c7] at H
      have c7b0 : decide (2000 < (wrap64 ((wrap64 ((a1.size : Int) + (l2.length : Int))) + (l4.length : Int)))) = true := decide_eq_true c7
      clear c7
      (first | rw [c7b0] | (simp only [i64_w, i32_w]; rw [c7b0]) | skip)
      have H' := Aside0.mk H
      clear H
      go_wp2
      go_meet
      case rel => exact ⟨_, (true), (by first | rfl | (simp; done) | (simp [*]; done) | (simp only [show ∀ p : Prop, Aside0 p = p from fun p => propext ⟨Aside0.out, Aside0.mk⟩] at *; simp_all; done)), H', ⟨by first | omega | exact Nat.le_refl _⟩, ⟨bk HB.out⟩⟩
    · rw [if_neg c7] at H
      have c7b0 : decide (2000 < (wrap64 ((wrap64 ((a1.size : Int) + (l2.length : Int))) + (l4.length : Int)))) = false := decide_eq_false c7
      clear c7
      (first | rw [c7b0] | (simp only [i64_w, i32_w]; rw [c7b0]) | skip)
      replace H := Option.bind_eq_some_iff.mp H
      obtain ⟨t357, A80, H⟩ := H
      replace H : (weirgatelaw01_WireEncodeMatchesSpec.j0 k a0 a1 l2 l3 l4 (!t357)) = some r := H
      have A8 := Aside0.mk A80
      clear A80
      have H' := Aside0.mk H
      clear H
      go_wp2_with (first | (go_at_call 11; (with_reducible refine (weirgatelaw01_few.calls k _ _ l3 t357 _ ?side1 ?side2 A8.out).mono ?_); (case side1 => repeat (first | exact (Kd.C_below HR3.out HB.out) | exact HR3.out | (with_reducible refine Kd.C_alloc ?_ _) | (with_reducible refine Kd.C_drewN ?_ _) | (with_reducible refine Kd.C_drew ?_))); (case side2 => exact HC3.out); rintro e w' ⟨rfl, ⟨nd, rfl⟩⟩))
      go_meet
      case rel => exact ⟨_, (!t357), (by first | rfl | (simp; done) | (simp [*]; done) | (simp only [show ∀ p : Prop, Aside0 p = p from fun p => propext ⟨Aside0.out, Aside0.mk⟩] at *; simp_all; done)), H', ⟨by first | omega | exact Nat.le_refl _⟩, ⟨bk HB.out⟩⟩
  case rest =>
    clear HC6
    try clear c2
    try clear p2
    try clear c3
    try clear c4
    try clear p6
    try clear c7
    try clear c7b0
    obtain ⟨kq, x24_5, rfl, HA, HJ5, HB⟩ := hcut
    cases kq with
    | zero => exact absurd HA.out (by simp [weirgatelaw01_WireEncodeMatchesSpec.j0])
    | succ kj5 =>
      have H := HA.out
      clear HA
      simp only [weirgatelaw01_WireEncodeMatchesSpec.j0] at H
      by_cases c9 : x24_5 = true
      · subst c9
        have H1 : ((weirgatelaw01_sanity.f kj5).bind fun t358 => (some t358)) = some r := by rw [if_pos rfl] at H; exact H
        clear H
        have H := H1
        clear H1
        replace H := Option.bind_eq_some_iff.mp H
        obtain ⟨t358, A100, H⟩ := H
        replace H : (some t358) = some r := H
        have A10 := Aside0.mk A100
        clear A100
        obtain rfl := Option.some.inj H
        go_wp2_with (first | ((with_reducible refine gate_callee (f := 12) rfl ?_); refine goesL_ (some 25) rfl rfl Try.func12 (by kernel_rfl) rfl #[] rfl (by (try simp only [List.map_toArray, List.map_cons, List.map_nil]); first | done | rfl | (simp only [List.length_drop, List.length_take]; rfl)) ?_; (with_reducible refine (weirgatelaw01_sanity.calls kj5  t358 _ A10.out).mono ?_); rintro e w11 ⟨rfl, hb⟩; refine ⟨_, rfl, ?_⟩; have n0_ := Aside0.mk (below_step (bk HB.out) hb); clear HB; have HB := n0_; clear n0_; (try clear hb); (try clear hb2); (try clear hk); (try clear hi)))
        go_ret
        exact ⟨by first | rfl | (simp [errW_none, errW_some] <;> rfl) | (simp [*, errW_none, errW_some] <;> rfl), bk HB.out⟩
      · replace c9 := Bool.eq_false_iff.mpr c9
        subst c9
        have H1 : ((weirgatelaw01_sanity.f kj5).bind fun t359 => (if t359 = true then ((wire_Int.f kj5 a0).bind fun t360 => ((weirgateref01_Int.f kj5 a0).bind fun t363 => ((weirgateref01_Same.f t360 t363).bind fun t366 => (if t366 = true then ((wire_Bytes.f kj5 a1).bind fun t367 => ((weirgateref01_Bytes.f kj5 a1).bind fun t370 => ((weirgateref01_Same.f t367 t370).bind fun t373 => (if t373 = true then ((wire_Ints.f kj5 l2).bind fun t374 => ((weirgateref01_Ints.f kj5 l2).bind fun t377 => ((weirgateref01_Same.f t374 t377).bind fun t380 => (if t380 = true then ((wire_Strings.f kj5 l3).bind fun t381 => ((weirgateref01_Strings.f kj5 l3).bind fun t384 => ((weirgateref01_Same.f t381 t384).bind fun t387 => (if t387 = true then ((wire_Digests.f kj5 l4).bind fun t388 => ((weirgateref01_Digests.f kj5 l4).bind fun t391 => ((weirgateref01_Same.f t388 t391).bind fun t394 => (some t394)))) else (none))))) else (none))))) else (none))))) else (none))))) else (none))) = some r := by rw [if_neg (show ¬ (false = true) by decide)] at H; exact H
        clear H
        have H := H1
        clear H1
        replace H := Option.bind_eq_some_iff.mp H
        obtain ⟨t359, A120, H⟩ := H
        replace H : (if t359 = true then ((wire_Int.f kj5 a0).bind fun t360 => ((weirgateref01_Int.f kj5 a0).bind fun t363 => ((weirgateref01_Same.f t360 t363).bind fun t366 => (if t366 = true then ((wire_Bytes.f kj5 a1).bind fun t367 => ((weirgateref01_Bytes.f kj5 a1).bind fun t370 => ((weirgateref01_Same.f t367 t370).bind fun t373 => (if t373 = true then ((wire_Ints.f kj5 l2).bind fun t374 => ((weirgateref01_Ints.f kj5 l2).bind fun t377 => ((weirgateref01_Same.f t374 t377).bind fun t380 => (if t380 = true then ((wire_Strings.f kj5 l3).bind fun t381 => ((weirgateref01_Strings.f kj5 l3).bind fun t384 => ((weirgateref01_Same.f t381 t384).bind fun t387 => (if t387 = true then ((wire_Digests.f kj5 l4).bind fun t388 => ((weirgateref01_Digests.f kj5 l4).bind fun t391 => ((weirgateref01_Same.f t388 t391).bind fun t394 => (some t394)))) else (none))))) else (none))))) else (none))))) else (none))))) else (none)) = some r := H
        have A12 := Aside0.mk A120
        clear A120
        by_cases c13 : t359 = true
        · subst c13
          have H1 : ((wire_Int.f kj5 a0).bind fun t360 => ((weirgateref01_Int.f kj5 a0).bind fun t363 => ((weirgateref01_Same.f t360 t363).bind fun t366 => (if t366 = true then ((wire_Bytes.f kj5 a1).bind fun t367 => ((weirgateref01_Bytes.f kj5 a1).bind fun t370 => ((weirgateref01_Same.f t367 t370).bind fun t373 => (if t373 = true then ((wire_Ints.f kj5 l2).bind fun t374 => ((weirgateref01_Ints.f kj5 l2).bind fun t377 => ((weirgateref01_Same.f t374 t377).bind fun t380 => (if t380 = true then ((wire_Strings.f kj5 l3).bind fun t381 => ((weirgateref01_Strings.f kj5 l3).bind fun t384 => ((weirgateref01_Same.f t381 t384).bind fun t387 => (if t387 = true then ((wire_Digests.f kj5 l4).bind fun t388 => ((weirgateref01_Digests.f kj5 l4).bind fun t391 => ((weirgateref01_Same.f t388 t391).bind fun t394 => (some t394)))) else (none))))) else (none))))) else (none))))) else (none))))) = some r := by rw [if_pos rfl] at H; exact H
          clear H
          have H := H1
          clear H1
          replace H := Option.bind_eq_some_iff.mp H
          obtain ⟨t360, A140, H⟩ := H
          replace H : ((weirgateref01_Int.f kj5 a0).bind fun t363 => ((weirgateref01_Same.f t360 t363).bind fun t366 => (if t366 = true then ((wire_Bytes.f kj5 a1).bind fun t367 => ((weirgateref01_Bytes.f kj5 a1).bind fun t370 => ((weirgateref01_Same.f t367 t370).bind fun t373 => (if t373 = true then ((wire_Ints.f kj5 l2).bind fun t374 => ((weirgateref01_Ints.f kj5 l2).bind fun t377 => ((weirgateref01_Same.f t374 t377).bind fun t380 => (if t380 = true then ((wire_Strings.f kj5 l3).bind fun t381 => ((weirgateref01_Strings.f kj5 l3).bind fun t384 => ((weirgateref01_Same.f t381 t384).bind fun t387 => (if t387 = true then ((wire_Digests.f kj5 l4).bind fun t388 => ((weirgateref01_Digests.f kj5 l4).bind fun t391 => ((weirgateref01_Same.f t388 t391).bind fun t394 => (some t394)))) else (none))))) else (none))))) else (none))))) else (none)))) = some r := H
          have A14 := Aside0.mk A140
          clear A140
          replace H := Option.bind_eq_some_iff.mp H
          obtain ⟨t363, A150, H⟩ := H
          replace H : ((weirgateref01_Same.f t360 t363).bind fun t366 => (if t366 = true then ((wire_Bytes.f kj5 a1).bind fun t367 => ((weirgateref01_Bytes.f kj5 a1).bind fun t370 => ((weirgateref01_Same.f t367 t370).bind fun t373 => (if t373 = true then ((wire_Ints.f kj5 l2).bind fun t374 => ((weirgateref01_Ints.f kj5 l2).bind fun t377 => ((weirgateref01_Same.f t374 t377).bind fun t380 => (if t380 = true then ((wire_Strings.f kj5 l3).bind fun t381 => ((weirgateref01_Strings.f kj5 l3).bind fun t384 => ((weirgateref01_Same.f t381 t384).bind fun t387 => (if t387 = true then ((wire_Digests.f kj5 l4).bind fun t388 => ((weirgateref01_Digests.f kj5 l4).bind fun t391 => ((weirgateref01_Same.f t388 t391).bind fun t394 => (some t394)))) else (none))))) else (none))))) else (none))))) else (none))) = some r := H
          have A15 := Aside0.mk A150
          clear A150
          replace H := Option.bind_eq_some_iff.mp H
          obtain ⟨t366, A160, H⟩ := H
          replace H : (if t366 = true then ((wire_Bytes.f kj5 a1).bind fun t367 => ((weirgateref01_Bytes.f kj5 a1).bind fun t370 => ((weirgateref01_Same.f t367 t370).bind fun t373 => (if t373 = true then ((wire_Ints.f kj5 l2).bind fun t374 => ((weirgateref01_Ints.f kj5 l2).bind fun t377 => ((weirgateref01_Same.f t374 t377).bind fun t380 => (if t380 = true then ((wire_Strings.f kj5 l3).bind fun t381 => ((weirgateref01_Strings.f kj5 l3).bind fun t384 => ((weirgateref01_Same.f t381 t384).bind fun t387 => (if t387 = true then ((wire_Digests.f kj5 l4).bind fun t388 => ((weirgateref01_Digests.f kj5 l4).bind fun t391 => ((weirgateref01_Same.f t388 t391).bind fun t394 => (some t394)))) else (none))))) else (none))))) else (none))))) else (none)) = some r := H
          have A16 := Aside0.mk A160
          clear A160
          by_cases c17 : t366 = true
          · subst c17
            have H1 : ((wire_Bytes.f kj5 a1).bind fun t367 => ((weirgateref01_Bytes.f kj5 a1).bind fun t370 => ((weirgateref01_Same.f t367 t370).bind fun t373 => (if t373 = true then ((wire_Ints.f kj5 l2).bind fun t374 => ((weirgateref01_Ints.f kj5 l2).bind fun t377 => ((weirgateref01_Same.f t374 t377).bind fun t380 => (if t380 = true then ((wire_Strings.f kj5 l3).bind fun t381 => ((weirgateref01_Strings.f kj5 l3).bind fun t384 => ((weirgateref01_Same.f t381 t384).bind fun t387 => (if t387 = true then ((wire_Digests.f kj5 l4).bind fun t388 => ((weirgateref01_Digests.f kj5 l4).bind fun t391 => ((weirgateref01_Same.f t388 t391).bind fun t394 => (some t394)))) else (none))))) else (none))))) else (none))))) = some r := by rw [if_pos rfl] at H; exact H
            clear H
            have H := H1
            clear H1
            replace H := Option.bind_eq_some_iff.mp H
            obtain ⟨t367, A180, H⟩ := H
            replace H : ((weirgateref01_Bytes.f kj5 a1).bind fun t370 => ((weirgateref01_Same.f t367 t370).bind fun t373 => (if t373 = true then ((wire_Ints.f kj5 l2).bind fun t374 => ((weirgateref01_Ints.f kj5 l2).bind fun t377 => ((weirgateref01_Same.f t374 t377).bind fun t380 => (if t380 = true then ((wire_Strings.f kj5 l3).bind fun t381 => ((weirgateref01_Strings.f kj5 l3).bind fun t384 => ((weirgateref01_Same.f t381 t384).bind fun t387 => (if t387 = true then ((wire_Digests.f kj5 l4).bind fun t388 => ((weirgateref01_Digests.f kj5 l4).bind fun t391 => ((weirgateref01_Same.f t388 t391).bind fun t394 => (some t394)))) else (none))))) else (none))))) else (none)))) = some r := H
            have A18 := Aside0.mk A180
            clear A180
            replace H := Option.bind_eq_some_iff.mp H
            obtain ⟨t370, A190, H⟩ := H
            replace H : ((weirgateref01_Same.f t367 t370).bind fun t373 => (if t373 = true then ((wire_Ints.f kj5 l2).bind fun t374 => ((weirgateref01_Ints.f kj5 l2).bind fun t377 => ((weirgateref01_Same.f t374 t377).bind fun t380 => (if t380 = true then ((wire_Strings.f kj5 l3).bind fun t381 => ((weirgateref01_Strings.f kj5 l3).bind fun t384 => ((weirgateref01_Same.f t381 t384).bind fun t387 => (if t387 = true then ((wire_Digests.f kj5 l4).bind fun t388 => ((weirgateref01_Digests.f kj5 l4).bind fun t391 => ((weirgateref01_Same.f t388 t391).bind fun t394 => (some t394)))) else (none))))) else (none))))) else (none))) = some r := H
            have A19 := Aside0.mk A190
            clear A190
            replace H := Option.bind_eq_some_iff.mp H
            obtain ⟨t373, A200, H⟩ := H
            replace H : (if t373 = true then ((wire_Ints.f kj5 l2).bind fun t374 => ((weirgateref01_Ints.f kj5 l2).bind fun t377 => ((weirgateref01_Same.f t374 t377).bind fun t380 => (if t380 = true then ((wire_Strings.f kj5 l3).bind fun t381 => ((weirgateref01_Strings.f kj5 l3).bind fun t384 => ((weirgateref01_Same.f t381 t384).bind fun t387 => (if t387 = true then ((wire_Digests.f kj5 l4).bind fun t388 => ((weirgateref01_Digests.f kj5 l4).bind fun t391 => ((weirgateref01_Same.f t388 t391).bind fun t394 => (some t394)))) else (none))))) else (none))))) else (none)) = some r := H
            have A20 := Aside0.mk A200
            clear A200
            by_cases c21 : t373 = true
            · subst c21
              have H1 : ((wire_Ints.f kj5 l2).bind fun t374 => ((weirgateref01_Ints.f kj5 l2).bind fun t377 => ((weirgateref01_Same.f t374 t377).bind fun t380 => (if t380 = true then ((wire_Strings.f kj5 l3).bind fun t381 => ((weirgateref01_Strings.f kj5 l3).bind fun t384 => ((weirgateref01_Same.f t381 t384).bind fun t387 => (if t387 = true then ((wire_Digests.f kj5 l4).bind fun t388 => ((weirgateref01_Digests.f kj5 l4).bind fun t391 => ((weirgateref01_Same.f t388 t391).bind fun t394 => (some t394)))) else (none))))) else (none))))) = some r := by rw [if_pos rfl] at H; exact H
              clear H
              have H := H1
              clear H1
              replace H := Option.bind_eq_some_iff.mp H
              obtain ⟨t374, A220, H⟩ := H
              replace H : ((weirgateref01_Ints.f kj5 l2).bind fun t377 => ((weirgateref01_Same.f t374 t377).bind fun t380 => (if t380 = true then ((wire_Strings.f kj5 l3).bind fun t381 => ((weirgateref01_Strings.f kj5 l3).bind fun t384 => ((weirgateref01_Same.f t381 t384).bind fun t387 => (if t387 = true then ((wire_Digests.f kj5 l4).bind fun t388 => ((weirgateref01_Digests.f kj5 l4).bind fun t391 => ((weirgateref01_Same.f t388 t391).bind fun t394 => (some t394)))) else (none))))) else (none)))) = some r := H
              have A22 := Aside0.mk A220
              clear A220
              replace H := Option.bind_eq_some_iff.mp H
              obtain ⟨t377, A230, H⟩ := H
              replace H : ((weirgateref01_Same.f t374 t377).bind fun t380 => (if t380 = true then ((wire_Strings.f kj5 l3).bind fun t381 => ((weirgateref01_Strings.f kj5 l3).bind fun t384 => ((weirgateref01_Same.f t381 t384).bind fun t387 => (if t387 = true then ((wire_Digests.f kj5 l4).bind fun t388 => ((weirgateref01_Digests.f kj5 l4).bind fun t391 => ((weirgateref01_Same.f t388 t391).bind fun t394 => (some t394)))) else (none))))) else (none))) = some r := H
              have A23 := Aside0.mk A230
              clear A230
              replace H := Option.bind_eq_some_iff.mp H
              obtain ⟨t380, A240, H⟩ := H
              replace H : (if t380 = true then ((wire_Strings.f kj5 l3).bind fun t381 => ((weirgateref01_Strings.f kj5 l3).bind fun t384 => ((weirgateref01_Same.f t381 t384).bind fun t387 => (if t387 = true then ((wire_Digests.f kj5 l4).bind fun t388 => ((weirgateref01_Digests.f kj5 l4).bind fun t391 => ((weirgateref01_Same.f t388 t391).bind fun t394 => (some t394)))) else (none))))) else (none)) = some r := H
              have A24 := Aside0.mk A240
              clear A240
              by_cases c25 : t380 = true
              · subst c25
                have H1 : ((wire_Strings.f kj5 l3).bind fun t381 => ((weirgateref01_Strings.f kj5 l3).bind fun t384 => ((weirgateref01_Same.f t381 t384).bind fun t387 => (if t387 = true then ((wire_Digests.f kj5 l4).bind fun t388 => ((weirgateref01_Digests.f kj5 l4).bind fun t391 => ((weirgateref01_Same.f t388 t391).bind fun t394 => (some t394)))) else (none))))) = some r := by rw [if_pos rfl] at H; exact H
                clear H
                have H := H1
                clear H1
                replace H := Option.bind_eq_some_iff.mp H
                obtain ⟨t381, A260, H⟩ := H
                replace H : ((weirgateref01_Strings.f kj5 l3).bind fun t384 => ((weirgateref01_Same.f t381 t384).bind fun t387 => (if t387 = true then ((wire_Digests.f kj5 l4).bind fun t388 => ((weirgateref01_Digests.f kj5 l4).bind fun t391 => ((weirgateref01_Same.f t388 t391).bind fun t394 => (some t394)))) else (none)))) = some r := H
                have A26 := Aside0.mk A260
                clear A260
                replace H := Option.bind_eq_some_iff.mp H
                obtain ⟨t384, A270, H⟩ := H
                replace H : ((weirgateref01_Same.f t381 t384).bind fun t387 => (if t387 = true then ((wire_Digests.f kj5 l4).bind fun t388 => ((weirgateref01_Digests.f kj5 l4).bind fun t391 => ((weirgateref01_Same.f t388 t391).bind fun t394 => (some t394)))) else (none))) = some r := H
                have A27 := Aside0.mk A270
                clear A270
                replace H := Option.bind_eq_some_iff.mp H
                obtain ⟨t387, A280, H⟩ := H
                replace H : (if t387 = true then ((wire_Digests.f kj5 l4).bind fun t388 => ((weirgateref01_Digests.f kj5 l4).bind fun t391 => ((weirgateref01_Same.f t388 t391).bind fun t394 => (some t394)))) else (none)) = some r := H
                have A28 := Aside0.mk A280
                clear A280
                by_cases c29 : t387 = true
                · subst c29
                  have H1 : ((wire_Digests.f kj5 l4).bind fun t388 => ((weirgateref01_Digests.f kj5 l4).bind fun t391 => ((weirgateref01_Same.f t388 t391).bind fun t394 => (some t394)))) = some r := by rw [if_pos rfl] at H; exact H
                  clear H
                  have H := H1
                  clear H1
                  replace H := Option.bind_eq_some_iff.mp H
                  obtain ⟨t388, A300, H⟩ := H
                  replace H : ((weirgateref01_Digests.f kj5 l4).bind fun t391 => ((weirgateref01_Same.f t388 t391).bind fun t394 => (some t394))) = some r := H
                  have A30 := Aside0.mk A300
                  clear A300
                  replace H := Option.bind_eq_some_iff.mp H
                  obtain ⟨t391, A310, H⟩ := H
                  replace H : ((weirgateref01_Same.f t388 t391).bind fun t394 => (some t394)) = some r := H
                  have A31 := Aside0.mk A310
                  clear A310
                  replace H := Option.bind_eq_some_iff.mp H
                  obtain ⟨t394, A320, H⟩ := H
                  replace H : (some t394) = some r := H
                  have A32 := Aside0.mk A320
                  clear A320
                  obtain rfl := Option.some.inj H
                  go_wp2_with (first | ((with_reducible refine gate_callee (f := 12) rfl ?_); refine goesL_ (some 26) rfl rfl Try.func12 (by kernel_rfl) rfl #[] rfl (by (try simp only [List.map_toArray, List.map_cons, List.map_nil]); first | done | rfl | (simp only [List.length_drop, List.length_take]; rfl)) ?_; (with_reducible refine (weirgatelaw01_sanity.calls kj5  true _ A12.out).mono ?_); rintro e w33 ⟨rfl, hb⟩; refine ⟨_, rfl, ?_⟩; have n0_ := Aside0.mk (below_step (bk HB.out) hb); clear HB; have HB := n0_; clear n0_; (try clear hb); (try clear hb2); (try clear hk); (try clear hi)) | (go_at_call 14; (with_reducible refine (wire_Int.calls kj5 a0 t360 _ A14.out).mono ?_); rintro e w34 ⟨v361, rfl, ho0, hb⟩; have n0_ := Aside0.mk (Kd.R_lower ho0 (below_size (bk HB.out))); have n1_ := Aside0.mk (below_step (bk HB.out) hb); clear HB; have HO362 := n0_; have HB := n1_; clear n0_ n1_; (try clear hb); (try clear hb2); (try clear hk); (try clear hi); (try clear ho0)) | (go_at_call 15; (with_reducible refine (weirgateref01_Int.calls kj5 a0 t363 _ A15.out).mono ?_); rintro e w35 ⟨v364, rfl, ho0, hb⟩; have n0_ := Aside0.mk (Kd.R_elder' (rk HO362.out) (Kd.R_base ho0) hb); have n1_ := Aside0.mk (Kd.R_lower (Kd.R_new' ho0 (Kd.R_lt (rk HO362.out))) (below_size (bk HB.out))); have n2_ := Aside0.mk (below_step (bk HB.out) hb); clear HO362 HB; have HO362 := n0_; have HO365 := n1_; have HB := n2_; clear n0_ n1_ n2_; (try clear hb); (try clear hb2); (try clear hk); (try clear hi); (try clear ho0); obtain ⟨Ao36, co36, eo36⟩ := Kd.R_slice HO362.out; subst eo36; obtain ⟨Ao37, co37, eo37⟩ := Kd.R_slice HO365.out; subst eo37) | (go_at_call 13; (with_reducible refine (weirgateref01_Same.calls _ _ t360 _ _ t363 true _ ?side1 ?side2 ?side3 ?side4 A16.out).mono ?_); (case side1 => repeat (first | exact (Kd.R_reads' HO362.out).2.2 | (with_reducible refine Kd.C_alloc ?_ _) | (with_reducible refine Kd.C_drewN ?_ _) | (with_reducible refine Kd.C_drew ?_))); (case side2 => exact (Kd.R_reads' HO362.out).2.1); (case side3 => repeat (first | exact (Kd.R_reads' HO365.out).2.2 | (with_reducible refine Kd.C_alloc ?_ _) | (with_reducible refine Kd.C_drewN ?_ _) | (with_reducible refine Kd.C_drew ?_))); (case side4 => exact (Kd.R_reads' HO365.out).2.1); rintro e w' ⟨rfl, ⟨nd, rfl⟩⟩) | (go_at_call 16; (with_reducible refine (wire_Bytes.calls kj5 a1 t367 _ A18.out).mono ?_); rintro e w38 ⟨v368, rfl, ho0, hb⟩; have n0_ := Aside0.mk (Kd.R_elder' (rk HO362.out) (Kd.R_base ho0) hb); have n1_ := Aside0.mk (Kd.R_elder' (rk HO365.out) (Kd.R_base ho0) hb); have n2_ := Aside0.mk (Kd.R_lower (Kd.R_new' (Kd.R_new' ho0 (Kd.R_lt (rk HO362.out))) (Kd.R_lt (rk HO365.out))) (below_size (bk HB.out))); have n3_ := Aside0.mk (below_step (bk HB.out) hb); clear HO362 HO365 HB; have HO362 := n0_; have HO365 := n1_; have HO369 := n2_; have HB := n3_; clear n0_ n1_ n2_ n3_; (try clear hb); (try clear hb2); (try clear hk); (try clear hi); (try clear ho0)) | (go_at_call 17; (with_reducible refine (weirgateref01_Bytes.calls kj5 a1 t370 _ A19.out).mono ?_); rintro e w39 ⟨v371, rfl, ho0, hb⟩; have n0_ := Aside0.mk (Kd.R_elder' (rk HO362.out) (Kd.R_base ho0) hb); have n1_ := Aside0.mk (Kd.R_elder' (rk HO365.out) (Kd.R_base ho0) hb); have n2_ := Aside0.mk (Kd.R_elder' (rk HO369.out) (Kd.R_base ho0) hb); have n3_ := Aside0.mk (Kd.R_lower (Kd.R_new' (Kd.R_new' (Kd.R_new' ho0 (Kd.R_lt (rk HO362.out))) (Kd.R_lt (rk HO365.out))) (Kd.R_lt (rk HO369.out))) (below_size (bk HB.out))); have n4_ := Aside0.mk (below_step (bk HB.out) hb); clear HO362 HO365; clear HO369 HB; have HO362 := n0_; have HO365 := n1_; have HO369 := n2_; have HO372 := n3_; have HB := n4_; clear n0_ n1_ n2_ n3_ n4_; (try clear hb); (try clear hb2); (try clear hk); (try clear hi); (try clear ho0); obtain ⟨Ao40, co40, eo40⟩ := Kd.R_slice HO369.out; subst eo40; obtain ⟨Ao41, co41, eo41⟩ := Kd.R_slice HO372.out; subst eo41) | (go_at_call 13; (with_reducible refine (weirgateref01_Same.calls _ _ t367 _ _ t370 true _ ?side1 ?side2 ?side3 ?side4 A20.out).mono ?_); (case side1 => repeat (first | exact (Kd.R_reads' HO369.out).2.2 | (with_reducible refine Kd.C_alloc ?_ _) | (with_reducible refine Kd.C_drewN ?_ _) | (with_reducible refine Kd.C_drew ?_))); (case side2 => exact (Kd.R_reads' HO369.out).2.1); (case side3 => repeat (first | exact (Kd.R_reads' HO372.out).2.2 | (with_reducible refine Kd.C_alloc ?_ _) | (with_reducible refine Kd.C_drewN ?_ _) | (with_reducible refine Kd.C_drew ?_))); (case side4 => exact (Kd.R_reads' HO372.out).2.1); rintro e w' ⟨rfl, ⟨nd, rfl⟩⟩) | (go_at_call 18; (with_reducible refine (wire_Ints.calls kj5 _ _ l2 t374 _ ?side1 ?side2 A22.out).mono ?_); (case side1 => repeat (first | exact (Kd.C_below HR2.out (bk HB.out)) | (with_reducible refine Kd.C_alloc ?_ _) | (with_reducible refine Kd.C_drewN ?_ _) | (with_reducible refine Kd.C_drew ?_))); (case side2 => exact HC2.out); rintro e w42 ⟨v375, rfl, ho0, hb⟩; have n0_ := Aside0.mk (Kd.R_elder' (rk HO362.out) (Kd.R_base ho0) hb); have n1_ := Aside0.mk (Kd.R_elder' (rk HO365.out) (Kd.R_base ho0) hb); have n2_ := Aside0.mk (Kd.R_elder' (rk HO369.out) (Kd.R_base ho0) hb); have n3_ := Aside0.mk (Kd.R_elder' (rk HO372.out) (Kd.R_base ho0) hb); have n4_ := Aside0.mk (Kd.R_lower (Kd.R_new' (Kd.R_new' (Kd.R_new' (Kd.R_new' ho0 (Kd.R_lt (rk HO362.out))) (Kd.R_lt (rk HO365.out))) (Kd.R_lt (rk HO369.out))) (Kd.R_lt (rk HO372.out))) (below_size (bk HB.out))); have n5_ := Aside0.mk (below_step (bk HB.out) hb); clear HO362 HO365; clear HO369 HO372 HB; have HO362 := n0_; have HO365 := n1_; have HO369 := n2_; have HO372 := n3_; have HO376 := n4_; have HB := n5_; clear n0_ n1_ n2_ n3_ n4_ n5_; (try clear hb); (try clear hb2); (try clear hk); (try clear hi); (try clear ho0)) | (go_at_call 19; (with_reducible refine (weirgateref01_Ints.calls kj5 _ _ l2 t377 _ ?side1 ?side2 A23.out).mono ?_); (case side1 => repeat (first | exact (Kd.C_below HR2.out HB.out) | exact HR2.out | (with_reducible refine Kd.C_alloc ?_ _) | (with_reducible refine Kd.C_drewN ?_ _) | (with_reducible refine Kd.C_drew ?_))); (case side2 => exact HC2.out); rintro e w43 ⟨v378, rfl, ho0, hb⟩; have n0_ := Aside0.mk (Kd.R_elder' (rk HO362.out) (Kd.R_base ho0) hb); have n1_ := Aside0.mk (Kd.R_elder' (rk HO365.out) (Kd.R_base ho0) hb); have n2_ := Aside0.mk (Kd.R_elder' (rk HO369.out) (Kd.R_base ho0) hb); have n3_ := Aside0.mk (Kd.R_elder' (rk HO372.out) (Kd.R_base ho0) hb); have n4_ := Aside0.mk (Kd.R_elder' (rk HO376.out) (Kd.R_base ho0) hb); have n5_ := Aside0.mk (Kd.R_lower (Kd.R_new' (Kd.R_new' (Kd.R_new' (Kd.R_new' (Kd.R_new' ho0 (Kd.R_lt (rk HO362.out))) (Kd.R_lt (rk HO365.out))) (Kd.R_lt (rk HO369.out))) (Kd.R_lt (rk HO372.out))) (Kd.R_lt (rk HO376.out))) (below_size (bk HB.out))); have n6_ := Aside0.mk (below_step (bk HB.out) hb); clear HO362 HO365; clear HO369 HO372; clear HO376 HB; have HO362 := n0_; have HO365 := n1_; have HO369 := n2_; have HO372 := n3_; have HO376 := n4_; have HO379 := n5_; have HB := n6_; clear n0_ n1_ n2_ n3_ n4_ n5_ n6_; (try clear hb); (try clear hb2); (try clear hk); (try clear hi); (try clear ho0); obtain ⟨Ao44, co44, eo44⟩ := Kd.R_slice HO376.out; subst eo44; obtain ⟨Ao45, co45, eo45⟩ := Kd.R_slice HO379.out; subst eo45) | (go_at_call 13; (with_reducible refine (weirgateref01_Same.calls _ _ t374 _ _ t377 true _ ?side1 ?side2 ?side3 ?side4 A24.out).mono ?_); (case side1 => repeat (first | exact (Kd.R_reads' HO376.out).2.2 | (with_reducible refine Kd.C_alloc ?_ _) | (with_reducible refine Kd.C_drewN ?_ _) | (with_reducible refine Kd.C_drew ?_))); (case side2 => exact (Kd.R_reads' HO376.out).2.1); (case side3 => repeat (first | exact (Kd.R_reads' HO379.out).2.2 | (with_reducible refine Kd.C_alloc ?_ _) | (with_reducible refine Kd.C_drewN ?_ _) | (with_reducible refine Kd.C_drew ?_))); (case side4 => exact (Kd.R_reads' HO379.out).2.1); rintro e w' ⟨rfl, ⟨nd, rfl⟩⟩) | (go_at_call 20; (with_reducible refine (wire_Strings.calls kj5 _ _ l3 t381 _ ?side1 ?side2 A26.out).mono ?_); (case side1 => repeat (first | exact (Kd.C_below HR3.out (bk HB.out)) | (with_reducible refine Kd.C_alloc ?_ _) | (with_reducible refine Kd.C_drewN ?_ _) | (with_reducible refine Kd.C_drew ?_))); (case side2 => exact HC3.out); rintro e w46 ⟨v382, rfl, ho0, hb⟩; have n0_ := Aside0.mk (Kd.R_elder' (rk HO362.out) (Kd.R_base ho0) hb); have n1_ := Aside0.mk (Kd.R_elder' (rk HO365.out) (Kd.R_base ho0) hb); have n2_ := Aside0.mk (Kd.R_elder' (rk HO369.out) (Kd.R_base ho0) hb); have n3_ := Aside0.mk (Kd.R_elder' (rk HO372.out) (Kd.R_base ho0) hb); have n4_ := Aside0.mk (Kd.R_elder' (rk HO376.out) (Kd.R_base ho0) hb); have n5_ := Aside0.mk (Kd.R_elder' (rk HO379.out) (Kd.R_base ho0) hb); have n6_ := Aside0.mk (Kd.R_lower (Kd.R_new' (Kd.R_new' (Kd.R_new' (Kd.R_new' (Kd.R_new' (Kd.R_new' ho0 (Kd.R_lt (rk HO362.out))) (Kd.R_lt (rk HO365.out))) (Kd.R_lt (rk HO369.out))) (Kd.R_lt (rk HO372.out))) (Kd.R_lt (rk HO376.out))) (Kd.R_lt (rk HO379.out))) (below_size (bk HB.out))); have n7_ := Aside0.mk (below_step (bk HB.out) hb); clear HO362 HO365; clear HO369 HO372; clear HO376 HO379 HB; have HO362 := n0_; have HO365 := n1_; have HO369 := n2_; have HO372 := n3_; have HO376 := n4_; have HO379 := n5_; have HO383 := n6_; have HB := n7_; clear n0_ n1_ n2_ n3_ n4_ n5_ n6_ n7_; (try clear hb); (try clear hb2); (try clear hk); (try clear hi); (try clear ho0)) | (go_at_call 21; (with_reducible refine (weirgateref01_Strings.calls kj5 _ _ l3 t384 _ ?side1 ?side2 A27.out).mono ?_); (case side1 => repeat (first | exact (Kd.C_below HR3.out HB.out) | exact HR3.out | (with_reducible refine Kd.C_alloc ?_ _) | (with_reducible refine Kd.C_drewN ?_ _) | (with_reducible refine Kd.C_drew ?_))); (case side2 => exact HC3.out); rintro e w47 ⟨v385, rfl, ho0, hb⟩; have n0_ := Aside0.mk (Kd.R_elder' (rk HO362.out) (Kd.R_base ho0) hb); have n1_ := Aside0.mk (Kd.R_elder' (rk HO365.out) (Kd.R_base ho0) hb); have n2_ := Aside0.mk (Kd.R_elder' (rk HO369.out) (Kd.R_base ho0) hb); have n3_ := Aside0.mk (Kd.R_elder' (rk HO372.out) (Kd.R_base ho0) hb); have n4_ := Aside0.mk (Kd.R_elder' (rk HO376.out) (Kd.R_base ho0) hb); have n5_ := Aside0.mk (Kd.R_elder' (rk HO379.out) (Kd.R_base ho0) hb); have n6_ := Aside0.mk (Kd.R_elder' (rk HO383.out) (Kd.R_base ho0) hb); have n7_ := Aside0.mk (Kd.R_lower (Kd.R_new' (Kd.R_new' (Kd.R_new' (Kd.R_new' (Kd.R_new' (Kd.R_new' (Kd.R_new' ho0 (Kd.R_lt (rk HO362.out))) (Kd.R_lt (rk HO365.out))) (Kd.R_lt (rk HO369.out))) (Kd.R_lt (rk HO372.out))) (Kd.R_lt (rk HO376.out))) (Kd.R_lt (rk HO379.out))) (Kd.R_lt (rk HO383.out))) (below_size (bk HB.out))); have n8_ := Aside0.mk (below_step (bk HB.out) hb); clear HO362 HO365; clear HO369 HO372; clear HO376 HO379; clear HO383 HB; have HO362 := n0_; have HO365 := n1_; have HO369 := n2_; have HO372 := n3_; have HO376 := n4_; have HO379 := n5_; have HO383 := n6_; have HO386 := n7_; have HB := n8_; clear n0_ n1_ n2_ n3_ n4_ n5_ n6_ n7_ n8_; (try clear hb); (try clear hb2); (try clear hk); (try clear hi); (try clear ho0); obtain ⟨Ao48, co48, eo48⟩ := Kd.R_slice HO383.out; subst eo48; obtain ⟨Ao49, co49, eo49⟩ := Kd.R_slice HO386.out; subst eo49) | (go_at_call 13; (with_reducible refine (weirgateref01_Same.calls _ _ t381 _ _ t384 true _ ?side1 ?side2 ?side3 ?side4 A28.out).mono ?_); (case side1 => repeat (first | exact (Kd.R_reads' HO383.out).2.2 | (with_reducible refine Kd.C_alloc ?_ _) | (with_reducible refine Kd.C_drewN ?_ _) | (with_reducible refine Kd.C_drew ?_))); (case side2 => exact (Kd.R_reads' HO383.out).2.1); (case side3 => repeat (first | exact (Kd.R_reads' HO386.out).2.2 | (with_reducible refine Kd.C_alloc ?_ _) | (with_reducible refine Kd.C_drewN ?_ _) | (with_reducible refine Kd.C_drew ?_))); (case side4 => exact (Kd.R_reads' HO386.out).2.1); rintro e w' ⟨rfl, ⟨nd, rfl⟩⟩) | (go_at_call 22; (with_reducible refine (wire_Digests.calls kj5 _ _ l4 t388 _ ?side1 ?side2 A30.out).mono ?_); (case side1 => repeat (first | exact (Kd.C_below HR4.out (bk HB.out)) | (with_reducible refine Kd.C_alloc ?_ _) | (with_reducible refine Kd.C_drewN ?_ _) | (with_reducible refine Kd.C_drew ?_))); (case side2 => exact HC4.out); rintro e w50 ⟨v389, rfl, ho0, hb⟩; have n0_ := Aside0.mk (Kd.R_elder' (rk HO362.out) (Kd.R_base ho0) hb); have n1_ := Aside0.mk (Kd.R_elder' (rk HO365.out) (Kd.R_base ho0) hb); have n2_ := Aside0.mk (Kd.R_elder' (rk HO369.out) (Kd.R_base ho0) hb); have n3_ := Aside0.mk (Kd.R_elder' (rk HO372.out) (Kd.R_base ho0) hb); have n4_ := Aside0.mk (Kd.R_elder' (rk HO376.out) (Kd.R_base ho0) hb); have n5_ := Aside0.mk (Kd.R_elder' (rk HO379.out) (Kd.R_base ho0) hb); have n6_ := Aside0.mk (Kd.R_elder' (rk HO383.out) (Kd.R_base ho0) hb); have n7_ := Aside0.mk (Kd.R_elder' (rk HO386.out) (Kd.R_base ho0) hb); have n8_ := Aside0.mk (Kd.R_lower (Kd.R_new' (Kd.R_new' (Kd.R_new' (Kd.R_new' (Kd.R_new' (Kd.R_new' (Kd.R_new' (Kd.R_new' ho0 (Kd.R_lt (rk HO362.out))) (Kd.R_lt (rk HO365.out))) (Kd.R_lt (rk HO369.out))) (Kd.R_lt (rk HO372.out))) (Kd.R_lt (rk HO376.out))) (Kd.R_lt (rk HO379.out))) (Kd.R_lt (rk HO383.out))) (Kd.R_lt (rk HO386.out))) (below_size (bk HB.out))); have n9_ := Aside0.mk (below_step (bk HB.out) hb); clear HO362 HO365; clear HO369 HO372; clear HO376 HO379; clear HO383 HO386 HB; have HO362 := n0_; have HO365 := n1_; have HO369 := n2_; have HO372 := n3_; have HO376 := n4_; have HO379 := n5_; have HO383 := n6_; have HO386 := n7_; have HO390 := n8_; have HB := n9_; clear n0_ n1_ n2_ n3_ n4_ n5_ n6_ n7_ n8_ n9_; (try clear hb); (try clear hb2); (try clear hk); (try clear hi); (try clear ho0)) | (go_at_call 23; (with_reducible refine (weirgateref01_Digests.calls kj5 _ _ l4 t391 _ ?side1 ?side2 A31.out).mono ?_); (case side1 => repeat (first | exact (Kd.C_below HR4.out HB.out) | exact HR4.out | (with_reducible refine Kd.C_alloc ?_ _) | (with_reducible refine Kd.C_drewN ?_ _) | (with_reducible refine Kd.C_drew ?_))); (case side2 => exact HC4.out); rintro e w51 ⟨v392, rfl, ho0, hb⟩; have n0_ := Aside0.mk (Kd.R_elder' (rk HO362.out) (Kd.R_base ho0) hb); have n1_ := Aside0.mk (Kd.R_elder' (rk HO365.out) (Kd.R_base ho0) hb); have n2_ := Aside0.mk (Kd.R_elder' (rk HO369.out) (Kd.R_base ho0) hb); have n3_ := Aside0.mk (Kd.R_elder' (rk HO372.out) (Kd.R_base ho0) hb); have n4_ := Aside0.mk (Kd.R_elder' (rk HO376.out) (Kd.R_base ho0) hb); have n5_ := Aside0.mk (Kd.R_elder' (rk HO379.out) (Kd.R_base ho0) hb); have n6_ := Aside0.mk (Kd.R_elder' (rk HO383.out) (Kd.R_base ho0) hb); have n7_ := Aside0.mk (Kd.R_elder' (rk HO386.out) (Kd.R_base ho0) hb); have n8_ := Aside0.mk (Kd.R_elder' (rk HO390.out) (Kd.R_base ho0) hb); have n9_ := Aside0.mk (Kd.R_lower (Kd.R_new' (Kd.R_new' (Kd.R_new' (Kd.R_new' (Kd.R_new' (Kd.R_new' (Kd.R_new' (Kd.R_new' (Kd.R_new' ho0 (Kd.R_lt (rk HO362.out))) (Kd.R_lt (rk HO365.out))) (Kd.R_lt (rk HO369.out))) (Kd.R_lt (rk HO372.out))) (Kd.R_lt (rk HO376.out))) (Kd.R_lt (rk HO379.out))) (Kd.R_lt (rk HO383.out))) (Kd.R_lt (rk HO386.out))) (Kd.R_lt (rk HO390.out))) (below_size (bk HB.out))); have n10_ := Aside0.mk (below_step (bk HB.out) hb); clear HO362 HO365; clear HO369 HO372; clear HO376 HO379; clear HO383 HO386; clear HO390 HB; have HO362 := n0_; have HO365 := n1_; have HO369 := n2_; have HO372 := n3_; have HO376 := n4_; have HO379 := n5_; have HO383 := n6_; have HO386 := n7_; have HO390 := n8_; have HO393 := n9_; have HB := n10_; clear n0_ n1_ n2_ n3_ n4_ n5_ n6_ n7_ n8_ n9_ n10_; (try clear hb); (try clear hb2); (try clear hk); (try clear hi); (try clear ho0); obtain ⟨Ao52, co52, eo52⟩ := Kd.R_slice HO390.out; subst eo52; obtain ⟨Ao53, co53, eo53⟩ := Kd.R_slice HO393.out; subst eo53) | (go_at_call 13; (with_reducible refine (weirgateref01_Same.calls _ _ t388 _ _ t391 t394 _ ?side1 ?side2 ?side3 ?side4 A32.out).mono ?_); (case side1 => repeat (first | exact (Kd.R_reads' HO390.out).2.2 | (with_reducible refine Kd.C_alloc ?_ _) | (with_reducible refine Kd.C_drewN ?_ _) | (with_reducible refine Kd.C_drew ?_))); (case side2 => exact (Kd.R_reads' HO390.out).2.1); (case side3 => repeat (first | exact (Kd.R_reads' HO393.out).2.2 | (with_reducible refine Kd.C_alloc ?_ _) | (with_reducible refine Kd.C_drewN ?_ _) | (with_reducible refine Kd.C_drew ?_))); (case side4 => exact (Kd.R_reads' HO393.out).2.1); rintro e w' ⟨rfl, ⟨nd, rfl⟩⟩))
                  go_ret
                  exact ⟨by first | rfl | (simp [errW_none, errW_some] <;> rfl) | (simp [*, errW_none, errW_some] <;> rfl), bk HB.out⟩
                · replace c29 := Bool.eq_false_iff.mpr c29
                  subst c29
                  have H1 : (none) = some r := by rw [if_neg (show ¬ (false = true) by decide)] at H; exact H
                  clear H
                  have H := H1
                  clear H1
                  exact absurd H (by simp)
              · replace c25 := Bool.eq_false_iff.mpr c25
                subst c25
                have H1 : (none) = some r := by rw [if_neg (show ¬ (false = true) by decide)] at H; exact H
                clear H
                have H := H1
                clear H1
                exact absurd H (by simp)
            · replace c21 := Bool.eq_false_iff.mpr c21
              subst c21
              have H1 : (none) = some r := by rw [if_neg (show ¬ (false = true) by decide)] at H; exact H
              clear H
              have H := H1
              clear H1
              exact absurd H (by simp)
          · replace c17 := Bool.eq_false_iff.mpr c17
            subst c17
            have H1 : (none) = some r := by rw [if_neg (show ¬ (false = true) by decide)] at H; exact H
            clear H
            have H := H1
            clear H1
            exact absurd H (by simp)
        · replace c13 := Bool.eq_false_iff.mpr c13
          subst c13
          have H1 : (none) = some r := by rw [if_neg (show ¬ (false = true) by decide)] at H; exact H
          clear H
          have H := H1
          clear H1
          exact absurd H (by simp)

end Go.Proofs.Ytekbhcciabgnhaa.PP
