-- laid by a program of this session (wip/xprint), out of the translation
import Derived.Test.YtekbhcciabgnhaaPP0
import Derived.Test.YtekbhcciabgnhaaPP3
import Derived.Test.YtekbhcciabgnhaaPP4
import Derived.Test.YtekbhcciabgnhaaPP5
import Derived.Test.YtekbhcciabgnhaaPP6
import Derived.Test.YtekbhcciabgnhaaPP9
import Derived.Test.YtekbhcciabgnhaaPP10
import Derived.Test.YtekbhcciabgnhaaGRefGetDigests
import Derived.Test.YtekbhcciabgnhaaGSame
namespace Go.Proofs.Ytekbhcciabgnhaa.PP
open Go.RowKit Go.Proofs.YtekbhcciabgnhaaW.PrintWords Go.Proofs.YtekbhcciabgnhaaW.PrintLast Go.Proofs.YtekbhcciabgnhaaW.PrintMore
attribute [local go_sem] max2_int min2_int max_two min_two max_three min_three max_four min_four   -- for this text's walks alone
set_option linter.unusedVariables false
set_option linter.unusedSimpArgs false

attribute [local go_sem] isSome_put
/-! ### weirgatelaw01_WireDecodeMatchesSpec: function 4 -/
mutual
def weirgatelaw01_WireDecodeMatchesSpec.j0 : Nat → List Int → Bool → Option (Bool)
  | 0, _, _ => none
  | k + 1, x0, x61 => if x61 = true then (none) else ((wire_GetBytes.f k x0).bind fun bt434 => ((weirgateref01_GetBytes.f k x0).bind fun bt437 => (if bt434.1.toList = bt437.1.toList then (if bt434.2.1 = bt437.2.1 then (weirgatelaw01_WireDecodeMatchesSpec.j1 k x0 (bt434.2.2 != bt437.2.2)) else (weirgatelaw01_WireDecodeMatchesSpec.j1 k x0 true)) else (weirgatelaw01_WireDecodeMatchesSpec.j1 k x0 true))))
def weirgatelaw01_WireDecodeMatchesSpec.j1 : Nat → List Int → Bool → Option (Bool)
  | 0, _, _ => none
  | k + 1, x0, x86 => if x86 = true then (none) else ((wire_GetInts.f k x0).bind fun bt440 => ((weirgateref01_GetInts.f k x0).bind fun bt445 => ((weirgateref01_SameInts.f k bt440.1 bt445.1).bind fun t450 => (if t450 = true then (if bt440.2.1 = bt445.2.1 then (weirgatelaw01_WireDecodeMatchesSpec.j2 k x0 (bt440.2.2 != bt445.2.2)) else (weirgatelaw01_WireDecodeMatchesSpec.j2 k x0 true)) else (weirgatelaw01_WireDecodeMatchesSpec.j2 k x0 true)))))
def weirgatelaw01_WireDecodeMatchesSpec.j2 : Nat → List Int → Bool → Option (Bool)
  | 0, _, _ => none
  | k + 1, x0, x112 => if x112 = true then (none) else ((wire_GetStrings.f k x0).bind fun bt451 => ((weirgateref01_GetStrings.f k x0).bind fun bt456 => ((weirgateref01_SameTexts.f k bt451.1 bt456.1).bind fun t461 => (if t461 = true then (if bt451.2.1 = bt456.2.1 then (weirgatelaw01_WireDecodeMatchesSpec.j3 k x0 (bt451.2.2 != bt456.2.2)) else (weirgatelaw01_WireDecodeMatchesSpec.j3 k x0 true)) else (weirgatelaw01_WireDecodeMatchesSpec.j3 k x0 true)))))
def weirgatelaw01_WireDecodeMatchesSpec.j3 : Nat → List Int → Bool → Option (Bool)
  | 0, _, _ => none
  | k + 1, x0, x138 => if x138 = true then (none) else ((wire_GetDigests.f k x0).bind fun bt462 => ((weirgateref01_GetDigests.f k x0).bind fun bt467 => ((weirgatelaw01_sanity.f k).bind fun t472 => (if t472 = true then ((weirgateref01_SameDigests.f bt462.1 bt467.1).bind fun t473 => (if t473 = true then (if bt462.2.1 = bt467.2.1 then (some (bt462.2.2 == bt467.2.2)) else (none)) else (none))) else (none)))))
end
def weirgatelaw01_WireDecodeMatchesSpec.f (k : Nat) (l0 : List Int) : Option (Bool) := if (l0.length : Int) > 2000 then ((weirgatelaw01_sanity.f k).bind fun t427 => (some t427)) else ((wire_GetInt.f k l0).bind fun bt428 => ((weirgateref01_GetInt.f k l0).bind fun bt431 => (if bt428.1 = bt431.1 then (if bt428.2.1 = bt431.2.1 then (weirgatelaw01_WireDecodeMatchesSpec.j0 k l0 (bt428.2.2 != bt431.2.2)) else (weirgatelaw01_WireDecodeMatchesSpec.j0 k l0 true)) else (weirgatelaw01_WireDecodeMatchesSpec.j0 k l0 true))))
theorem weirgatelaw01_WireDecodeMatchesSpec.mono_l : ∀ k, (∀ y0 y1, LeO (weirgatelaw01_WireDecodeMatchesSpec.j0 k y0 y1) (weirgatelaw01_WireDecodeMatchesSpec.j0 (k + 1) y0 y1)) ∧ (∀ y0 y1, LeO (weirgatelaw01_WireDecodeMatchesSpec.j1 k y0 y1) (weirgatelaw01_WireDecodeMatchesSpec.j1 (k + 1) y0 y1)) ∧ (∀ y0 y1, LeO (weirgatelaw01_WireDecodeMatchesSpec.j2 k y0 y1) (weirgatelaw01_WireDecodeMatchesSpec.j2 (k + 1) y0 y1)) ∧ (∀ y0 y1, LeO (weirgatelaw01_WireDecodeMatchesSpec.j3 k y0 y1) (weirgatelaw01_WireDecodeMatchesSpec.j3 (k + 1) y0 y1))
  | 0 => ⟨fun _ _ r h => by simp [weirgatelaw01_WireDecodeMatchesSpec.j0] at h, fun _ _ r h => by simp [weirgatelaw01_WireDecodeMatchesSpec.j1] at h, fun _ _ r h => by simp [weirgatelaw01_WireDecodeMatchesSpec.j2] at h, fun _ _ r h => by simp [weirgatelaw01_WireDecodeMatchesSpec.j3] at h⟩
  | k + 1 => by
    obtain ⟨ih0, ih1, ih2, ih3⟩ := weirgatelaw01_WireDecodeMatchesSpec.mono_l k
    refine ⟨?_, ?_, ?_, ?_⟩
    · intro y0 y1
      unfold weirgatelaw01_WireDecodeMatchesSpec.j0
      repeat' first
      | (with_reducible exact ih0 _ _)
      | (with_reducible exact ih1 _ _)
      | (with_reducible exact ih2 _ _)
      | (with_reducible exact ih3 _ _)
      | (with_reducible exact weirgatelaw01_sanity.mono _)
      | (with_reducible exact weirgateref01_GetBytes.mono _ _)
      | (with_reducible exact weirgateref01_GetDigests.mono _ _)
      | (with_reducible exact weirgateref01_GetInt.mono _ _)
      | (with_reducible exact weirgateref01_GetInts.mono _ _)
      | (with_reducible exact weirgateref01_GetStrings.mono _ _)
      | (with_reducible exact weirgateref01_SameInts.mono _ _ _)
      | (with_reducible exact weirgateref01_SameTexts.mono _ _ _)
      | (with_reducible exact wire_GetBytes.mono _ _)
      | (with_reducible exact wire_GetDigests.mono _ _)
      | (with_reducible exact wire_GetInt.mono _ _)
      | (with_reducible exact wire_GetInts.mono _ _)
      | (with_reducible exact wire_GetStrings.mono _ _)
      | (with_reducible exact LeO.refl _)
      | (with_reducible exact LeO.none _)
      | (with_reducible refine LeO.ite ?_ ?_)
      | (with_reducible refine LeO.bind ?_ (fun _ => ?_))
      | exact ih0 _ _
      | exact ih1 _ _
      | exact ih2 _ _
      | exact ih3 _ _
      | exact weirgatelaw01_sanity.mono _
      | exact weirgateref01_GetBytes.mono _ _
      | exact weirgateref01_GetDigests.mono _ _
      | exact weirgateref01_GetInt.mono _ _
      | exact weirgateref01_GetInts.mono _ _
      | exact weirgateref01_GetStrings.mono _ _
      | exact weirgateref01_SameInts.mono _ _ _
      | exact weirgateref01_SameTexts.mono _ _ _
      | exact wire_GetBytes.mono _ _
      | exact wire_GetDigests.mono _ _
      | exact wire_GetInt.mono _ _
      | exact wire_GetInts.mono _ _
      | exact wire_GetStrings.mono _ _
      | exact LeO.none _
      | refine LeO.ite ?_ ?_
      | refine LeO.bind ?_ (fun _ => ?_)
    · intro y0 y1
      unfold weirgatelaw01_WireDecodeMatchesSpec.j1
      repeat' first
      | (with_reducible exact ih0 _ _)
      | (with_reducible exact ih1 _ _)
      | (with_reducible exact ih2 _ _)
      | (with_reducible exact ih3 _ _)
      | (with_reducible exact weirgatelaw01_sanity.mono _)
      | (with_reducible exact weirgateref01_GetBytes.mono _ _)
      | (with_reducible exact weirgateref01_GetDigests.mono _ _)
      | (with_reducible exact weirgateref01_GetInt.mono _ _)
      | (with_reducible exact weirgateref01_GetInts.mono _ _)
      | (with_reducible exact weirgateref01_GetStrings.mono _ _)
      | (with_reducible exact weirgateref01_SameInts.mono _ _ _)
      | (with_reducible exact weirgateref01_SameTexts.mono _ _ _)
      | (with_reducible exact wire_GetBytes.mono _ _)
      | (with_reducible exact wire_GetDigests.mono _ _)
      | (with_reducible exact wire_GetInt.mono _ _)
      | (with_reducible exact wire_GetInts.mono _ _)
      | (with_reducible exact wire_GetStrings.mono _ _)
      | (with_reducible exact LeO.refl _)
      | (with_reducible exact LeO.none _)
      | (with_reducible refine LeO.ite ?_ ?_)
      | (with_reducible refine LeO.bind ?_ (fun _ => ?_))
      | exact ih0 _ _
      | exact ih1 _ _
      | exact ih2 _ _
      | exact ih3 _ _
      | exact weirgatelaw01_sanity.mono _
      | exact weirgateref01_GetBytes.mono _ _
      | exact weirgateref01_GetDigests.mono _ _
      | exact weirgateref01_GetInt.mono _ _
      | exact weirgateref01_GetInts.mono _ _
      | exact weirgateref01_GetStrings.mono _ _
      | exact weirgateref01_SameInts.mono _ _ _
      | exact weirgateref01_SameTexts.mono _ _ _
      | exact wire_GetBytes.mono _ _
      | exact wire_GetDigests.mono _ _
      | exact wire_GetInt.mono _ _
      | exact wire_GetInts.mono _ _
      | exact wire_GetStrings.mono _ _
      | exact LeO.none _
      | refine LeO.ite ?_ ?_
      | refine LeO.bind ?_ (fun _ => ?_)
    · intro y0 y1
      unfold weirgatelaw01_WireDecodeMatchesSpec.j2
      repeat' first
      | (with_reducible exact ih0 _ _)
      | (with_reducible exact ih1 _ _)
      | (with_reducible exact ih2 _ _)
      | (with_reducible exact ih3 _ _)
      | (with_reducible exact weirgatelaw01_sanity.mono _)
      | (with_reducible exact weirgateref01_GetBytes.mono _ _)
      | (with_reducible exact weirgateref01_GetDigests.mono _ _)
      | (with_reducible exact weirgateref01_GetInt.mono _ _)
      | (with_reducible exact weirgateref01_GetInts.mono _ _)
      | (with_reducible exact weirgateref01_GetStrings.mono _ _)
      | (with_reducible exact weirgateref01_SameInts.mono _ _ _)
      | (with_reducible exact weirgateref01_SameTexts.mono _ _ _)
      | (with_reducible exact wire_GetBytes.mono _ _)
      | (with_reducible exact wire_GetDigests.mono _ _)
      | (with_reducible exact wire_GetInt.mono _ _)
      | (with_reducible exact wire_GetInts.mono _ _)
      | (with_reducible exact wire_GetStrings.mono _ _)
      | (with_reducible exact LeO.refl _)
      | (with_reducible exact LeO.none _)
      | (with_reducible refine LeO.ite ?_ ?_)
      | (with_reducible refine LeO.bind ?_ (fun _ => ?_))
      | exact ih0 _ _
      | exact ih1 _ _
      | exact ih2 _ _
      | exact ih3 _ _
      | exact weirgatelaw01_sanity.mono _
      | exact weirgateref01_GetBytes.mono _ _
      | exact weirgateref01_GetDigests.mono _ _
      | exact weirgateref01_GetInt.mono _ _
      | exact weirgateref01_GetInts.mono _ _
      | exact weirgateref01_GetStrings.mono _ _
      | exact weirgateref01_SameInts.mono _ _ _
      | exact weirgateref01_SameTexts.mono _ _ _
      | exact wire_GetBytes.mono _ _
      | exact wire_GetDigests.mono _ _
      | exact wire_GetInt.mono _ _
      | exact wire_GetInts.mono _ _
      | exact wire_GetStrings.mono _ _
      | exact LeO.none _
      | refine LeO.ite ?_ ?_
      | refine LeO.bind ?_ (fun _ => ?_)
    · intro y0 y1
      unfold weirgatelaw01_WireDecodeMatchesSpec.j3
      repeat' first
      | (with_reducible exact ih0 _ _)
      | (with_reducible exact ih1 _ _)
      | (with_reducible exact ih2 _ _)
      | (with_reducible exact ih3 _ _)
      | (with_reducible exact weirgatelaw01_sanity.mono _)
      | (with_reducible exact weirgateref01_GetBytes.mono _ _)
      | (with_reducible exact weirgateref01_GetDigests.mono _ _)
      | (with_reducible exact weirgateref01_GetInt.mono _ _)
      | (with_reducible exact weirgateref01_GetInts.mono _ _)
      | (with_reducible exact weirgateref01_GetStrings.mono _ _)
      | (with_reducible exact weirgateref01_SameInts.mono _ _ _)
      | (with_reducible exact weirgateref01_SameTexts.mono _ _ _)
      | (with_reducible exact wire_GetBytes.mono _ _)
      | (with_reducible exact wire_GetDigests.mono _ _)
      | (with_reducible exact wire_GetInt.mono _ _)
      | (with_reducible exact wire_GetInts.mono _ _)
      | (with_reducible exact wire_GetStrings.mono _ _)
      | (with_reducible exact LeO.refl _)
      | (with_reducible exact LeO.none _)
      | (with_reducible refine LeO.ite ?_ ?_)
      | (with_reducible refine LeO.bind ?_ (fun _ => ?_))
      | exact ih0 _ _
      | exact ih1 _ _
      | exact ih2 _ _
      | exact ih3 _ _
      | exact weirgatelaw01_sanity.mono _
      | exact weirgateref01_GetBytes.mono _ _
      | exact weirgateref01_GetDigests.mono _ _
      | exact weirgateref01_GetInt.mono _ _
      | exact weirgateref01_GetInts.mono _ _
      | exact weirgateref01_GetStrings.mono _ _
      | exact weirgateref01_SameInts.mono _ _ _
      | exact weirgateref01_SameTexts.mono _ _ _
      | exact wire_GetBytes.mono _ _
      | exact wire_GetDigests.mono _ _
      | exact wire_GetInt.mono _ _
      | exact wire_GetInts.mono _ _
      | exact wire_GetStrings.mono _ _
      | exact LeO.none _
      | refine LeO.ite ?_ ?_
      | refine LeO.bind ?_ (fun _ => ?_)
theorem weirgatelaw01_WireDecodeMatchesSpec.mono : ∀ a0 k, LeO (weirgatelaw01_WireDecodeMatchesSpec.f k a0) (weirgatelaw01_WireDecodeMatchesSpec.f (k + 1) a0) := by
  intro a0 k
  obtain ⟨ih0, ih1, ih2, ih3⟩ := weirgatelaw01_WireDecodeMatchesSpec.mono_l k
  unfold weirgatelaw01_WireDecodeMatchesSpec.f
  repeat' first
      | (with_reducible exact ih0 _ _)
      | (with_reducible exact ih1 _ _)
      | (with_reducible exact ih2 _ _)
      | (with_reducible exact ih3 _ _)
      | (with_reducible exact weirgatelaw01_sanity.mono _)
      | (with_reducible exact weirgateref01_GetBytes.mono _ _)
      | (with_reducible exact weirgateref01_GetDigests.mono _ _)
      | (with_reducible exact weirgateref01_GetInt.mono _ _)
      | (with_reducible exact weirgateref01_GetInts.mono _ _)
      | (with_reducible exact weirgateref01_GetStrings.mono _ _)
      | (with_reducible exact weirgateref01_SameInts.mono _ _ _)
      | (with_reducible exact weirgateref01_SameTexts.mono _ _ _)
      | (with_reducible exact wire_GetBytes.mono _ _)
      | (with_reducible exact wire_GetDigests.mono _ _)
      | (with_reducible exact wire_GetInt.mono _ _)
      | (with_reducible exact wire_GetInts.mono _ _)
      | (with_reducible exact wire_GetStrings.mono _ _)
      | (with_reducible exact LeO.refl _)
      | (with_reducible exact LeO.none _)
      | (with_reducible refine LeO.ite ?_ ?_)
      | (with_reducible refine LeO.bind ?_ (fun _ => ?_))
      | exact ih0 _ _
      | exact ih1 _ _
      | exact ih2 _ _
      | exact ih3 _ _
      | exact weirgatelaw01_sanity.mono _
      | exact weirgateref01_GetBytes.mono _ _
      | exact weirgateref01_GetDigests.mono _ _
      | exact weirgateref01_GetInt.mono _ _
      | exact weirgateref01_GetInts.mono _ _
      | exact weirgateref01_GetStrings.mono _ _
      | exact weirgateref01_SameInts.mono _ _ _
      | exact weirgateref01_SameTexts.mono _ _ _
      | exact wire_GetBytes.mono _ _
      | exact wire_GetDigests.mono _ _
      | exact wire_GetInt.mono _ _
      | exact wire_GetInts.mono _ _
      | exact wire_GetStrings.mono _ _
      | exact LeO.none _
      | refine LeO.ite ?_ ?_
      | refine LeO.bind ?_ (fun _ => ?_)
set_option maxHeartbeats 8000000 in
set_option maxRecDepth 100000 in
theorem weirgatelaw01_WireDecodeMatchesSpec.calls (k : Nat) (A0 : Option Addr) (c0 : Nat) (l0 : List Int) (r : Bool) (w : World) (hr0 : Kd.C (Kd.int .u8) w A0 l0.length l0) (hc0 : l0.length ≤ c0) (h : weirgatelaw01_WireDecodeMatchesSpec.f k l0 = some r) :
    Calls Try.prog 4 #[.slice A0 l0.length c0] w fun e w' => e = .returned (.bool r) ∧ Below w.heap.size w w' := by
  have HR0 := Aside0.mk hr0
  have HC0 := Aside0.mk hc0
  clear hr0 hc0
  have HB := Aside0.mk (Below.refl w.heap.size w)
  have H : (if (l0.length : Int) > 2000 then ((weirgatelaw01_sanity.f k).bind fun t427 => (some t427)) else ((wire_GetInt.f k l0).bind fun bt428 => ((weirgateref01_GetInt.f k l0).bind fun bt431 => (if bt428.1 = bt431.1 then (if bt428.2.1 = bt431.2.1 then (weirgatelaw01_WireDecodeMatchesSpec.j0 k l0 (bt428.2.2 != bt431.2.2)) else (weirgatelaw01_WireDecodeMatchesSpec.j0 k l0 true)) else (weirgatelaw01_WireDecodeMatchesSpec.j0 k l0 true))))) = some r := h
  clear h
  by_cases c2 : (l0.length : Int) > 2000
  · rw [if_pos c2] at H
    have c2b0 : decide (2000 < (l0.length : Int)) = true := decide_eq_true c2
    have c2b1 : decide (2000 < l0.length) = true := decide_eq_true (by omega)
    clear c2
    replace H := Option.bind_eq_some_iff.mp H
    obtain ⟨t427, A30, H⟩ := H
    replace H : (some t427) = some r := H
    have A3 := Aside0.mk A30
    clear A30
    obtain rfl := Option.some.inj H
    go_enter Try.func4, Try.ntmps4
    go_wp2_with (first | ((with_reducible refine gate_callee (f := 12) rfl ?_); refine goesL_ (some 36) rfl rfl Try.func12 (by kernel_rfl) rfl #[] rfl (by (try simp only [List.map_toArray, List.map_cons, List.map_nil]); first | done | rfl | (simp only [List.length_drop, List.length_take]; rfl)) ?_; (with_reducible refine (weirgatelaw01_sanity.calls k  t427 _ A3.out).mono ?_); rintro e w4 ⟨rfl, hb⟩; refine ⟨_, rfl, ?_⟩; have n0_ := Aside0.mk (below_step (bk HB.out) hb); clear HB; have HB := n0_; clear n0_; (try clear hb); (try clear hb2); (try clear hk); (try clear hi)))
    go_ret
    exact ⟨by first | rfl | (simp [errW_none, errW_some] <;> rfl) | (simp [*, errW_none, errW_some] <;> rfl), bk HB.out⟩
  · rw [if_neg c2] at H
    have c2b0 : decide (2000 < (l0.length : Int)) = false := decide_eq_false c2
    have c2b1 : decide (2000 < l0.length) = false := decide_eq_false (by omega)
    clear c2
    replace H := Option.bind_eq_some_iff.mp H
    obtain ⟨⟨t428, t429, t430⟩, A50, H⟩ := H
    replace H : ((weirgateref01_GetInt.f k l0).bind fun bt431 => (if t428 = bt431.1 then (if t429 = bt431.2.1 then (weirgatelaw01_WireDecodeMatchesSpec.j0 k l0 (t430 != bt431.2.2)) else (weirgatelaw01_WireDecodeMatchesSpec.j0 k l0 true)) else (weirgatelaw01_WireDecodeMatchesSpec.j0 k l0 true))) = some r := H
    have A5 := Aside0.mk A50
    clear A50
    replace H := Option.bind_eq_some_iff.mp H
    obtain ⟨⟨t431, t432, t433⟩, A60, H⟩ := H
    replace H : (if t428 = t431 then (if t429 = t432 then (weirgatelaw01_WireDecodeMatchesSpec.j0 k l0 (t430 != t433)) else (weirgatelaw01_WireDecodeMatchesSpec.j0 k l0 true)) else (weirgatelaw01_WireDecodeMatchesSpec.j0 k l0 true)) = some r := H
    have A6 := Aside0.mk A60
    clear A60
    have HC7 := Aside0.mk H
    clear H
    go_enter Try.func4, Try.ntmps4
    go_upto_region 5 with (first | ((with_reducible refine gate_callee (f := 24) rfl ?_); refine goesL_ (some 39) rfl rfl Try.func24 (by kernel_rfl) rfl #[.slice A0 l0.length c0] rfl (by (try simp only [List.map_toArray, List.map_cons, List.map_nil]); first | done | rfl | (simp only [List.length_drop, List.length_take]; rfl)) ?_; (with_reducible refine (wire_GetInt.calls k _ _ l0 t428 t429 t430 _ ?side1 ?side2 A5.out).mono ?_); (case side1 => repeat (first | exact HR0.out | (with_reducible refine Kd.C_alloc ?_ _) | (with_reducible refine Kd.C_drewN ?_ _) | (with_reducible refine Kd.C_drew ?_))); (case side2 => exact HC0.out); rintro e w' ⟨rfl, ⟨nd, rfl⟩⟩; refine ⟨_, rfl, ?_⟩) | ((with_reducible refine gate_callee (f := 25) rfl ?_); refine goesL_ (some 45) rfl rfl Try.func25 (by kernel_rfl) rfl #[.slice A0 l0.length c0] rfl (by (try simp only [List.map_toArray, List.map_cons, List.map_nil]); first | done | rfl | (simp only [List.length_drop, List.length_take]; rfl)) ?_; (with_reducible refine (weirgateref01_GetInt.calls k _ _ l0 t431 t432 t433 _ ?side1 ?side2 A6.out).mono ?_); (case side1 => repeat (first | exact HR0.out | (with_reducible refine Kd.C_alloc ?_ _) | (with_reducible refine Kd.C_drewN ?_ _) | (with_reducible refine Kd.C_drew ?_))); (case side2 => exact HC0.out); rintro e w' ⟨rfl, ⟨nd, rfl⟩⟩; refine ⟨_, rfl, ?_⟩))
    (try simp only [Act.put, List.setIfInBounds_toArray, List.set_cons_zero, List.set_cons_succ])
    go_cut [61] (fun v61 wc => ∃ (kq : Nat) (x61_6 : Bool), v61 = .bool x61_6 ∧ Aside0 (weirgatelaw01_WireDecodeMatchesSpec.j0 kq l0 x61_6 = some r) ∧ Aside0 (kq ≤ k) ∧ Aside0 (Below w.heap.size w wc))
    case first =>
      have H := HC7.out
      clear HC7
      by_cases c8 : t428 = t431
      · rw [if_pos c8] at H
        have c8b0 : (t428 == t431) = true := beq_iff_eq.mpr c8
        have c8b1 : (t428 != t431) = false := bne_eq_false_iff_eq.mpr c8
        clear c8
        (first | rw [c8b0] | (simp only [i64_w, i32_w]; rw [c8b0]) | skip)
        by_cases c9 : t429 = t432
        · rw [if_pos c9] at H
          have c9b0 : (t429 == t432) = true := beq_iff_eq.mpr c9
          have c9b1 : (t429 != t432) = false := bne_eq_false_iff_eq.mpr c9
          clear c9
          have H' := Aside0.mk H
          clear H
          go_wp2
          go_meet
          case rel => exact ⟨_, ((t430 != t433)), (by first | rfl | (simp; done) | (simp [*]; done) | (simp only [show ∀ p : Prop, Aside0 p = p from fun p => propext ⟨Aside0.out, Aside0.mk⟩] at *; simp_all; done)), H', ⟨by first | omega | exact Nat.le_refl _⟩, ⟨bk HB.out⟩⟩
        · rw [if_neg c9] at H
          have c9b0 : (t429 == t432) = false := beq_eq_false_iff_ne.mpr c9
          have c9b1 : (t429 != t432) = true := bne_iff_ne.mpr c9
          have H' := Aside0.mk H
          clear H
          go_wp2
          go_meet
          case rel => exact ⟨_, (true), (by first | rfl | (simp; done) | (simp [*]; done) | (simp only [show ∀ p : Prop, Aside0 p = p from fun p => propext ⟨Aside0.out, Aside0.mk⟩] at *; simp_all; done)), H', ⟨by first | omega | exact Nat.le_refl _⟩, ⟨bk HB.out⟩⟩
      · rw [if_neg c8] at H
        have c8b0 : (t428 == t431) = false := beq_eq_false_iff_ne.mpr c8
        have c8b1 : (t428 != t431) = true := bne_iff_ne.mpr c8
        (first | rw [c8b0] | (simp only [i64_w, i32_w]; rw [c8b0]) | skip)
        have H' := Aside0.mk H
        clear H
        go_wp2
        go_meet
        case rel => exact ⟨_, (true), (by first | rfl | (simp; done) | (simp [*]; done) | (simp only [show ∀ p : Prop, Aside0 p = p from fun p => propext ⟨Aside0.out, Aside0.mk⟩] at *; simp_all; done)), H', ⟨by first | omega | exact Nat.le_refl _⟩, ⟨bk HB.out⟩⟩
    case rest =>
      clear HC7
      try clear c1
      try clear c2
      try clear c2b0
      try clear c2b1
      try clear p2
      try clear c4
      try clear c8
      try clear c8b0
      try clear c8b1
      try clear c9
      try clear c9b0
      try clear c9b1
      obtain ⟨kq, x61_6, rfl, HA, HJ6, HB⟩ := hcut
      cases kq with
      | zero => exact absurd HA.out (by simp [weirgatelaw01_WireDecodeMatchesSpec.j0])
      | succ kj6 =>
        have H := HA.out
        clear HA
        simp only [weirgatelaw01_WireDecodeMatchesSpec.j0] at H
        by_cases c10 : x61_6 = true
        · subst c10
          have H1 : (none) = some r := by rw [if_pos rfl] at H; exact H
          clear H
          have H := H1
          clear H1
          exact absurd H (by simp)
        · replace c10 := Bool.eq_false_iff.mpr c10
          subst c10
          have H1 : ((wire_GetBytes.f kj6 l0).bind fun bt434 => ((weirgateref01_GetBytes.f kj6 l0).bind fun bt437 => (if bt434.1.toList = bt437.1.toList then (if bt434.2.1 = bt437.2.1 then (weirgatelaw01_WireDecodeMatchesSpec.j1 kj6 l0 (bt434.2.2 != bt437.2.2)) else (weirgatelaw01_WireDecodeMatchesSpec.j1 kj6 l0 true)) else (weirgatelaw01_WireDecodeMatchesSpec.j1 kj6 l0 true)))) = some r := by rw [if_neg (show ¬ (false = true) by decide)] at H; exact H
          clear H
          have H := H1
          clear H1
          replace H := Option.bind_eq_some_iff.mp H
          obtain ⟨⟨t434, t435, t436⟩, A110, H⟩ := H
          replace H : ((weirgateref01_GetBytes.f kj6 l0).bind fun bt437 => (if t434.toList = bt437.1.toList then (if t435 = bt437.2.1 then (weirgatelaw01_WireDecodeMatchesSpec.j1 kj6 l0 (t436 != bt437.2.2)) else (weirgatelaw01_WireDecodeMatchesSpec.j1 kj6 l0 true)) else (weirgatelaw01_WireDecodeMatchesSpec.j1 kj6 l0 true))) = some r := H
          have A11 := Aside0.mk A110
          clear A110
          replace H := Option.bind_eq_some_iff.mp H
          obtain ⟨⟨t437, t438, t439⟩, A120, H⟩ := H
          replace H : (if t434.toList = t437.toList then (if t435 = t438 then (weirgatelaw01_WireDecodeMatchesSpec.j1 kj6 l0 (t436 != t439)) else (weirgatelaw01_WireDecodeMatchesSpec.j1 kj6 l0 true)) else (weirgatelaw01_WireDecodeMatchesSpec.j1 kj6 l0 true)) = some r := H
          have A12 := Aside0.mk A120
          clear A120
          have HC13 := Aside0.mk H
          clear H
          go_upto_region 9 with (first | ((with_reducible refine gate_callee (f := 26) rfl ?_); refine goesL_ (some 64) rfl rfl Try.func26 (by kernel_rfl) rfl #[.slice A0 l0.length c0] rfl (by (try simp only [List.map_toArray, List.map_cons, List.map_nil]); first | done | rfl | (simp only [List.length_drop, List.length_take]; rfl)) ?_; (with_reducible refine (wire_GetBytes.calls kj6 _ _ l0 t434 t435 t436 _ ?side1 ?side2 A11.out).mono ?_); (case side1 => repeat (first | exact (Kd.C_below HR0.out HB.out) | (with_reducible refine Kd.C_alloc ?_ _) | (with_reducible refine Kd.C_drewN ?_ _) | (with_reducible refine Kd.C_drew ?_))); (case side2 => exact HC0.out); rintro e w' ⟨rfl, ⟨nd, rfl⟩⟩; refine ⟨_, rfl, ?_⟩) | ((with_reducible refine gate_callee (f := 27) rfl ?_); refine goesL_ (some 70) rfl rfl Try.func27 (by kernel_rfl) rfl #[.slice A0 l0.length c0] rfl (by (try simp only [List.map_toArray, List.map_cons, List.map_nil]); first | done | rfl | (simp only [List.length_drop, List.length_take]; rfl)) ?_; (with_reducible refine (weirgateref01_GetBytes.calls kj6 _ _ l0 t437 t438 t439 _ ?side1 ?side2 A12.out).mono ?_); (case side1 => repeat (first | exact (Kd.C_below HR0.out (bk HB.out)) | (with_reducible refine Kd.C_alloc ?_ _) | (with_reducible refine Kd.C_drewN ?_ _) | (with_reducible refine Kd.C_drew ?_))); (case side2 => exact HC0.out); rintro e w' ⟨rfl, ⟨nd, rfl⟩⟩; refine ⟨_, rfl, ?_⟩))
          (try simp only [Act.put, List.setIfInBounds_toArray, List.set_cons_zero, List.set_cons_succ])
          go_cut [86] (fun v86 wc => ∃ (kq : Nat) (x86_12 : Bool), v86 = .bool x86_12 ∧ Aside0 (weirgatelaw01_WireDecodeMatchesSpec.j1 kq l0 x86_12 = some r) ∧ Aside0 (kq ≤ kj6) ∧ Aside0 (Below w.heap.size w wc))
          case first =>
            have H := HC13.out
            clear HC13
            by_cases c14 : t434.toList = t437.toList
            · rw [if_pos c14] at H
              have c14b0 : (t434.toList == t437.toList) = true := beq_iff_eq.mpr c14
              have c14b1 : (t434.toList != t437.toList) = false := bne_eq_false_iff_eq.mpr c14
              clear c14
              (first | rw [c14b0] | (simp only [i64_w, i32_w]; rw [c14b0]) | skip)
              by_cases c15 : t435 = t438
              · rw [if_pos c15] at H
                have c15b0 : (t435 == t438) = true := beq_iff_eq.mpr c15
                have c15b1 : (t435 != t438) = false := bne_eq_false_iff_eq.mpr c15
                clear c15
                have H' := Aside0.mk H
                clear H
                go_wp2
                go_meet
                case rel => exact ⟨_, ((t436 != t439)), (by first | rfl | (simp; done) | (simp [*]; done) | (simp only [show ∀ p : Prop, Aside0 p = p from fun p => propext ⟨Aside0.out, Aside0.mk⟩] at *; simp_all; done)), H', ⟨by have := HJ6.out; first | omega | exact Nat.le_refl _⟩, ⟨bk HB.out⟩⟩
              · rw [if_neg c15] at H
                have c15b0 : (t435 == t438) = false := beq_eq_false_iff_ne.mpr c15
                have c15b1 : (t435 != t438) = true := bne_iff_ne.mpr c15
                have H' := Aside0.mk H
                clear H
                go_wp2
                go_meet
                case rel => exact ⟨_, (true), (by first | rfl | (simp; done) | (simp [*]; done) | (simp only [show ∀ p : Prop, Aside0 p = p from fun p => propext ⟨Aside0.out, Aside0.mk⟩] at *; simp_all; done)), H', ⟨by have := HJ6.out; first | omega | exact Nat.le_refl _⟩, ⟨bk HB.out⟩⟩
            · rw [if_neg c14] at H
              have c14b0 : (t434.toList == t437.toList) = false := beq_eq_false_iff_ne.mpr c14
              have c14b1 : (t434.toList != t437.toList) = true := bne_iff_ne.mpr c14
              (first | rw [c14b0] | (simp only [i64_w, i32_w]; rw [c14b0]) | skip)
              have H' := Aside0.mk H
              clear H
              go_wp2
              go_meet
              case rel => exact ⟨_, (true), (by first | rfl | (simp; done) | (simp [*]; done) | (simp only [show ∀ p : Prop, Aside0 p = p from fun p => propext ⟨Aside0.out, Aside0.mk⟩] at *; simp_all; done)), H', ⟨by have := HJ6.out; first | omega | exact Nat.le_refl _⟩, ⟨bk HB.out⟩⟩
          case rest =>
            clear HC13
            try clear c1
            try clear c2
            try clear c2b0
            try clear c2b1
            try clear p2
            try clear c4
            try clear c8
            try clear c8b0
            try clear c8b1
            try clear c9
            try clear c9b0
            try clear c9b1
            try clear c10
            try clear c12
            try clear c14
            try clear c14b0
            try clear c14b1
            try clear c15
            try clear c15b0
            try clear c15b1
            try clear p2
            obtain ⟨kq, x86_12, rfl, HA, HJ12, HB⟩ := hcut
            cases kq with
            | zero => exact absurd HA.out (by simp [weirgatelaw01_WireDecodeMatchesSpec.j1])
            | succ kj12 =>
              have H := HA.out
              clear HA
              simp only [weirgatelaw01_WireDecodeMatchesSpec.j1] at H
              by_cases c16 : x86_12 = true
              · subst c16
                have H1 : (none) = some r := by rw [if_pos rfl] at H; exact H
                clear H
                have H := H1
                clear H1
                exact absurd H (by simp)
              · replace c16 := Bool.eq_false_iff.mpr c16
                subst c16
                have H1 : ((wire_GetInts.f kj12 l0).bind fun bt440 => ((weirgateref01_GetInts.f kj12 l0).bind fun bt445 => ((weirgateref01_SameInts.f kj12 bt440.1 bt445.1).bind fun t450 => (if t450 = true then (if bt440.2.1 = bt445.2.1 then (weirgatelaw01_WireDecodeMatchesSpec.j2 kj12 l0 (bt440.2.2 != bt445.2.2)) else (weirgatelaw01_WireDecodeMatchesSpec.j2 kj12 l0 true)) else (weirgatelaw01_WireDecodeMatchesSpec.j2 kj12 l0 true))))) = some r := by rw [if_neg (show ¬ (false = true) by decide)] at H; exact H
                clear H
                have H := H1
                clear H1
                replace H := Option.bind_eq_some_iff.mp H
                obtain ⟨⟨t440, t441, t442⟩, A170, H⟩ := H
                replace H : ((weirgateref01_GetInts.f kj12 l0).bind fun bt445 => ((weirgateref01_SameInts.f kj12 t440 bt445.1).bind fun t450 => (if t450 = true then (if t441 = bt445.2.1 then (weirgatelaw01_WireDecodeMatchesSpec.j2 kj12 l0 (t442 != bt445.2.2)) else (weirgatelaw01_WireDecodeMatchesSpec.j2 kj12 l0 true)) else (weirgatelaw01_WireDecodeMatchesSpec.j2 kj12 l0 true)))) = some r := H
                have A17 := Aside0.mk A170
                clear A170
                replace H := Option.bind_eq_some_iff.mp H
                obtain ⟨⟨t445, t446, t447⟩, A180, H⟩ := H
                replace H : ((weirgateref01_SameInts.f kj12 t440 t445).bind fun t450 => (if t450 = true then (if t441 = t446 then (weirgatelaw01_WireDecodeMatchesSpec.j2 kj12 l0 (t442 != t447)) else (weirgatelaw01_WireDecodeMatchesSpec.j2 kj12 l0 true)) else (weirgatelaw01_WireDecodeMatchesSpec.j2 kj12 l0 true))) = some r := H
                have A18 := Aside0.mk A180
                clear A180
                have HC19 := Aside0.mk H
                clear H
                go_upto_region 13 with (first | ((with_reducible refine gate_callee (f := 28) rfl ?_); refine goesL_ (some 89) rfl rfl Try.func28 (by kernel_rfl) rfl #[.slice A0 l0.length c0] rfl (by (try simp only [List.map_toArray, List.map_cons, List.map_nil]); first | done | rfl | (simp only [List.length_drop, List.length_take]; rfl)) ?_; (with_reducible refine (wire_GetInts.calls kj12 _ _ l0 t440 t441 t442 _ ?side1 ?side2 A17.out).mono ?_); (case side1 => repeat (first | exact (Kd.C_below HR0.out HB.out) | (with_reducible refine Kd.C_alloc ?_ _) | (with_reducible refine Kd.C_drewN ?_ _) | (with_reducible refine Kd.C_drew ?_))); (case side2 => exact HC0.out); rintro e w20 ⟨v443, rfl, ho0, hb⟩; refine ⟨_, rfl, ?_⟩; have n0_ := Aside0.mk (Kd.R_lower ho0 (below_size (bk HB.out))); have n1_ := Aside0.mk (below_step (bk HB.out) hb); clear HB; have HO444 := n0_; have HB := n1_; clear n0_ n1_; (try clear hb); (try clear hb2); (try clear hk); (try clear hi); (try clear ho0)) | ((with_reducible refine gate_callee (f := 29) rfl ?_); refine goesL_ (some 95) rfl rfl Try.func29 (by kernel_rfl) rfl #[.slice A0 l0.length c0] rfl (by (try simp only [List.map_toArray, List.map_cons, List.map_nil]); first | done | rfl | (simp only [List.length_drop, List.length_take]; rfl)) ?_; (with_reducible refine (weirgateref01_GetInts.calls kj12 _ _ l0 t445 t446 t447 _ ?side1 ?side2 A18.out).mono ?_); (case side1 => repeat (first | exact (Kd.C_below HR0.out HB.out) | (with_reducible refine Kd.C_alloc ?_ _) | (with_reducible refine Kd.C_drewN ?_ _) | (with_reducible refine Kd.C_drew ?_))); (case side2 => exact HC0.out); rintro e w21 ⟨v448, rfl, ho0, hb⟩; refine ⟨_, rfl, ?_⟩; have n0_ := Aside0.mk (Kd.R_elder' (rk HO444.out) (Kd.R_base ho0) hb); have n1_ := Aside0.mk (Kd.R_lower (Kd.R_new' ho0 (Kd.R_lt (rk HO444.out))) (below_size (bk HB.out))); have n2_ := Aside0.mk (below_step (bk HB.out) hb); clear HO444 HB; have HO444 := n0_; have HO449 := n1_; have HB := n2_; clear n0_ n1_ n2_; (try clear hb); (try clear hb2); (try clear hk); (try clear hi); (try clear ho0)))
                (try simp only [Act.put, List.setIfInBounds_toArray, List.set_cons_zero, List.set_cons_succ])
                go_cut [112] (fun v112 wc => ∃ (kq : Nat) (x112_18 : Bool), v112 = .bool x112_18 ∧ Aside0 (weirgatelaw01_WireDecodeMatchesSpec.j2 kq l0 x112_18 = some r) ∧ Aside0 (kq ≤ kj12) ∧ Aside0 (Below w.heap.size w wc))
                case first =>
                  have H := HC19.out
                  clear HC19
                  replace H := Option.bind_eq_some_iff.mp H
                  obtain ⟨t450, A220, H⟩ := H
                  replace H : (if t450 = true then (if t441 = t446 then (weirgatelaw01_WireDecodeMatchesSpec.j2 kj12 l0 (t442 != t447)) else (weirgatelaw01_WireDecodeMatchesSpec.j2 kj12 l0 true)) else (weirgatelaw01_WireDecodeMatchesSpec.j2 kj12 l0 true)) = some r := H
                  have A22 := Aside0.mk A220
                  clear A220
                  by_cases c23 : t450 = true
                  · subst c23
                    have H1 : (if t441 = t446 then (weirgatelaw01_WireDecodeMatchesSpec.j2 kj12 l0 (t442 != t447)) else (weirgatelaw01_WireDecodeMatchesSpec.j2 kj12 l0 true)) = some r := by rw [if_pos rfl] at H; exact H
                    clear H
                    have H := H1
                    clear H1
                    by_cases c24 : t441 = t446
                    · rw [if_pos c24] at H
                      have c24b0 : (t441 == t446) = true := beq_iff_eq.mpr c24
                      have c24b1 : (t441 != t446) = false := bne_eq_false_iff_eq.mpr c24
                      clear c24
                      (first | rw [c24b0] | (simp only [i64_w, i32_w]; rw [c24b0]) | skip)
                      have H' := Aside0.mk H
                      clear H
                      obtain ⟨Ao25, co25, eo25⟩ := Kd.R_slice HO444.out
                      subst eo25
                      obtain ⟨Ao26, co26, eo26⟩ := Kd.R_slice HO449.out
                      subst eo26
                      go_wp2_with (first | ((with_reducible refine gate_callee (f := 30) rfl ?_); refine goesL_ (some 101) rfl rfl Try.func30 (by kernel_rfl) rfl #[.slice Ao25 t440.length co25, .slice Ao26 t445.length co26] rfl (by (try simp only [List.map_toArray, List.map_cons, List.map_nil]); first | done | rfl | (simp only [List.length_drop, List.length_take]; rfl)) ?_; (with_reducible refine (weirgateref01_SameInts.calls kj12 _ _ t440 _ _ t445 true _ ?side1 ?side2 ?side3 ?side4 A22.out).mono ?_); (case side1 => repeat (first | exact (Kd.R_reads' HO444.out).2.2 | (with_reducible refine Kd.C_alloc ?_ _) | (with_reducible refine Kd.C_drewN ?_ _) | (with_reducible refine Kd.C_drew ?_))); (case side2 => exact (Kd.R_reads' HO444.out).2.1); (case side3 => repeat (first | exact (Kd.R_reads' HO449.out).2.2 | (with_reducible refine Kd.C_alloc ?_ _) | (with_reducible refine Kd.C_drewN ?_ _) | (with_reducible refine Kd.C_drew ?_))); (case side4 => exact (Kd.R_reads' HO449.out).2.1); rintro e w' ⟨rfl, ⟨nd, rfl⟩⟩; refine ⟨_, rfl, ?_⟩))
                      go_meet
                      case rel => exact ⟨_, ((t442 != t447)), (by first | rfl | (simp; done) | (simp [*]; done) | (simp only [show ∀ p : Prop, Aside0 p = p from fun p => propext ⟨Aside0.out, Aside0.mk⟩] at *; simp_all; done)), H', ⟨by have := HJ6.out; have := HJ12.out; first | omega | exact Nat.le_refl _⟩, ⟨bk HB.out⟩⟩
                    · rw [if_neg c24] at H
                      have c24b0 : (t441 == t446) = false := beq_eq_false_iff_ne.mpr c24
                      have c24b1 : (t441 != t446) = true := bne_iff_ne.mpr c24
                      (first | rw [c24b0] | (simp only [i64_w, i32_w]; rw [c24b0]) | skip)
                      have H' := Aside0.mk H
                      clear H
                      obtain ⟨Ao27, co27, eo27⟩ := Kd.R_slice HO444.out
                      subst eo27
                      obtain ⟨Ao28, co28, eo28⟩ := Kd.R_slice HO449.out
                      subst eo28
                      go_wp2_with (first | ((with_reducible refine gate_callee (f := 30) rfl ?_); refine goesL_ (some 101) rfl rfl Try.func30 (by kernel_rfl) rfl #[.slice Ao27 t440.length co27, .slice Ao28 t445.length co28] rfl (by (try simp only [List.map_toArray, List.map_cons, List.map_nil]); first | done | rfl | (simp only [List.length_drop, List.length_take]; rfl)) ?_; (with_reducible refine (weirgateref01_SameInts.calls kj12 _ _ t440 _ _ t445 true _ ?side1 ?side2 ?side3 ?side4 A22.out).mono ?_); (case side1 => repeat (first | exact (Kd.R_reads' HO444.out).2.2 | (with_reducible refine Kd.C_alloc ?_ _) | (with_reducible refine Kd.C_drewN ?_ _) | (with_reducible refine Kd.C_drew ?_))); (case side2 => exact (Kd.R_reads' HO444.out).2.1); (case side3 => repeat (first | exact (Kd.R_reads' HO449.out).2.2 | (with_reducible refine Kd.C_alloc ?_ _) | (with_reducible refine Kd.C_drewN ?_ _) | (with_reducible refine Kd.C_drew ?_))); (case side4 => exact (Kd.R_reads' HO449.out).2.1); rintro e w' ⟨rfl, ⟨nd, rfl⟩⟩; refine ⟨_, rfl, ?_⟩))
                      go_meet
                      case rel => exact ⟨_, (true), (by first | rfl | (simp; done) | (simp [*]; done) | (simp only [show ∀ p : Prop, Aside0 p = p from fun p => propext ⟨Aside0.out, Aside0.mk⟩] at *; simp_all; done)), H', ⟨by have := HJ6.out; have := HJ12.out; first | omega | exact Nat.le_refl _⟩, ⟨bk HB.out⟩⟩
                  · replace c23 := Bool.eq_false_iff.mpr c23
                    subst c23
                    have H1 : (weirgatelaw01_WireDecodeMatchesSpec.j2 kj12 l0 true) = some r := by rw [if_neg (show ¬ (false = true) by decide)] at H; exact H
                    clear H
                    have H := H1
                    clear H1
                    have H' := Aside0.mk H
                    clear H
                    obtain ⟨Ao29, co29, eo29⟩ := Kd.R_slice HO444.out
                    subst eo29
                    obtain ⟨Ao30, co30, eo30⟩ := Kd.R_slice HO449.out
                    subst eo30
                    go_wp2_with (first | ((with_reducible refine gate_callee (f := 30) rfl ?_); refine goesL_ (some 101) rfl rfl Try.func30 (by kernel_rfl) rfl #[.slice Ao29 t440.length co29, .slice Ao30 t445.length co30] rfl (by (try simp only [List.map_toArray, List.map_cons, List.map_nil]); first | done | rfl | (simp only [List.length_drop, List.length_take]; rfl)) ?_; (with_reducible refine (weirgateref01_SameInts.calls kj12 _ _ t440 _ _ t445 false _ ?side1 ?side2 ?side3 ?side4 A22.out).mono ?_); (case side1 => repeat (first | exact (Kd.R_reads' HO444.out).2.2 | (with_reducible refine Kd.C_alloc ?_ _) | (with_reducible refine Kd.C_drewN ?_ _) | (with_reducible refine Kd.C_drew ?_))); (case side2 => exact (Kd.R_reads' HO444.out).2.1); (case side3 => repeat (first | exact (Kd.R_reads' HO449.out).2.2 | (with_reducible refine Kd.C_alloc ?_ _) | (with_reducible refine Kd.C_drewN ?_ _) | (with_reducible refine Kd.C_drew ?_))); (case side4 => exact (Kd.R_reads' HO449.out).2.1); rintro e w' ⟨rfl, ⟨nd, rfl⟩⟩; refine ⟨_, rfl, ?_⟩))
                    go_meet
                    case rel => exact ⟨_, (true), (by first | rfl | (simp; done) | (simp [*]; done) | (simp only [show ∀ p : Prop, Aside0 p = p from fun p => propext ⟨Aside0.out, Aside0.mk⟩] at *; simp_all; done)), H', ⟨by have := HJ6.out; have := HJ12.out; first | omega | exact Nat.le_refl _⟩, ⟨bk HB.out⟩⟩
                case rest =>
                  clear HC19
                  try clear c1
                  try clear c2
                  try clear c2b0
                  try clear c2b1
                  try clear p2
                  try clear c3
                  try clear c4
                  try clear c8
                  try clear c8b0
                  try clear c8b1
                  try clear c9
                  try clear c9b0
                  try clear c9b1
                  try clear c10
                  try clear c12
                  try clear c14
                  try clear c14b0
                  try clear c14b1
                  try clear c15
                  try clear c15b0
                  try clear c15b1
                  try clear c16
                  try clear c23
                  try clear c24
                  try clear c24b0
                  try clear c24b1
                  try clear c25
                  try clear c26
                  try clear c27
                  try clear c28
                  try clear c29
                  try clear c30
                  try clear p2
                  obtain ⟨kq, x112_18, rfl, HA, HJ18, HB⟩ := hcut
                  cases kq with
                  | zero => exact absurd HA.out (by simp [weirgatelaw01_WireDecodeMatchesSpec.j2])
                  | succ kj18 =>
                    have H := HA.out
                    clear HA
                    simp only [weirgatelaw01_WireDecodeMatchesSpec.j2] at H
                    by_cases c31 : x112_18 = true
                    · subst c31
                      have H1 : (none) = some r := by rw [if_pos rfl] at H; exact H
                      clear H
                      have H := H1
                      clear H1
                      exact absurd H (by simp)
                    · replace c31 := Bool.eq_false_iff.mpr c31
                      subst c31
                      have H1 : ((wire_GetStrings.f kj18 l0).bind fun bt451 => ((weirgateref01_GetStrings.f kj18 l0).bind fun bt456 => ((weirgateref01_SameTexts.f kj18 bt451.1 bt456.1).bind fun t461 => (if t461 = true then (if bt451.2.1 = bt456.2.1 then (weirgatelaw01_WireDecodeMatchesSpec.j3 kj18 l0 (bt451.2.2 != bt456.2.2)) else (weirgatelaw01_WireDecodeMatchesSpec.j3 kj18 l0 true)) else (weirgatelaw01_WireDecodeMatchesSpec.j3 kj18 l0 true))))) = some r := by rw [if_neg (show ¬ (false = true) by decide)] at H; exact H
                      clear H
                      have H := H1
                      clear H1
                      replace H := Option.bind_eq_some_iff.mp H
                      obtain ⟨⟨t451, t452, t453⟩, A320, H⟩ := H
                      replace H : ((weirgateref01_GetStrings.f kj18 l0).bind fun bt456 => ((weirgateref01_SameTexts.f kj18 t451 bt456.1).bind fun t461 => (if t461 = true then (if t452 = bt456.2.1 then (weirgatelaw01_WireDecodeMatchesSpec.j3 kj18 l0 (t453 != bt456.2.2)) else (weirgatelaw01_WireDecodeMatchesSpec.j3 kj18 l0 true)) else (weirgatelaw01_WireDecodeMatchesSpec.j3 kj18 l0 true)))) = some r := H
                      have A32 := Aside0.mk A320
                      clear A320
                      replace H := Option.bind_eq_some_iff.mp H
                      obtain ⟨⟨t456, t457, t458⟩, A330, H⟩ := H
                      replace H : ((weirgateref01_SameTexts.f kj18 t451 t456).bind fun t461 => (if t461 = true then (if t452 = t457 then (weirgatelaw01_WireDecodeMatchesSpec.j3 kj18 l0 (t453 != t458)) else (weirgatelaw01_WireDecodeMatchesSpec.j3 kj18 l0 true)) else (weirgatelaw01_WireDecodeMatchesSpec.j3 kj18 l0 true))) = some r := H
                      have A33 := Aside0.mk A330
                      clear A330
                      have HC34 := Aside0.mk H
                      clear H
                      go_upto_region 17 with (first | ((with_reducible refine gate_callee (f := 31) rfl ?_); refine goesL_ (some 115) rfl rfl Try.func31 (by kernel_rfl) rfl #[.slice A0 l0.length c0] rfl (by (try simp only [List.map_toArray, List.map_cons, List.map_nil]); first | done | rfl | (simp only [List.length_drop, List.length_take]; rfl)) ?_; (with_reducible refine (wire_GetStrings.calls kj18 _ _ l0 t451 t452 t453 _ ?side1 ?side2 A32.out).mono ?_); (case side1 => repeat (first | exact (Kd.C_below HR0.out HB.out) | (with_reducible refine Kd.C_alloc ?_ _) | (with_reducible refine Kd.C_drewN ?_ _) | (with_reducible refine Kd.C_drew ?_))); (case side2 => exact HC0.out); rintro e w35 ⟨v454, rfl, ho0, hb⟩; refine ⟨_, rfl, ?_⟩; have n0_ := Aside0.mk (Kd.R_lower ho0 (below_size (bk HB.out))); have n1_ := Aside0.mk (below_step (bk HB.out) hb); clear HB; have HO455 := n0_; have HB := n1_; clear n0_ n1_; (try clear hb); (try clear hb2); (try clear hk); (try clear hi); (try clear ho0)) | ((with_reducible refine gate_callee (f := 32) rfl ?_); refine goesL_ (some 121) rfl rfl Try.func32 (by kernel_rfl) rfl #[.slice A0 l0.length c0] rfl (by (try simp only [List.map_toArray, List.map_cons, List.map_nil]); first | done | rfl | (simp only [List.length_drop, List.length_take]; rfl)) ?_; (with_reducible refine (weirgateref01_GetStrings.calls kj18 _ _ l0 t456 t457 t458 _ ?side1 ?side2 A33.out).mono ?_); (case side1 => repeat (first | exact (Kd.C_below HR0.out HB.out) | (with_reducible refine Kd.C_alloc ?_ _) | (with_reducible refine Kd.C_drewN ?_ _) | (with_reducible refine Kd.C_drew ?_))); (case side2 => exact HC0.out); rintro e w36 ⟨v459, rfl, ho0, hb⟩; refine ⟨_, rfl, ?_⟩; have n0_ := Aside0.mk (Kd.R_elder' (rk HO455.out) (Kd.R_base ho0) hb); have n1_ := Aside0.mk (Kd.R_lower (Kd.R_new' ho0 (Kd.R_lt (rk HO455.out))) (below_size (bk HB.out))); have n2_ := Aside0.mk (below_step (bk HB.out) hb); clear HO455 HB; have HO455 := n0_; have HO460 := n1_; have HB := n2_; clear n0_ n1_ n2_; (try clear hb); (try clear hb2); (try clear hk); (try clear hi); (try clear ho0)))
                      (try simp only [Act.put, List.setIfInBounds_toArray, List.set_cons_zero, List.set_cons_succ])
                      go_cut [138] (fun v138 wc => ∃ (kq : Nat) (x138_33 : Bool), v138 = .bool x138_33 ∧ Aside0 (weirgatelaw01_WireDecodeMatchesSpec.j3 kq l0 x138_33 = some r) ∧ Aside0 (kq ≤ kj18) ∧ Aside0 (Below w.heap.size w wc))
                      case first =>
                        have H := HC34.out
                        clear HC34
                        replace H := Option.bind_eq_some_iff.mp H
                        obtain ⟨t461, A370, H⟩ := H
                        replace H : (if t461 = true then (if t452 = t457 then (weirgatelaw01_WireDecodeMatchesSpec.j3 kj18 l0 (t453 != t458)) else (weirgatelaw01_WireDecodeMatchesSpec.j3 kj18 l0 true)) else (weirgatelaw01_WireDecodeMatchesSpec.j3 kj18 l0 true)) = some r := H
                        have A37 := Aside0.mk A370
                        clear A370
                        by_cases c38 : t461 = true
                        · subst c38
                          have H1 : (if t452 = t457 then (weirgatelaw01_WireDecodeMatchesSpec.j3 kj18 l0 (t453 != t458)) else (weirgatelaw01_WireDecodeMatchesSpec.j3 kj18 l0 true)) = some r := by rw [if_pos rfl] at H; exact H
                          clear H
                          have H := H1
                          clear H1
                          by_cases c39 : t452 = t457
                          · rw [if_pos c39] at H
                            have c39b0 : (t452 == t457) = true := beq_iff_eq.mpr c39
                            have c39b1 : (t452 != t457) = false := bne_eq_false_iff_eq.mpr c39
                            clear c39
                            (first | rw [c39b0] | (simp only [i64_w, i32_w]; rw [c39b0]) | skip)
                            have H' := Aside0.mk H
                            clear H
                            obtain ⟨Ao40, co40, eo40⟩ := Kd.R_slice HO455.out
                            subst eo40
                            obtain ⟨Ao41, co41, eo41⟩ := Kd.R_slice HO460.out
                            subst eo41
                            go_wp2_with (first | ((with_reducible refine gate_callee (f := 33) rfl ?_); refine goesL_ (some 127) rfl rfl Try.func33 (by kernel_rfl) rfl #[.slice Ao40 t451.length co40, .slice Ao41 t456.length co41] rfl (by (try simp only [List.map_toArray, List.map_cons, List.map_nil]); first | done | rfl | (simp only [List.length_drop, List.length_take]; rfl)) ?_; (with_reducible refine (weirgateref01_SameTexts.calls kj18 _ _ t451 _ _ t456 true _ ?side1 ?side2 ?side3 ?side4 A37.out).mono ?_); (case side1 => repeat (first | exact (Kd.R_reads' HO455.out).2.2 | (with_reducible refine Kd.C_alloc ?_ _) | (with_reducible refine Kd.C_drewN ?_ _) | (with_reducible refine Kd.C_drew ?_))); (case side2 => exact (Kd.R_reads' HO455.out).2.1); (case side3 => repeat (first | exact (Kd.R_reads' HO460.out).2.2 | (with_reducible refine Kd.C_alloc ?_ _) | (with_reducible refine Kd.C_drewN ?_ _) | (with_reducible refine Kd.C_drew ?_))); (case side4 => exact (Kd.R_reads' HO460.out).2.1); rintro e w' ⟨rfl, ⟨nd, rfl⟩⟩; refine ⟨_, rfl, ?_⟩))
                            go_meet
                            case rel => exact ⟨_, ((t453 != t458)), (by first | rfl | (simp; done) | (simp [*]; done) | (simp only [show ∀ p : Prop, Aside0 p = p from fun p => propext ⟨Aside0.out, Aside0.mk⟩] at *; simp_all; done)), H', ⟨by have := HJ6.out; have := HJ12.out; have := HJ18.out; first | omega | exact Nat.le_refl _⟩, ⟨bk HB.out⟩⟩
                          · rw [if_neg c39] at H
                            have c39b0 : (t452 == t457) = false := beq_eq_false_iff_ne.mpr c39
                            have c39b1 : (t452 != t457) = true := bne_iff_ne.mpr c39
                            (first | rw [c39b0] | (simp only [i64_w, i32_w]; rw [c39b0]) | skip)
                            have H' := Aside0.mk H
                            clear H
                            obtain ⟨Ao42, co42, eo42⟩ := Kd.R_slice HO455.out
                            subst eo42
                            obtain ⟨Ao43, co43, eo43⟩ := Kd.R_slice HO460.out
                            subst eo43
                            go_wp2_with (first | ((with_reducible refine gate_callee (f := 33) rfl ?_); refine goesL_ (some 127) rfl rfl Try.func33 (by kernel_rfl) rfl #[.slice Ao42 t451.length co42, .slice Ao43 t456.length co43] rfl (by (try simp only [List.map_toArray, List.map_cons, List.map_nil]); first | done | rfl | (simp only [List.length_drop, List.length_take]; rfl)) ?_; (with_reducible refine (weirgateref01_SameTexts.calls kj18 _ _ t451 _ _ t456 true _ ?side1 ?side2 ?side3 ?side4 A37.out).mono ?_); (case side1 => repeat (first | exact (Kd.R_reads' HO455.out).2.2 | (with_reducible refine Kd.C_alloc ?_ _) | (with_reducible refine Kd.C_drewN ?_ _) | (with_reducible refine Kd.C_drew ?_))); (case side2 => exact (Kd.R_reads' HO455.out).2.1); (case side3 => repeat (first | exact (Kd.R_reads' HO460.out).2.2 | (with_reducible refine Kd.C_alloc ?_ _) | (with_reducible refine Kd.C_drewN ?_ _) | (with_reducible refine Kd.C_drew ?_))); (case side4 => exact (Kd.R_reads' HO460.out).2.1); rintro e w' ⟨rfl, ⟨nd, rfl⟩⟩; refine ⟨_, rfl, ?_⟩))
                            go_meet
                            case rel => exact ⟨_, (true), (by first | rfl | (simp; done) | (simp [*]; done) | (simp only [show ∀ p : Prop, Aside0 p = p from fun p => propext ⟨Aside0.out, Aside0.mk⟩] at *; simp_all; done)), H', ⟨by have := HJ6.out; have := HJ12.out; have := HJ18.out; first | omega | exact Nat.le_refl _⟩, ⟨bk HB.out⟩⟩
                        · replace c38 := Bool.eq_false_iff.mpr c38
                          subst c38
                          have H1 : (weirgatelaw01_WireDecodeMatchesSpec.j3 kj18 l0 true) = some r := by rw [if_neg (show ¬ (false = true) by decide)] at H; exact H
                          clear H
                          have H := H1
                          clear H1
                          have H' := Aside0.mk H
                          clear H
                          obtain ⟨Ao44, co44, eo44⟩ := Kd.R_slice HO455.out
                          subst eo44
                          obtain ⟨Ao45, co45, eo45⟩ := Kd.R_slice HO460.out
                          subst eo45
                          go_wp2_with (first | ((with_reducible refine gate_callee (f := 33) rfl ?_); refine goesL_ (some 127) rfl rfl Try.func33 (by kernel_rfl) rfl #[.slice Ao44 t451.length co44, .slice Ao45 t456.length co45] rfl (by (try simp only [List.map_toArray, List.map_cons, List.map_nil]); first | done | rfl | (simp only [List.length_drop, List.length_take]; rfl)) ?_; (with_reducible refine (weirgateref01_SameTexts.calls kj18 _ _ t451 _ _ t456 false _ ?side1 ?side2 ?side3 ?side4 A37.out).mono ?_); (case side1 => repeat (first | exact (Kd.R_reads' HO455.out).2.2 | (with_reducible refine Kd.C_alloc ?_ _) | (with_reducible refine Kd.C_drewN ?_ _) | (with_reducible refine Kd.C_drew ?_))); (case side2 => exact (Kd.R_reads' HO455.out).2.1); (case side3 => repeat (first | exact (Kd.R_reads' HO460.out).2.2 | (with_reducible refine Kd.C_alloc ?_ _) | (with_reducible refine Kd.C_drewN ?_ _) | (with_reducible refine Kd.C_drew ?_))); (case side4 => exact (Kd.R_reads' HO460.out).2.1); rintro e w' ⟨rfl, ⟨nd, rfl⟩⟩; refine ⟨_, rfl, ?_⟩))
                          go_meet
                          case rel => exact ⟨_, (true), (by first | rfl | (simp; done) | (simp [*]; done) | (simp only [show ∀ p : Prop, Aside0 p = p from fun p => propext ⟨Aside0.out, Aside0.mk⟩] at *; simp_all; done)), H', ⟨by have := HJ6.out; have := HJ12.out; have := HJ18.out; first | omega | exact Nat.le_refl _⟩, ⟨bk HB.out⟩⟩
                      case rest =>
                        clear HC34
                        try clear c1
                        try clear c2
                        try clear c2b0
                        try clear c2b1
                        try clear p2
                        try clear c3
                        try clear c4
                        try clear c8
                        try clear c8b0
                        try clear c8b1
                        try clear c9
                        try clear c9b0
                        try clear c9b1
                        try clear c10
                        try clear c12
                        try clear c14
                        try clear c14b0
                        try clear c14b1
                        try clear c15
                        try clear c15b0
                        try clear c15b1
                        try clear c16
                        try clear c23
                        try clear c24
                        try clear c24b0
                        try clear c24b1
                        try clear c25
                        try clear c26
                        try clear c27
                        try clear c28
                        try clear c29
                        try clear c30
                        try clear c31
                        try clear c32
                        try clear c33
                        try clear c38
                        try clear c39
                        try clear c39b0
                        try clear c39b1
                        try clear p2
                        obtain ⟨kq, x138_33, rfl, HA, HJ33, HB⟩ := hcut
                        cases kq with
                        | zero => exact absurd HA.out (by simp [weirgatelaw01_WireDecodeMatchesSpec.j3])
                        | succ kj33 =>
                          have H := HA.out
                          clear HA
                          simp only [weirgatelaw01_WireDecodeMatchesSpec.j3] at H
                          by_cases c46 : x138_33 = true
                          · subst c46
                            have H1 : (none) = some r := by rw [if_pos rfl] at H; exact H
                            clear H
                            have H := H1
                            clear H1
                            exact absurd H (by simp)
                          · replace c46 := Bool.eq_false_iff.mpr c46
                            subst c46
                            have H1 : ((wire_GetDigests.f kj33 l0).bind fun bt462 => ((weirgateref01_GetDigests.f kj33 l0).bind fun bt467 => ((weirgatelaw01_sanity.f kj33).bind fun t472 => (if t472 = true then ((weirgateref01_SameDigests.f bt462.1 bt467.1).bind fun t473 => (if t473 = true then (if bt462.2.1 = bt467.2.1 then (some (bt462.2.2 == bt467.2.2)) else (none)) else (none))) else (none))))) = some r := by rw [if_neg (show ¬ (false = true) by decide)] at H; exact H
                            clear H
                            have H := H1
                            clear H1
                            replace H := Option.bind_eq_some_iff.mp H
                            obtain ⟨⟨t462, t463, t464⟩, A470, H⟩ := H
                            replace H : ((weirgateref01_GetDigests.f kj33 l0).bind fun bt467 => ((weirgatelaw01_sanity.f kj33).bind fun t472 => (if t472 = true then ((weirgateref01_SameDigests.f t462 bt467.1).bind fun t473 => (if t473 = true then (if t463 = bt467.2.1 then (some (t464 == bt467.2.2)) else (none)) else (none))) else (none)))) = some r := H
                            have A47 := Aside0.mk A470
                            clear A470
                            replace H := Option.bind_eq_some_iff.mp H
                            obtain ⟨⟨t467, t468, t469⟩, A480, H⟩ := H
                            replace H : ((weirgatelaw01_sanity.f kj33).bind fun t472 => (if t472 = true then ((weirgateref01_SameDigests.f t462 t467).bind fun t473 => (if t473 = true then (if t463 = t468 then (some (t464 == t469)) else (none)) else (none))) else (none))) = some r := H
                            have A48 := Aside0.mk A480
                            clear A480
                            replace H := Option.bind_eq_some_iff.mp H
                            obtain ⟨t472, A490, H⟩ := H
                            replace H : (if t472 = true then ((weirgateref01_SameDigests.f t462 t467).bind fun t473 => (if t473 = true then (if t463 = t468 then (some (t464 == t469)) else (none)) else (none))) else (none)) = some r := H
                            have A49 := Aside0.mk A490
                            clear A490
                            by_cases c50 : t472 = true
                            · subst c50
                              have H1 : ((weirgateref01_SameDigests.f t462 t467).bind fun t473 => (if t473 = true then (if t463 = t468 then (some (t464 == t469)) else (none)) else (none))) = some r := by rw [if_pos rfl] at H; exact H
                              clear H
                              have H := H1
                              clear H1
                              replace H := Option.bind_eq_some_iff.mp H
                              obtain ⟨t473, A510, H⟩ := H
                              replace H : (if t473 = true then (if t463 = t468 then (some (t464 == t469)) else (none)) else (none)) = some r := H
                              have A51 := Aside0.mk A510
                              clear A510
                              by_cases c52 : t473 = true
                              · subst c52
                                have H1 : (if t463 = t468 then (some (t464 == t469)) else (none)) = some r := by rw [if_pos rfl] at H; exact H
                                clear H
                                have H := H1
                                clear H1
                                by_cases c53 : t463 = t468
                                · rw [if_pos c53] at H
                                  have c53b0 : (t463 == t468) = true := beq_iff_eq.mpr c53
                                  have c53b1 : (t463 != t468) = false := bne_eq_false_iff_eq.mpr c53
                                  clear c53
                                  obtain rfl := Option.some.inj H
                                  go_wp2_with (first | ((with_reducible refine gate_callee (f := 34) rfl ?_); refine goesL_ (some 141) rfl rfl Try.func34 (by kernel_rfl) rfl #[.slice A0 l0.length c0] rfl (by (try simp only [List.map_toArray, List.map_cons, List.map_nil]); first | done | rfl | (simp only [List.length_drop, List.length_take]; rfl)) ?_; (with_reducible refine (wire_GetDigests.calls kj33 _ _ l0 t462 t463 t464 _ ?side1 ?side2 A47.out).mono ?_); (case side1 => repeat (first | exact (Kd.C_below HR0.out HB.out) | (with_reducible refine Kd.C_alloc ?_ _) | (with_reducible refine Kd.C_drewN ?_ _) | (with_reducible refine Kd.C_drew ?_))); (case side2 => exact HC0.out); rintro e w54 ⟨v465, rfl, ho0, hb⟩; refine ⟨_, rfl, ?_⟩; have n0_ := Aside0.mk (Kd.R_lower ho0 (below_size (bk HB.out))); have n1_ := Aside0.mk (below_step (bk HB.out) hb); clear HB; have HO466 := n0_; have HB := n1_; clear n0_ n1_; (try clear hb); (try clear hb2); (try clear hk); (try clear hi); (try clear ho0)) | ((with_reducible refine gate_callee (f := 35) rfl ?_); refine goesL_ (some 147) rfl rfl Try.func35 (by kernel_rfl) rfl #[.slice A0 l0.length c0] rfl (by (try simp only [List.map_toArray, List.map_cons, List.map_nil]); first | done | rfl | (simp only [List.length_drop, List.length_take]; rfl)) ?_; (with_reducible refine (weirgateref01_GetDigests.calls kj33 _ _ l0 t467 t468 t469 _ ?side1 ?side2 A48.out).mono ?_); (case side1 => repeat (first | exact (Kd.C_below HR0.out HB.out) | (with_reducible refine Kd.C_alloc ?_ _) | (with_reducible refine Kd.C_drewN ?_ _) | (with_reducible refine Kd.C_drew ?_))); (case side2 => exact HC0.out); rintro e w55 ⟨v470, rfl, ho0, hb⟩; refine ⟨_, rfl, ?_⟩; have n0_ := Aside0.mk (Kd.R_elder' (rk HO466.out) (Kd.R_base ho0) hb); have n1_ := Aside0.mk (Kd.R_lower (Kd.R_new' ho0 (Kd.R_lt (rk HO466.out))) (below_size (bk HB.out))); have n2_ := Aside0.mk (below_step (bk HB.out) hb); clear HO466 HB; have HO466 := n0_; have HO471 := n1_; have HB := n2_; clear n0_ n1_ n2_; (try clear hb); (try clear hb2); (try clear hk); (try clear hi); (try clear ho0)) | ((with_reducible refine gate_callee (f := 12) rfl ?_); refine goesL_ (some 151) rfl rfl Try.func12 (by kernel_rfl) rfl #[] rfl (by (try simp only [List.map_toArray, List.map_cons, List.map_nil]); first | done | rfl | (simp only [List.length_drop, List.length_take]; rfl)) ?_; (with_reducible refine (weirgatelaw01_sanity.calls kj33  true _ A49.out).mono ?_); rintro e w56 ⟨rfl, hb⟩; refine ⟨_, rfl, ?_⟩; have n0_ := Aside0.mk (Kd.R_below (rk HO466.out) hb); have n1_ := Aside0.mk (Kd.R_below (rk HO471.out) hb); have n2_ := Aside0.mk (below_step (bk HB.out) hb); clear HO466 HO471 HB; have HO466 := n0_; have HO471 := n1_; have HB := n2_; clear n0_ n1_ n2_; (try clear hb); (try clear hb2); (try clear hk); (try clear hi); obtain ⟨Ao57, co57, eo57⟩ := Kd.R_slice HO466.out; subst eo57; obtain ⟨Ao58, co58, eo58⟩ := Kd.R_slice HO471.out; subst eo58) | (go_at_call 36; (with_reducible refine (weirgateref01_SameDigests.calls _ _ t462 _ _ t467 true _ ?side1 ?side2 ?side3 ?side4 A51.out).mono ?_); (case side1 => repeat (first | exact (Kd.R_reads' HO466.out).2.2 | (with_reducible refine Kd.C_alloc ?_ _) | (with_reducible refine Kd.C_drewN ?_ _) | (with_reducible refine Kd.C_drew ?_))); (case side2 => exact (Kd.R_reads' HO466.out).2.1); (case side3 => repeat (first | exact (Kd.R_reads' HO471.out).2.2 | (with_reducible refine Kd.C_alloc ?_ _) | (with_reducible refine Kd.C_drewN ?_ _) | (with_reducible refine Kd.C_drew ?_))); (case side4 => exact (Kd.R_reads' HO471.out).2.1); rintro e w' ⟨rfl, ⟨nd, rfl⟩⟩))
                                  go_ret
                                  exact ⟨by first | rfl | (simp [errW_none, errW_some] <;> rfl) | (simp [*, errW_none, errW_some] <;> rfl), bk HB.out⟩
                                · rw [if_neg c53] at H
                                  exact absurd H (by simp)
                              · replace c52 := Bool.eq_false_iff.mpr c52
                                subst c52
                                have H1 : (none) = some r := by rw [if_neg (show ¬ (false = true) by decide)] at H; exact H
                                clear H
                                have H := H1
                                clear H1
                                exact absurd H (by simp)
                            · replace c50 := Bool.eq_false_iff.mpr c50
                              subst c50
                              have H1 : (none) = some r := by rw [if_neg (show ¬ (false = true) by decide)] at H; exact H
                              clear H
                              have H := H1
                              clear H1
                              exact absurd H (by simp)

end Go.Proofs.Ytekbhcciabgnhaa.PP
