-- laid by a program of this session (wip/xprint), out of the translation
import Derived.Test.YtekbhcciabgnhaaPP0
import Derived.Test.YtekbhcciabgnhaaPP1
import Derived.Test.YtekbhcciabgnhaaPP2
import Derived.Test.YtekbhcciabgnhaaPP3
import Derived.Test.YtekbhcciabgnhaaPP4
import Derived.Test.YtekbhcciabgnhaaPP5
import Derived.Test.YtekbhcciabgnhaaPP6
import Derived.Test.YtekbhcciabgnhaaPP13
namespace Go.Proofs.Ytekbhcciabgnhaa.PP
open Go.RowKit Go.Proofs.YtekbhcciabgnhaaW.PrintWords Go.Proofs.YtekbhcciabgnhaaW.PrintLast Go.Proofs.YtekbhcciabgnhaaW.PrintMore
attribute [local go_sem] max2_int min2_int max_two min_two max_three min_three max_four min_four   -- for this text's walks alone
set_option linter.unusedVariables false
set_option linter.unusedSimpArgs false

attribute [local go_sem] isSome_put
/-! ### weirgatelaw01_WireCanonical: function 7 -/
def weirgatelaw01_WireCanonical.f (k : Nat) (l0 : List Int) : Option (Bool) := if (l0.length : Int) > 2000 then ((weirgatelaw01_sanity.f k).bind fun t494 => (some t494)) else ((wire_GetInt.f k l0).bind fun bt495 => ((wire_GetBytes.f k l0).bind fun bt498 => ((wire_GetInts.f k l0).bind fun bt501 => ((wire_GetStrings.f k l0).bind fun bt506 => ((wire_GetDigests.f k l0).bind fun bt511 => ((weirgatelaw01_sanity.f k).bind fun t516 => (if t516 = true then ((wire_Int.f k bt495.1).bind fun t517 => ((weirgatelaw01_consumed.f l0 t517 bt495.2.1 bt495.2.2).bind fun t520 => (if t520 = true then ((wire_Bytes.f k bt498.1).bind fun t521 => ((weirgatelaw01_consumed.f l0 t521 bt498.2.1 bt498.2.2).bind fun t524 => (if t524 = true then ((wire_Ints.f k bt501.1).bind fun t525 => ((weirgatelaw01_consumed.f l0 t525 bt501.2.1 bt501.2.2).bind fun t528 => (if t528 = true then ((wire_Strings.f k bt506.1).bind fun t529 => ((weirgatelaw01_consumed.f l0 t529 bt506.2.1 bt506.2.2).bind fun t532 => (if t532 = true then ((wire_Digests.f k bt511.1).bind fun t533 => ((weirgatelaw01_consumed.f l0 t533 bt511.2.1 bt511.2.2).bind fun t536 => (some t536))) else (none)))) else (none)))) else (none)))) else (none)))) else (none))))))))
theorem weirgatelaw01_WireCanonical.mono : ∀ a0 k, LeO (weirgatelaw01_WireCanonical.f k a0) (weirgatelaw01_WireCanonical.f (k + 1) a0) := by
  intro a0 k
  unfold weirgatelaw01_WireCanonical.f
  repeat' first
      | (with_reducible exact weirgatelaw01_sanity.mono _)
      | (with_reducible exact wire_Bytes.mono _ _)
      | (with_reducible exact wire_Digests.mono _ _)
      | (with_reducible exact wire_GetBytes.mono _ _)
      | (with_reducible exact wire_GetDigests.mono _ _)
      | (with_reducible exact wire_GetInt.mono _ _)
      | (with_reducible exact wire_GetInts.mono _ _)
      | (with_reducible exact wire_GetStrings.mono _ _)
      | (with_reducible exact wire_Int.mono _ _)
      | (with_reducible exact wire_Ints.mono _ _)
      | (with_reducible exact wire_Strings.mono _ _)
      | (with_reducible exact LeO.refl _)
      | (with_reducible exact LeO.none _)
      | (with_reducible refine LeO.ite ?_ ?_)
      | (with_reducible refine LeO.bind ?_ (fun _ => ?_))
      | exact weirgatelaw01_sanity.mono _
      | exact wire_Bytes.mono _ _
      | exact wire_Digests.mono _ _
      | exact wire_GetBytes.mono _ _
      | exact wire_GetDigests.mono _ _
      | exact wire_GetInt.mono _ _
      | exact wire_GetInts.mono _ _
      | exact wire_GetStrings.mono _ _
      | exact wire_Int.mono _ _
      | exact wire_Ints.mono _ _
      | exact wire_Strings.mono _ _
      | exact LeO.none _
      | refine LeO.ite ?_ ?_
      | refine LeO.bind ?_ (fun _ => ?_)
set_option maxHeartbeats 8000000 in
set_option maxRecDepth 100000 in
theorem weirgatelaw01_WireCanonical.calls (k : Nat) (A0 : Option Addr) (c0 : Nat) (l0 : List Int) (r : Bool) (w : World) (hr0 : Kd.C (Kd.int .u8) w A0 l0.length l0) (hc0 : l0.length ≤ c0) (h : weirgatelaw01_WireCanonical.f k l0 = some r) :
    Calls Try.prog 7 #[.slice A0 l0.length c0] w fun e w' => e = .returned (.bool r) ∧ Below w.heap.size w w' := by
  have HR0 := Aside0.mk hr0
  have HC0 := Aside0.mk hc0
  clear hr0 hc0
  have HB := Aside0.mk (Below.refl w.heap.size w)
  have H : (if (l0.length : Int) > 2000 then ((weirgatelaw01_sanity.f k).bind fun t494 => (some t494)) else ((wire_GetInt.f k l0).bind fun bt495 => ((wire_GetBytes.f k l0).bind fun bt498 => ((wire_GetInts.f k l0).bind fun bt501 => ((wire_GetStrings.f k l0).bind fun bt506 => ((wire_GetDigests.f k l0).bind fun bt511 => ((weirgatelaw01_sanity.f k).bind fun t516 => (if t516 = true then ((wire_Int.f k bt495.1).bind fun t517 => ((weirgatelaw01_consumed.f l0 t517 bt495.2.1 bt495.2.2).bind fun t520 => (if t520 = true then ((wire_Bytes.f k bt498.1).bind fun t521 => ((weirgatelaw01_consumed.f l0 t521 bt498.2.1 bt498.2.2).bind fun t524 => (if t524 = true then ((wire_Ints.f k bt501.1).bind fun t525 => ((weirgatelaw01_consumed.f l0 t525 bt501.2.1 bt501.2.2).bind fun t528 => (if t528 = true then ((wire_Strings.f k bt506.1).bind fun t529 => ((weirgatelaw01_consumed.f l0 t529 bt506.2.1 bt506.2.2).bind fun t532 => (if t532 = true then ((wire_Digests.f k bt511.1).bind fun t533 => ((weirgatelaw01_consumed.f l0 t533 bt511.2.1 bt511.2.2).bind fun t536 => (some t536))) else (none)))) else (none)))) else (none)))) else (none)))) else (none))))))))) = some r := h
  clear h
  by_cases c2 : (l0.length : Int) > 2000
  · rw [if_pos c2] at H
    have c2b0 : decide (2000 < (l0.length : Int)) = true := decide_eq_true c2
    have c2b1 : decide (2000 < l0.length) = true := decide_eq_true (by omega)
    clear c2
    replace H := Option.bind_eq_some_iff.mp H
    obtain ⟨t494, A30, H⟩ := H
    replace H : (some t494) = some r := H
    have A3 := Aside0.mk A30
    clear A30
    obtain rfl := Option.some.inj H
    go_enter Try.func7, Try.ntmps7
    (try dsimp only [List.append] at *)
    go_wp2_with (first | ((with_reducible refine gate_callee (f := 12) rfl ?_); refine goesL_ (some 21) rfl rfl Try.func12 (by kernel_rfl) rfl #[] rfl (by (try simp only [List.map_toArray, List.map_cons, List.map_nil]); first | done | rfl | (simp only [List.length_drop, List.length_take]; rfl)) ?_; (with_reducible refine (weirgatelaw01_sanity.calls k  t494 _ A3.out).mono ?_); rintro e w4 ⟨rfl, hb⟩; refine ⟨_, rfl, ?_⟩; have n0_ := Aside0.mk (below_step (bk HB.out) hb); clear HB; have HB := n0_; clear n0_; (try clear hb); (try clear hb2); (try clear hk); (try clear hi)))
    go_ret
    exact ⟨by first | rfl | (simp [errW_none, errW_some] <;> rfl) | (simp [*, errW_none, errW_some] <;> rfl), bk HB.out⟩
  · rw [if_neg c2] at H
    have c2b0 : decide (2000 < (l0.length : Int)) = false := decide_eq_false c2
    have c2b1 : decide (2000 < l0.length) = false := decide_eq_false (by omega)
    clear c2
    replace H := Option.bind_eq_some_iff.mp H
    obtain ⟨⟨t495, t496, t497⟩, A50, H⟩ := H
    replace H : ((wire_GetBytes.f k l0).bind fun bt498 => ((wire_GetInts.f k l0).bind fun bt501 => ((wire_GetStrings.f k l0).bind fun bt506 => ((wire_GetDigests.f k l0).bind fun bt511 => ((weirgatelaw01_sanity.f k).bind fun t516 => (if t516 = true then ((wire_Int.f k t495).bind fun t517 => ((weirgatelaw01_consumed.f l0 t517 t496 t497).bind fun t520 => (if t520 = true then ((wire_Bytes.f k bt498.1).bind fun t521 => ((weirgatelaw01_consumed.f l0 t521 bt498.2.1 bt498.2.2).bind fun t524 => (if t524 = true then ((wire_Ints.f k bt501.1).bind fun t525 => ((weirgatelaw01_consumed.f l0 t525 bt501.2.1 bt501.2.2).bind fun t528 => (if t528 = true then ((wire_Strings.f k bt506.1).bind fun t529 => ((weirgatelaw01_consumed.f l0 t529 bt506.2.1 bt506.2.2).bind fun t532 => (if t532 = true then ((wire_Digests.f k bt511.1).bind fun t533 => ((weirgatelaw01_consumed.f l0 t533 bt511.2.1 bt511.2.2).bind fun t536 => (some t536))) else (none)))) else (none)))) else (none)))) else (none)))) else (none))))))) = some r := H
    have A5 := Aside0.mk A50
    clear A50
    replace H := Option.bind_eq_some_iff.mp H
    obtain ⟨⟨t498, t499, t500⟩, A60, H⟩ := H
    replace H : ((wire_GetInts.f k l0).bind fun bt501 => ((wire_GetStrings.f k l0).bind fun bt506 => ((wire_GetDigests.f k l0).bind fun bt511 => ((weirgatelaw01_sanity.f k).bind fun t516 => (if t516 = true then ((wire_Int.f k t495).bind fun t517 => ((weirgatelaw01_consumed.f l0 t517 t496 t497).bind fun t520 => (if t520 = true then ((wire_Bytes.f k t498).bind fun t521 => ((weirgatelaw01_consumed.f l0 t521 t499 t500).bind fun t524 => (if t524 = true then ((wire_Ints.f k bt501.1).bind fun t525 => ((weirgatelaw01_consumed.f l0 t525 bt501.2.1 bt501.2.2).bind fun t528 => (if t528 = true then ((wire_Strings.f k bt506.1).bind fun t529 => ((weirgatelaw01_consumed.f l0 t529 bt506.2.1 bt506.2.2).bind fun t532 => (if t532 = true then ((wire_Digests.f k bt511.1).bind fun t533 => ((weirgatelaw01_consumed.f l0 t533 bt511.2.1 bt511.2.2).bind fun t536 => (some t536))) else (none)))) else (none)))) else (none)))) else (none)))) else (none)))))) = some r := H
    have A6 := Aside0.mk A60
    clear A60
    replace H := Option.bind_eq_some_iff.mp H
    obtain ⟨⟨t501, t502, t503⟩, A70, H⟩ := H
    replace H : ((wire_GetStrings.f k l0).bind fun bt506 => ((wire_GetDigests.f k l0).bind fun bt511 => ((weirgatelaw01_sanity.f k).bind fun t516 => (if t516 = true then ((wire_Int.f k t495).bind fun t517 => ((weirgatelaw01_consumed.f l0 t517 t496 t497).bind fun t520 => (if t520 = true then ((wire_Bytes.f k t498).bind fun t521 => ((weirgatelaw01_consumed.f l0 t521 t499 t500).bind fun t524 => (if t524 = true then ((wire_Ints.f k t501).bind fun t525 => ((weirgatelaw01_consumed.f l0 t525 t502 t503).bind fun t528 => (if t528 = true then ((wire_Strings.f k bt506.1).bind fun t529 => ((weirgatelaw01_consumed.f l0 t529 bt506.2.1 bt506.2.2).bind fun t532 => (if t532 = true then ((wire_Digests.f k bt511.1).bind fun t533 => ((weirgatelaw01_consumed.f l0 t533 bt511.2.1 bt511.2.2).bind fun t536 => (some t536))) else (none)))) else (none)))) else (none)))) else (none)))) else (none))))) = some r := H
    have A7 := Aside0.mk A70
    clear A70
    replace H := Option.bind_eq_some_iff.mp H
    obtain ⟨⟨t506, t507, t508⟩, A80, H⟩ := H
    replace H : ((wire_GetDigests.f k l0).bind fun bt511 => ((weirgatelaw01_sanity.f k).bind fun t516 => (if t516 = true then ((wire_Int.f k t495).bind fun t517 => ((weirgatelaw01_consumed.f l0 t517 t496 t497).bind fun t520 => (if t520 = true then ((wire_Bytes.f k t498).bind fun t521 => ((weirgatelaw01_consumed.f l0 t521 t499 t500).bind fun t524 => (if t524 = true then ((wire_Ints.f k t501).bind fun t525 => ((weirgatelaw01_consumed.f l0 t525 t502 t503).bind fun t528 => (if t528 = true then ((wire_Strings.f k t506).bind fun t529 => ((weirgatelaw01_consumed.f l0 t529 t507 t508).bind fun t532 => (if t532 = true then ((wire_Digests.f k bt511.1).bind fun t533 => ((weirgatelaw01_consumed.f l0 t533 bt511.2.1 bt511.2.2).bind fun t536 => (some t536))) else (none)))) else (none)))) else (none)))) else (none)))) else (none)))) = some r := H
    have A8 := Aside0.mk A80
    clear A80
    replace H := Option.bind_eq_some_iff.mp H
    obtain ⟨⟨t511, t512, t513⟩, A90, H⟩ := H
    replace H : ((weirgatelaw01_sanity.f k).bind fun t516 => (if t516 = true then ((wire_Int.f k t495).bind fun t517 => ((weirgatelaw01_consumed.f l0 t517 t496 t497).bind fun t520 => (if t520 = true then ((wire_Bytes.f k t498).bind fun t521 => ((weirgatelaw01_consumed.f l0 t521 t499 t500).bind fun t524 => (if t524 = true then ((wire_Ints.f k t501).bind fun t525 => ((weirgatelaw01_consumed.f l0 t525 t502 t503).bind fun t528 => (if t528 = true then ((wire_Strings.f k t506).bind fun t529 => ((weirgatelaw01_consumed.f l0 t529 t507 t508).bind fun t532 => (if t532 = true then ((wire_Digests.f k t511).bind fun t533 => ((weirgatelaw01_consumed.f l0 t533 t512 t513).bind fun t536 => (some t536))) else (none)))) else (none)))) else (none)))) else (none)))) else (none))) = some r := H
    have A9 := Aside0.mk A90
    clear A90
    replace H := Option.bind_eq_some_iff.mp H
    obtain ⟨t516, A100, H⟩ := H
    replace H : (if t516 = true then ((wire_Int.f k t495).bind fun t517 => ((weirgatelaw01_consumed.f l0 t517 t496 t497).bind fun t520 => (if t520 = true then ((wire_Bytes.f k t498).bind fun t521 => ((weirgatelaw01_consumed.f l0 t521 t499 t500).bind fun t524 => (if t524 = true then ((wire_Ints.f k t501).bind fun t525 => ((weirgatelaw01_consumed.f l0 t525 t502 t503).bind fun t528 => (if t528 = true then ((wire_Strings.f k t506).bind fun t529 => ((weirgatelaw01_consumed.f l0 t529 t507 t508).bind fun t532 => (if t532 = true then ((wire_Digests.f k t511).bind fun t533 => ((weirgatelaw01_consumed.f l0 t533 t512 t513).bind fun t536 => (some t536))) else (none)))) else (none)))) else (none)))) else (none)))) else (none)) = some r := H
    have A10 := Aside0.mk A100
    clear A100
    by_cases c11 : t516 = true
    · subst c11
      have H1 : ((wire_Int.f k t495).bind fun t517 => ((weirgatelaw01_consumed.f l0 t517 t496 t497).bind fun t520 => (if t520 = true then ((wire_Bytes.f k t498).bind fun t521 => ((weirgatelaw01_consumed.f l0 t521 t499 t500).bind fun t524 => (if t524 = true then ((wire_Ints.f k t501).bind fun t525 => ((weirgatelaw01_consumed.f l0 t525 t502 t503).bind fun t528 => (if t528 = true then ((wire_Strings.f k t506).bind fun t529 => ((weirgatelaw01_consumed.f l0 t529 t507 t508).bind fun t532 => (if t532 = true then ((wire_Digests.f k t511).bind fun t533 => ((weirgatelaw01_consumed.f l0 t533 t512 t513).bind fun t536 => (some t536))) else (none)))) else (none)))) else (none)))) else (none)))) = some r := by rw [if_pos rfl] at H; exact H
      clear H
      have H := H1
      clear H1
      replace H := Option.bind_eq_some_iff.mp H
      obtain ⟨t517, A120, H⟩ := H
      replace H : ((weirgatelaw01_consumed.f l0 t517 t496 t497).bind fun t520 => (if t520 = true then ((wire_Bytes.f k t498).bind fun t521 => ((weirgatelaw01_consumed.f l0 t521 t499 t500).bind fun t524 => (if t524 = true then ((wire_Ints.f k t501).bind fun t525 => ((weirgatelaw01_consumed.f l0 t525 t502 t503).bind fun t528 => (if t528 = true then ((wire_Strings.f k t506).bind fun t529 => ((weirgatelaw01_consumed.f l0 t529 t507 t508).bind fun t532 => (if t532 = true then ((wire_Digests.f k t511).bind fun t533 => ((weirgatelaw01_consumed.f l0 t533 t512 t513).bind fun t536 => (some t536))) else (none)))) else (none)))) else (none)))) else (none))) = some r := H
      have A12 := Aside0.mk A120
      clear A120
      replace H := Option.bind_eq_some_iff.mp H
      obtain ⟨t520, A130, H⟩ := H
      replace H : (if t520 = true then ((wire_Bytes.f k t498).bind fun t521 => ((weirgatelaw01_consumed.f l0 t521 t499 t500).bind fun t524 => (if t524 = true then ((wire_Ints.f k t501).bind fun t525 => ((weirgatelaw01_consumed.f l0 t525 t502 t503).bind fun t528 => (if t528 = true then ((wire_Strings.f k t506).bind fun t529 => ((weirgatelaw01_consumed.f l0 t529 t507 t508).bind fun t532 => (if t532 = true then ((wire_Digests.f k t511).bind fun t533 => ((weirgatelaw01_consumed.f l0 t533 t512 t513).bind fun t536 => (some t536))) else (none)))) else (none)))) else (none)))) else (none)) = some r := H
      have A13 := Aside0.mk A130
      clear A130
      by_cases c14 : t520 = true
      · subst c14
        have H1 : ((wire_Bytes.f k t498).bind fun t521 => ((weirgatelaw01_consumed.f l0 t521 t499 t500).bind fun t524 => (if t524 = true then ((wire_Ints.f k t501).bind fun t525 => ((weirgatelaw01_consumed.f l0 t525 t502 t503).bind fun t528 => (if t528 = true then ((wire_Strings.f k t506).bind fun t529 => ((weirgatelaw01_consumed.f l0 t529 t507 t508).bind fun t532 => (if t532 = true then ((wire_Digests.f k t511).bind fun t533 => ((weirgatelaw01_consumed.f l0 t533 t512 t513).bind fun t536 => (some t536))) else (none)))) else (none)))) else (none)))) = some r := by rw [if_pos rfl] at H; exact H
        clear H
        have H := H1
        clear H1
        replace H := Option.bind_eq_some_iff.mp H
        obtain ⟨t521, A150, H⟩ := H
        replace H : ((weirgatelaw01_consumed.f l0 t521 t499 t500).bind fun t524 => (if t524 = true then ((wire_Ints.f k t501).bind fun t525 => ((weirgatelaw01_consumed.f l0 t525 t502 t503).bind fun t528 => (if t528 = true then ((wire_Strings.f k t506).bind fun t529 => ((weirgatelaw01_consumed.f l0 t529 t507 t508).bind fun t532 => (if t532 = true then ((wire_Digests.f k t511).bind fun t533 => ((weirgatelaw01_consumed.f l0 t533 t512 t513).bind fun t536 => (some t536))) else (none)))) else (none)))) else (none))) = some r := H
        have A15 := Aside0.mk A150
        clear A150
        replace H := Option.bind_eq_some_iff.mp H
        obtain ⟨t524, A160, H⟩ := H
        replace H : (if t524 = true then ((wire_Ints.f k t501).bind fun t525 => ((weirgatelaw01_consumed.f l0 t525 t502 t503).bind fun t528 => (if t528 = true then ((wire_Strings.f k t506).bind fun t529 => ((weirgatelaw01_consumed.f l0 t529 t507 t508).bind fun t532 => (if t532 = true then ((wire_Digests.f k t511).bind fun t533 => ((weirgatelaw01_consumed.f l0 t533 t512 t513).bind fun t536 => (some t536))) else (none)))) else (none)))) else (none)) = some r := H
        have A16 := Aside0.mk A160
        clear A160
        by_cases c17 : t524 = true
        · subst c17
          have H1 : ((wire_Ints.f k t501).bind fun t525 => ((weirgatelaw01_consumed.f l0 t525 t502 t503).bind fun t528 => (if t528 = true then ((wire_Strings.f k t506).bind fun t529 => ((weirgatelaw01_consumed.f l0 t529 t507 t508).bind fun t532 => (if t532 = true then ((wire_Digests.f k t511).bind fun t533 => ((weirgatelaw01_consumed.f l0 t533 t512 t513).bind fun t536 => (some t536))) else (none)))) else (none)))) = some r := by rw [if_pos rfl] at H; exact H
          clear H
          have H := H1
          clear H1
          replace H := Option.bind_eq_some_iff.mp H
          obtain ⟨t525, A180, H⟩ := H
          replace H : ((weirgatelaw01_consumed.f l0 t525 t502 t503).bind fun t528 => (if t528 = true then ((wire_Strings.f k t506).bind fun t529 => ((weirgatelaw01_consumed.f l0 t529 t507 t508).bind fun t532 => (if t532 = true then ((wire_Digests.f k t511).bind fun t533 => ((weirgatelaw01_consumed.f l0 t533 t512 t513).bind fun t536 => (some t536))) else (none)))) else (none))) = some r := H
          have A18 := Aside0.mk A180
          clear A180
          replace H := Option.bind_eq_some_iff.mp H
          obtain ⟨t528, A190, H⟩ := H
          replace H : (if t528 = true then ((wire_Strings.f k t506).bind fun t529 => ((weirgatelaw01_consumed.f l0 t529 t507 t508).bind fun t532 => (if t532 = true then ((wire_Digests.f k t511).bind fun t533 => ((weirgatelaw01_consumed.f l0 t533 t512 t513).bind fun t536 => (some t536))) else (none)))) else (none)) = some r := H
          have A19 := Aside0.mk A190
          clear A190
          by_cases c20 : t528 = true
          · subst c20
            have H1 : ((wire_Strings.f k t506).bind fun t529 => ((weirgatelaw01_consumed.f l0 t529 t507 t508).bind fun t532 => (if t532 = true then ((wire_Digests.f k t511).bind fun t533 => ((weirgatelaw01_consumed.f l0 t533 t512 t513).bind fun t536 => (some t536))) else (none)))) = some r := by rw [if_pos rfl] at H; exact H
            clear H
            have H := H1
            clear H1
            replace H := Option.bind_eq_some_iff.mp H
            obtain ⟨t529, A210, H⟩ := H
            replace H : ((weirgatelaw01_consumed.f l0 t529 t507 t508).bind fun t532 => (if t532 = true then ((wire_Digests.f k t511).bind fun t533 => ((weirgatelaw01_consumed.f l0 t533 t512 t513).bind fun t536 => (some t536))) else (none))) = some r := H
            have A21 := Aside0.mk A210
            clear A210
            replace H := Option.bind_eq_some_iff.mp H
            obtain ⟨t532, A220, H⟩ := H
            replace H : (if t532 = true then ((wire_Digests.f k t511).bind fun t533 => ((weirgatelaw01_consumed.f l0 t533 t512 t513).bind fun t536 => (some t536))) else (none)) = some r := H
            have A22 := Aside0.mk A220
            clear A220
            by_cases c23 : t532 = true
            · subst c23
              have H1 : ((wire_Digests.f k t511).bind fun t533 => ((weirgatelaw01_consumed.f l0 t533 t512 t513).bind fun t536 => (some t536))) = some r := by rw [if_pos rfl] at H; exact H
              clear H
              have H := H1
              clear H1
              replace H := Option.bind_eq_some_iff.mp H
              obtain ⟨t533, A240, H⟩ := H
              replace H : ((weirgatelaw01_consumed.f l0 t533 t512 t513).bind fun t536 => (some t536)) = some r := H
              have A24 := Aside0.mk A240
              clear A240
              replace H := Option.bind_eq_some_iff.mp H
              obtain ⟨t536, A250, H⟩ := H
              replace H : (some t536) = some r := H
              have A25 := Aside0.mk A250
              clear A250
              obtain rfl := Option.some.inj H
              go_enter Try.func7, Try.ntmps7
              (try dsimp only [List.append] at *)
              go_wp2_with (first | ((with_reducible refine gate_callee (f := 24) rfl ?_); refine goesL_ (some 24) rfl rfl Try.func24 (by kernel_rfl) rfl #[.slice A0 l0.length c0] rfl (by (try simp only [List.map_toArray, List.map_cons, List.map_nil]); first | done | rfl | (simp only [List.length_drop, List.length_take]; rfl)) ?_; (with_reducible refine (wire_GetInt.calls k _ _ l0 t495 t496 t497 _ ?side1 ?side2 A5.out).mono ?_); (case side1 => repeat (first | exact HR0.out | (with_reducible refine Kd.C_alloc ?_ _) | (with_reducible refine Kd.C_drewN ?_ _) | (with_reducible refine Kd.C_drew ?_))); (case side2 => exact HC0.out); rintro e w' ⟨rfl, ⟨nd, rfl⟩⟩; refine ⟨_, rfl, ?_⟩) | ((with_reducible refine gate_callee (f := 26) rfl ?_); refine goesL_ (some 30) rfl rfl Try.func26 (by kernel_rfl) rfl #[.slice A0 l0.length c0] rfl (by (try simp only [List.map_toArray, List.map_cons, List.map_nil]); first | done | rfl | (simp only [List.length_drop, List.length_take]; rfl)) ?_; (with_reducible refine (wire_GetBytes.calls k _ _ l0 t498 t499 t500 _ ?side1 ?side2 A6.out).mono ?_); (case side1 => repeat (first | exact HR0.out | (with_reducible refine Kd.C_alloc ?_ _) | (with_reducible refine Kd.C_drewN ?_ _) | (with_reducible refine Kd.C_drew ?_))); (case side2 => exact HC0.out); rintro e w' ⟨rfl, ⟨nd, rfl⟩⟩; refine ⟨_, rfl, ?_⟩) | ((with_reducible refine gate_callee (f := 28) rfl ?_); refine goesL_ (some 36) rfl rfl Try.func28 (by kernel_rfl) rfl #[.slice A0 l0.length c0] rfl (by (try simp only [List.map_toArray, List.map_cons, List.map_nil]); first | done | rfl | (simp only [List.length_drop, List.length_take]; rfl)) ?_; (with_reducible refine (wire_GetInts.calls k _ _ l0 t501 t502 t503 _ ?side1 ?side2 A7.out).mono ?_); (case side1 => repeat (first | exact HR0.out | (with_reducible refine Kd.C_alloc ?_ _) | (with_reducible refine Kd.C_drewN ?_ _) | (with_reducible refine Kd.C_drew ?_))); (case side2 => exact HC0.out); rintro e w26 ⟨v504, rfl, ho0, hb⟩; refine ⟨_, rfl, ?_⟩; have n0_ := Aside0.mk (Kd.R_lower ho0 (below_size (bk HB.out))); have n1_ := Aside0.mk (below_step (bk HB.out) hb); clear HB; have HO505 := n0_; have HB := n1_; clear n0_ n1_; (try clear hb); (try clear hb2); (try clear hk); (try clear hi); (try clear ho0)) | ((with_reducible refine gate_callee (f := 31) rfl ?_); refine goesL_ (some 42) rfl rfl Try.func31 (by kernel_rfl) rfl #[.slice A0 l0.length c0] rfl (by (try simp only [List.map_toArray, List.map_cons, List.map_nil]); first | done | rfl | (simp only [List.length_drop, List.length_take]; rfl)) ?_; (with_reducible refine (wire_GetStrings.calls k _ _ l0 t506 t507 t508 _ ?side1 ?side2 A8.out).mono ?_); (case side1 => repeat (first | exact (Kd.C_below HR0.out HB.out) | (with_reducible refine Kd.C_alloc ?_ _) | (with_reducible refine Kd.C_drewN ?_ _) | (with_reducible refine Kd.C_drew ?_))); (case side2 => exact HC0.out); rintro e w27 ⟨v509, rfl, ho0, hb⟩; refine ⟨_, rfl, ?_⟩; have n0_ := Aside0.mk (Kd.R_below (rk HO505.out) hb); have n1_ := Aside0.mk (Kd.R_lower ho0 (below_size (bk HB.out))); have n2_ := Aside0.mk (below_step (bk HB.out) hb); clear HO505 HB; have HO505 := n0_; have HO510 := n1_; have HB := n2_; clear n0_ n1_ n2_; (try clear hb); (try clear hb2); (try clear hk); (try clear hi); (try clear ho0)) | ((with_reducible refine gate_callee (f := 34) rfl ?_); refine goesL_ (some 48) rfl rfl Try.func34 (by kernel_rfl) rfl #[.slice A0 l0.length c0] rfl (by (try simp only [List.map_toArray, List.map_cons, List.map_nil]); first | done | rfl | (simp only [List.length_drop, List.length_take]; rfl)) ?_; (with_reducible refine (wire_GetDigests.calls k _ _ l0 t511 t512 t513 _ ?side1 ?side2 A9.out).mono ?_); (case side1 => repeat (first | exact (Kd.C_below HR0.out HB.out) | (with_reducible refine Kd.C_alloc ?_ _) | (with_reducible refine Kd.C_drewN ?_ _) | (with_reducible refine Kd.C_drew ?_))); (case side2 => exact HC0.out); rintro e w28 ⟨v514, rfl, ho0, hb⟩; refine ⟨_, rfl, ?_⟩; have n0_ := Aside0.mk (Kd.R_below (rk HO505.out) hb); have n1_ := Aside0.mk (Kd.R_below (rk HO510.out) hb); have n2_ := Aside0.mk (Kd.R_lower ho0 (below_size (bk HB.out))); have n3_ := Aside0.mk (below_step (bk HB.out) hb); clear HO505 HO510 HB; have HO505 := n0_; have HO510 := n1_; have HO515 := n2_; have HB := n3_; clear n0_ n1_ n2_ n3_; (try clear hb); (try clear hb2); (try clear hk); (try clear hi); (try clear ho0)) | ((with_reducible refine gate_callee (f := 12) rfl ?_); refine goesL_ (some 52) rfl rfl Try.func12 (by kernel_rfl) rfl #[] rfl (by (try simp only [List.map_toArray, List.map_cons, List.map_nil]); first | done | rfl | (simp only [List.length_drop, List.length_take]; rfl)) ?_; (with_reducible refine (weirgatelaw01_sanity.calls k  true _ A10.out).mono ?_); rintro e w29 ⟨rfl, hb⟩; refine ⟨_, rfl, ?_⟩; have n0_ := Aside0.mk (Kd.R_below (rk HO505.out) hb); have n1_ := Aside0.mk (Kd.R_below (rk HO510.out) hb); have n2_ := Aside0.mk (Kd.R_below (rk HO515.out) hb); have n3_ := Aside0.mk (below_step (bk HB.out) hb); clear HO505 HO510; clear HO515 HB; have HO505 := n0_; have HO510 := n1_; have HO515 := n2_; have HB := n3_; clear n0_ n1_ n2_ n3_; (try clear hb); (try clear hb2); (try clear hk); (try clear hi)) | (go_at_call 14; (with_reducible refine (wire_Int.calls k t495 t517 _ A12.out).mono ?_); rintro e w30 ⟨v518, rfl, ho0, hb⟩; have n0_ := Aside0.mk (Kd.R_below (rk HO505.out) hb); have n1_ := Aside0.mk (Kd.R_below (rk HO510.out) hb); have n2_ := Aside0.mk (Kd.R_below (rk HO515.out) hb); have n3_ := Aside0.mk (Kd.R_lower ho0 (below_size (bk HB.out))); have n4_ := Aside0.mk (below_step (bk HB.out) hb); clear HO505 HO510; clear HO515 HB; have HO505 := n0_; have HO510 := n1_; have HO515 := n2_; have HO519 := n3_; have HB := n4_; clear n0_ n1_ n2_ n3_ n4_; (try clear hb); (try clear hb2); (try clear hk); (try clear hi); (try clear ho0); obtain ⟨Ao31, co31, eo31⟩ := Kd.R_slice HO519.out; subst eo31) | (go_at_call 37; (with_reducible refine (weirgatelaw01_consumed.calls _ _ l0 _ _ t517 t496 t497 true _ ?side1 ?side2 ?side3 ?side4 A13.out).mono ?_); (case side1 => repeat (first | exact (Kd.C_below HR0.out HB.out) | (with_reducible refine Kd.C_alloc ?_ _) | (with_reducible refine Kd.C_drewN ?_ _) | (with_reducible refine Kd.C_drew ?_))); (case side2 => exact HC0.out); (case side3 => repeat (first | exact (Kd.R_reads' HO519.out).2.2 | (with_reducible refine Kd.C_alloc ?_ _) | (with_reducible refine Kd.C_drewN ?_ _) | (with_reducible refine Kd.C_drew ?_))); (case side4 => exact (Kd.R_reads' HO519.out).2.1); rintro e w32 ⟨rfl, hb⟩; have n0_ := Aside0.mk (Kd.R_below (rk HO505.out) hb); have n1_ := Aside0.mk (Kd.R_below (rk HO510.out) hb); have n2_ := Aside0.mk (Kd.R_below (rk HO515.out) hb); have n3_ := Aside0.mk (Kd.R_below (rk HO519.out) hb); have n4_ := Aside0.mk (below_step (bk HB.out) hb); clear HO505 HO510; clear HO515 HO519 HB; have HO505 := n0_; have HO510 := n1_; have HO515 := n2_; have HO519 := n3_; have HB := n4_; clear n0_ n1_ n2_ n3_ n4_; (try clear hb); (try clear hb2); (try clear hk); (try clear hi)) | (go_at_call 16; (with_reducible refine (wire_Bytes.calls k t498 t521 _ A15.out).mono ?_); rintro e w33 ⟨v522, rfl, ho0, hb⟩; have n0_ := Aside0.mk (Kd.R_below (rk HO505.out) hb); have n1_ := Aside0.mk (Kd.R_below (rk HO510.out) hb); have n2_ := Aside0.mk (Kd.R_below (rk HO515.out) hb); have n3_ := Aside0.mk (Kd.R_elder' (rk HO519.out) (Kd.R_base ho0) hb); have n4_ := Aside0.mk (Kd.R_lower (Kd.R_new' ho0 (Kd.R_lt (rk HO519.out))) (below_size (bk HB.out))); have n5_ := Aside0.mk (below_step (bk HB.out) hb); clear HO505 HO510; clear HO515 HO519 HB; have HO505 := n0_; have HO510 := n1_; have HO515 := n2_; have HO519 := n3_; have HO523 := n4_; have HB := n5_; clear n0_ n1_ n2_ n3_ n4_ n5_; (try clear hb); (try clear hb2); (try clear hk); (try clear hi); (try clear ho0); obtain ⟨Ao34, co34, eo34⟩ := Kd.R_slice HO523.out; subst eo34) | (go_at_call 37; (with_reducible refine (weirgatelaw01_consumed.calls _ _ l0 _ _ t521 t499 t500 true _ ?side1 ?side2 ?side3 ?side4 A16.out).mono ?_); (case side1 => repeat (first | exact (Kd.C_below HR0.out HB.out) | (with_reducible refine Kd.C_alloc ?_ _) | (with_reducible refine Kd.C_drewN ?_ _) | (with_reducible refine Kd.C_drew ?_))); (case side2 => exact HC0.out); (case side3 => repeat (first | exact (Kd.R_reads' HO523.out).2.2 | (with_reducible refine Kd.C_alloc ?_ _) | (with_reducible refine Kd.C_drewN ?_ _) | (with_reducible refine Kd.C_drew ?_))); (case side4 => exact (Kd.R_reads' HO523.out).2.1); rintro e w35 ⟨rfl, hb⟩; have n0_ := Aside0.mk (Kd.R_below (rk HO505.out) hb); have n1_ := Aside0.mk (Kd.R_below (rk HO510.out) hb); have n2_ := Aside0.mk (Kd.R_below (rk HO515.out) hb); have n3_ := Aside0.mk (Kd.R_below (rk HO519.out) hb); have n4_ := Aside0.mk (Kd.R_below (rk HO523.out) hb); have n5_ := Aside0.mk (below_step (bk HB.out) hb); clear HO505 HO510; clear HO515 HO519; clear HO523 HB; have HO505 := n0_; have HO510 := n1_; have HO515 := n2_; have HO519 := n3_; have HO523 := n4_; have HB := n5_; clear n0_ n1_ n2_ n3_ n4_ n5_; (try clear hb); (try clear hb2); (try clear hk); (try clear hi); obtain ⟨Ao36, co36, eo36⟩ := Kd.R_slice HO505.out; subst eo36) | (go_at_call 18; (with_reducible refine (wire_Ints.calls k _ _ t501 t525 _ ?side1 ?side2 A18.out).mono ?_); (case side1 => repeat (first | exact (Kd.R_reads' HO505.out).2.2 | (with_reducible refine Kd.C_alloc ?_ _) | (with_reducible refine Kd.C_drewN ?_ _) | (with_reducible refine Kd.C_drew ?_))); (case side2 => exact (Kd.R_reads' HO505.out).2.1); rintro e w37 ⟨v526, rfl, ho0, hb⟩; have n0_ := Aside0.mk (Kd.R_below (rk HO505.out) hb); have n1_ := Aside0.mk (Kd.R_below (rk HO510.out) hb); have n2_ := Aside0.mk (Kd.R_below (rk HO515.out) hb); have n3_ := Aside0.mk (Kd.R_elder' (rk HO519.out) (Kd.R_base ho0) hb); have n4_ := Aside0.mk (Kd.R_elder' (rk HO523.out) (Kd.R_base ho0) hb); have n5_ := Aside0.mk (Kd.R_lower (Kd.R_new' (Kd.R_new' ho0 (Kd.R_lt (rk HO519.out))) (Kd.R_lt (rk HO523.out))) (below_size (bk HB.out))); have n6_ := Aside0.mk (below_step (bk HB.out) hb); clear HO505 HO510; clear HO515 HO519; clear HO523 HB; have HO505 := n0_; have HO510 := n1_; have HO515 := n2_; have HO519 := n3_; have HO523 := n4_; have HO527 := n5_; have HB := n6_; clear n0_ n1_ n2_ n3_ n4_ n5_ n6_; (try clear hb); (try clear hb2); (try clear hk); (try clear hi); (try clear ho0); obtain ⟨Ao38, co38, eo38⟩ := Kd.R_slice HO527.out; subst eo38) | (go_at_call 37; (with_reducible refine (weirgatelaw01_consumed.calls _ _ l0 _ _ t525 t502 t503 true _ ?side1 ?side2 ?side3 ?side4 A19.out).mono ?_); (case side1 => repeat (first | exact (Kd.C_below HR0.out HB.out) | (with_reducible refine Kd.C_alloc ?_ _) | (with_reducible refine Kd.C_drewN ?_ _) | (with_reducible refine Kd.C_drew ?_))); (case side2 => exact HC0.out); (case side3 => repeat (first | exact (Kd.R_reads' HO527.out).2.2 | (with_reducible refine Kd.C_alloc ?_ _) | (with_reducible refine Kd.C_drewN ?_ _) | (with_reducible refine Kd.C_drew ?_))); (case side4 => exact (Kd.R_reads' HO527.out).2.1); rintro e w39 ⟨rfl, hb⟩; have n0_ := Aside0.mk (Kd.R_below (rk HO505.out) hb); have n1_ := Aside0.mk (Kd.R_below (rk HO510.out) hb); have n2_ := Aside0.mk (Kd.R_below (rk HO515.out) hb); have n3_ := Aside0.mk (Kd.R_below (rk HO519.out) hb); have n4_ := Aside0.mk (Kd.R_below (rk HO523.out) hb); have n5_ := Aside0.mk (Kd.R_below (rk HO527.out) hb); have n6_ := Aside0.mk (below_step (bk HB.out) hb); clear HO505 HO510; clear HO515 HO519; clear HO523 HO527 HB; have HO505 := n0_; have HO510 := n1_; have HO515 := n2_; have HO519 := n3_; have HO523 := n4_; have HO527 := n5_; have HB := n6_; clear n0_ n1_ n2_ n3_ n4_ n5_ n6_; (try clear hb); (try clear hb2); (try clear hk); (try clear hi); obtain ⟨Ao40, co40, eo40⟩ := Kd.R_slice HO510.out; subst eo40) | (go_at_call 20; (with_reducible refine (wire_Strings.calls k _ _ t506 t529 _ ?side1 ?side2 A21.out).mono ?_); (case side1 => repeat (first | exact (Kd.R_reads' HO510.out).2.2 | (with_reducible refine Kd.C_alloc ?_ _) | (with_reducible refine Kd.C_drewN ?_ _) | (with_reducible refine Kd.C_drew ?_))); (case side2 => exact (Kd.R_reads' HO510.out).2.1); rintro e w41 ⟨v530, rfl, ho0, hb⟩; have n0_ := Aside0.mk (Kd.R_below (rk HO505.out) hb); have n1_ := Aside0.mk (Kd.R_below (rk HO510.out) hb); have n2_ := Aside0.mk (Kd.R_below (rk HO515.out) hb); have n3_ := Aside0.mk (Kd.R_elder' (rk HO519.out) (Kd.R_base ho0) hb); have n4_ := Aside0.mk (Kd.R_elder' (rk HO523.out) (Kd.R_base ho0) hb); have n5_ := Aside0.mk (Kd.R_elder' (rk HO527.out) (Kd.R_base ho0) hb); have n6_ := Aside0.mk (Kd.R_lower (Kd.R_new' (Kd.R_new' (Kd.R_new' ho0 (Kd.R_lt (rk HO519.out))) (Kd.R_lt (rk HO523.out))) (Kd.R_lt (rk HO527.out))) (below_size (bk HB.out))); have n7_ := Aside0.mk (below_step (bk HB.out) hb); clear HO505 HO510; clear HO515 HO519; clear HO523 HO527 HB; have HO505 := n0_; have HO510 := n1_; have HO515 := n2_; have HO519 := n3_; have HO523 := n4_; have HO527 := n5_; have HO531 := n6_; have HB := n7_; clear n0_ n1_ n2_ n3_ n4_ n5_ n6_ n7_; (try clear hb); (try clear hb2); (try clear hk); (try clear hi); (try clear ho0); obtain ⟨Ao42, co42, eo42⟩ := Kd.R_slice HO531.out; subst eo42) | (go_at_call 37; (with_reducible refine (weirgatelaw01_consumed.calls _ _ l0 _ _ t529 t507 t508 true _ ?side1 ?side2 ?side3 ?side4 A22.out).mono ?_); (case side1 => repeat (first | exact (Kd.C_below HR0.out HB.out) | (with_reducible refine Kd.C_alloc ?_ _) | (with_reducible refine Kd.C_drewN ?_ _) | (with_reducible refine Kd.C_drew ?_))); (case side2 => exact HC0.out); (case side3 => repeat (first | exact (Kd.R_reads' HO531.out).2.2 | (with_reducible refine Kd.C_alloc ?_ _) | (with_reducible refine Kd.C_drewN ?_ _) | (with_reducible refine Kd.C_drew ?_))); (case side4 => exact (Kd.R_reads' HO531.out).2.1); rintro e w43 ⟨rfl, hb⟩; have n0_ := Aside0.mk (Kd.R_below (rk HO505.out) hb); have n1_ := Aside0.mk (Kd.R_below (rk HO510.out) hb); have n2_ := Aside0.mk (Kd.R_below (rk HO515.out) hb); have n3_ := Aside0.mk (Kd.R_below (rk HO519.out) hb); have n4_ := Aside0.mk (Kd.R_below (rk HO523.out) hb); have n5_ := Aside0.mk (Kd.R_below (rk HO527.out) hb); have n6_ := Aside0.mk (Kd.R_below (rk HO531.out) hb); have n7_ := Aside0.mk (below_step (bk HB.out) hb); clear HO505 HO510; clear HO515 HO519; clear HO523 HO527; clear HO531 HB; have HO505 := n0_; have HO510 := n1_; have HO515 := n2_; have HO519 := n3_; have HO523 := n4_; have HO527 := n5_; have HO531 := n6_; have HB := n7_; clear n0_ n1_ n2_ n3_ n4_ n5_ n6_ n7_; (try clear hb); (try clear hb2); (try clear hk); (try clear hi); obtain ⟨Ao44, co44, eo44⟩ := Kd.R_slice HO515.out; subst eo44) | (go_at_call 22; (with_reducible refine (wire_Digests.calls k _ _ t511 t533 _ ?side1 ?side2 A24.out).mono ?_); (case side1 => repeat (first | exact (Kd.R_reads' HO515.out).2.2 | (with_reducible refine Kd.C_alloc ?_ _) | (with_reducible refine Kd.C_drewN ?_ _) | (with_reducible refine Kd.C_drew ?_))); (case side2 => exact (Kd.R_reads' HO515.out).2.1); rintro e w45 ⟨v534, rfl, ho0, hb⟩; have n0_ := Aside0.mk (Kd.R_below (rk HO505.out) hb); have n1_ := Aside0.mk (Kd.R_below (rk HO510.out) hb); have n2_ := Aside0.mk (Kd.R_below (rk HO515.out) hb); have n3_ := Aside0.mk (Kd.R_elder' (rk HO519.out) (Kd.R_base ho0) hb); have n4_ := Aside0.mk (Kd.R_elder' (rk HO523.out) (Kd.R_base ho0) hb); have n5_ := Aside0.mk (Kd.R_elder' (rk HO527.out) (Kd.R_base ho0) hb); have n6_ := Aside0.mk (Kd.R_elder' (rk HO531.out) (Kd.R_base ho0) hb); have n7_ := Aside0.mk (Kd.R_lower (Kd.R_new' (Kd.R_new' (Kd.R_new' (Kd.R_new' ho0 (Kd.R_lt (rk HO519.out))) (Kd.R_lt (rk HO523.out))) (Kd.R_lt (rk HO527.out))) (Kd.R_lt (rk HO531.out))) (below_size (bk HB.out))); have n8_ := Aside0.mk (below_step (bk HB.out) hb); clear HO505 HO510; clear HO515 HO519; clear HO523 HO527; clear HO531 HB; have HO505 := n0_; have HO510 := n1_; have HO515 := n2_; have HO519 := n3_; have HO523 := n4_; have HO527 := n5_; have HO531 := n6_; have HO535 := n7_; have HB := n8_; clear n0_ n1_ n2_ n3_ n4_ n5_ n6_ n7_ n8_; (try clear hb); (try clear hb2); (try clear hk); (try clear hi); (try clear ho0); obtain ⟨Ao46, co46, eo46⟩ := Kd.R_slice HO535.out; subst eo46) | (go_at_call 37; (with_reducible refine (weirgatelaw01_consumed.calls _ _ l0 _ _ t533 t512 t513 t536 _ ?side1 ?side2 ?side3 ?side4 A25.out).mono ?_); (case side1 => repeat (first | exact (Kd.C_below HR0.out HB.out) | (with_reducible refine Kd.C_alloc ?_ _) | (with_reducible refine Kd.C_drewN ?_ _) | (with_reducible refine Kd.C_drew ?_))); (case side2 => exact HC0.out); (case side3 => repeat (first | exact (Kd.R_reads' HO535.out).2.2 | (with_reducible refine Kd.C_alloc ?_ _) | (with_reducible refine Kd.C_drewN ?_ _) | (with_reducible refine Kd.C_drew ?_))); (case side4 => exact (Kd.R_reads' HO535.out).2.1); rintro e w47 ⟨rfl, hb⟩; have n0_ := Aside0.mk (Kd.R_below (rk HO505.out) hb); have n1_ := Aside0.mk (Kd.R_below (rk HO510.out) hb); have n2_ := Aside0.mk (Kd.R_below (rk HO515.out) hb); have n3_ := Aside0.mk (Kd.R_below (rk HO519.out) hb); have n4_ := Aside0.mk (Kd.R_below (rk HO523.out) hb); have n5_ := Aside0.mk (Kd.R_below (rk HO527.out) hb); have n6_ := Aside0.mk (Kd.R_below (rk HO531.out) hb); have n7_ := Aside0.mk (Kd.R_below (rk HO535.out) hb); have n8_ := Aside0.mk (below_step (bk HB.out) hb); clear HO505 HO510; clear HO515 HO519; clear HO523 HO527; clear HO531 HO535 HB; have HO505 := n0_; have HO510 := n1_; have HO515 := n2_; have HO519 := n3_; have HO523 := n4_; have HO527 := n5_; have HO531 := n6_; have HO535 := n7_; have HB := n8_; clear n0_ n1_ n2_ n3_ n4_ n5_ n6_ n7_ n8_; (try clear hb); (try clear hb2); (try clear hk); (try clear hi)))
              go_ret
              exact ⟨by first | rfl | (simp [errW_none, errW_some] <;> rfl) | (simp [*, errW_none, errW_some] <;> rfl), bk HB.out⟩
            · replace c23 := Bool.eq_false_iff.mpr c23
              subst c23
              have H1 : (none) = some r := by rw [if_neg (show ¬ (false = true) by decide)] at H; exact H
              clear H
              have H := H1
              clear H1
              exact absurd H (by simp)
          · replace c20 := Bool.eq_false_iff.mpr c20
            subst c20
            have H1 : (none) = some r := by rw [if_neg (show ¬ (false = true) by decide)] at H; exact H
            clear H
            have H := H1
            clear H1
            exact absurd H (by simp)
        · replace c17 := Bool.eq_false_iff.mpr c17
          subst c17
          have H1 : (none) = some r := by rw [if_neg (show ¬ (false = true) by decide)] at H; exact H
          clear H
          have H := H1
          clear H1
          exact absurd H (by simp)
      · replace c14 := Bool.eq_false_iff.mpr c14
        subst c14
        have H1 : (none) = some r := by rw [if_neg (show ¬ (false = true) by decide)] at H; exact H
        clear H
        have H := H1
        clear H1
        exact absurd H (by simp)
    · replace c11 := Bool.eq_false_iff.mpr c11
      subst c11
      have H1 : (none) = some r := by rw [if_neg (show ¬ (false = true) by decide)] at H; exact H
      clear H
      have H := H1
      clear H1
      exact absurd H (by simp)

/-! ### weirgatelaw01_WireConcat: function 10 -/
def weirgatelaw01_WireConcat.j0 : Nat → ByteArray → List Int → List Int → ByteArray → Int → Bool → Option (Bool)
  | 0, _, _, _, _, _, _ => none
  | k + 1, x0, x1, x5, x6, x7, x41 => if x41 = true then (none) else (if 0 ≤ x7 then (if x7 ≤ (x5.length : Int) then ((wire_GetInts.f k (x5.drop (x7 : Int).toNat)).bind fun bt554 => ((weirgatelaw01_sanity.f k).bind fun t559 => (if t559 = true then (if x6.toList = x0.toList then ((weirgateref01_SameInts.f k bt554.1 x1).bind fun t560 => (if t560 = true then (if bt554.2.2 = 0 then (some ((wrap64 (x7 + bt554.2.1)) == (x5.length : Int))) else (none)) else (none))) else (none)) else (none)))) else (none)) else (none))
def weirgatelaw01_WireConcat.f (k : Nat) (a0 : ByteArray) (l1 : List Int) : Option (Bool) := if (wrap64 ((a0.size : Int) + (l1.length : Int))) > 2000 then ((weirgatelaw01_sanity.f k).bind fun t537 => (some t537)) else ((wire_Bytes.f k a0).bind fun t538 => ((wire_Ints.f k l1).bind fun t541 => (if t538.length + t541.length < 140737488355328 then ((some (t538 ++ t541 : List Int)).bind fun y544 => ((wire_GetBytes.f k y544).bind fun bt547 => (if bt547.2.2 = 0 then (if bt547.2.1 < 0 then (weirgatelaw01_WireConcat.j0 k a0 l1 y544 bt547.1 bt547.2.1 true) else (weirgatelaw01_WireConcat.j0 k a0 l1 y544 bt547.1 bt547.2.1 (decide (bt547.2.1 > (y544.length : Int))))) else (weirgatelaw01_WireConcat.j0 k a0 l1 y544 bt547.1 bt547.2.1 true)))) else (none))))
theorem weirgatelaw01_WireConcat.mono_l : ∀ k, (∀ y0 y1 y2 y3 y4 y5, LeO (weirgatelaw01_WireConcat.j0 k y0 y1 y2 y3 y4 y5) (weirgatelaw01_WireConcat.j0 (k + 1) y0 y1 y2 y3 y4 y5))
  | 0 => fun _ _ _ _ _ _ r h => by simp [weirgatelaw01_WireConcat.j0] at h
  | k + 1 => by
    have ih0 := weirgatelaw01_WireConcat.mono_l k
    · intro y0 y1 y2 y3 y4 y5
      unfold weirgatelaw01_WireConcat.j0
      repeat' first
      | (with_reducible exact ih0 _ _ _ _ _ _)
      | (with_reducible exact weirgatelaw01_sanity.mono _)
      | (with_reducible exact weirgateref01_SameInts.mono _ _ _)
      | (with_reducible exact wire_Bytes.mono _ _)
      | (with_reducible exact wire_GetBytes.mono _ _)
      | (with_reducible exact wire_GetInts.mono _ _)
      | (with_reducible exact wire_Ints.mono _ _)
      | (with_reducible exact LeO.refl _)
      | (with_reducible exact LeO.none _)
      | (with_reducible refine LeO.ite ?_ ?_)
      | (with_reducible refine LeO.bind ?_ (fun _ => ?_))
      | exact ih0 _ _ _ _ _ _
      | exact weirgatelaw01_sanity.mono _
      | exact weirgateref01_SameInts.mono _ _ _
      | exact wire_Bytes.mono _ _
      | exact wire_GetBytes.mono _ _
      | exact wire_GetInts.mono _ _
      | exact wire_Ints.mono _ _
      | exact LeO.none _
      | refine LeO.ite ?_ ?_
      | refine LeO.bind ?_ (fun _ => ?_)
theorem weirgatelaw01_WireConcat.mono : ∀ a0 a1 k, LeO (weirgatelaw01_WireConcat.f k a0 a1) (weirgatelaw01_WireConcat.f (k + 1) a0 a1) := by
  intro a0 a1 k
  have ih0 := weirgatelaw01_WireConcat.mono_l k
  unfold weirgatelaw01_WireConcat.f
  repeat' first
      | (with_reducible exact ih0 _ _ _ _ _ _)
      | (with_reducible exact weirgatelaw01_sanity.mono _)
      | (with_reducible exact weirgateref01_SameInts.mono _ _ _)
      | (with_reducible exact wire_Bytes.mono _ _)
      | (with_reducible exact wire_GetBytes.mono _ _)
      | (with_reducible exact wire_GetInts.mono _ _)
      | (with_reducible exact wire_Ints.mono _ _)
      | (with_reducible exact LeO.refl _)
      | (with_reducible exact LeO.none _)
      | (with_reducible refine LeO.ite ?_ ?_)
      | (with_reducible refine LeO.bind ?_ (fun _ => ?_))
      | exact ih0 _ _ _ _ _ _
      | exact weirgatelaw01_sanity.mono _
      | exact weirgateref01_SameInts.mono _ _ _
      | exact wire_Bytes.mono _ _
      | exact wire_GetBytes.mono _ _
      | exact wire_GetInts.mono _ _
      | exact wire_Ints.mono _ _
      | exact LeO.none _
      | refine LeO.ite ?_ ?_
      | refine LeO.bind ?_ (fun _ => ?_)
set_option maxHeartbeats 8000000 in
set_option maxRecDepth 100000 in
theorem weirgatelaw01_WireConcat.calls (k : Nat) (a0 : ByteArray) (A1 : Option Addr) (c1 : Nat) (l1 : List Int) (r : Bool) (w : World) (hr1 : Kd.C (Kd.int .i64) w A1 l1.length l1) (hc1 : l1.length ≤ c1) (h : weirgatelaw01_WireConcat.f k a0 l1 = some r) :
    Calls Try.prog 10 #[.string a0, .slice A1 l1.length c1] w fun e w' => e = .returned (.bool r) ∧ Below w.heap.size w w' := by
  have HR1 := Aside0.mk hr1
  have HC1 := Aside0.mk hc1
  clear hr1 hc1
  have HB := Aside0.mk (Below.refl w.heap.size w)
  have H : (if (wrap64 ((a0.size : Int) + (l1.length : Int))) > 2000 then ((weirgatelaw01_sanity.f k).bind fun t537 => (some t537)) else ((wire_Bytes.f k a0).bind fun t538 => ((wire_Ints.f k l1).bind fun t541 => (if t538.length + t541.length < 140737488355328 then ((some (t538 ++ t541 : List Int)).bind fun y544 => ((wire_GetBytes.f k y544).bind fun bt547 => (if bt547.2.2 = 0 then (if bt547.2.1 < 0 then (weirgatelaw01_WireConcat.j0 k a0 l1 y544 bt547.1 bt547.2.1 true) else (weirgatelaw01_WireConcat.j0 k a0 l1 y544 bt547.1 bt547.2.1 (decide (bt547.2.1 > (y544.length : Int))))) else (weirgatelaw01_WireConcat.j0 k a0 l1 y544 bt547.1 bt547.2.1 true)))) else (none))))) = some r := h
  clear h
  by_cases c3 : (wrap64 ((a0.size : Int) + (l1.length : Int))) > 2000
  · rw [if_pos c3] at H
    have c3b0 : decide (2000 < (wrap64 ((a0.size : Int) + (l1.length : Int)))) = true := decide_eq_true c3
    clear c3
    replace H := Option.bind_eq_some_iff.mp H
    obtain ⟨t537, A40, H⟩ := H
    replace H : (some t537) = some r := H
    have A4 := Aside0.mk A40
    clear A40
    obtain rfl := Option.some.inj H
    go_enter Try.func10, Try.ntmps10
    go_wp2_with (first | ((with_reducible refine gate_callee (f := 12) rfl ?_); refine goesL_ (some 18) rfl rfl Try.func12 (by kernel_rfl) rfl #[] rfl (by (try simp only [List.map_toArray, List.map_cons, List.map_nil]); first | done | rfl | (simp only [List.length_drop, List.length_take]; rfl)) ?_; (with_reducible refine (weirgatelaw01_sanity.calls k  t537 _ A4.out).mono ?_); rintro e w5 ⟨rfl, hb⟩; refine ⟨_, rfl, ?_⟩; have n0_ := Aside0.mk (below_step (bk HB.out) hb); clear HB; have HB := n0_; clear n0_; (try clear hb); (try clear hb2); (try clear hk); (try clear hi)))
    go_ret
    exact ⟨by first | rfl | (simp [errW_none, errW_some] <;> rfl) | (simp [*, errW_none, errW_some] <;> rfl), bk HB.out⟩
  · rw [if_neg c3] at H
    have c3b0 : decide (2000 < (wrap64 ((a0.size : Int) + (l1.length : Int)))) = false := decide_eq_false c3
    clear c3
    replace H := Option.bind_eq_some_iff.mp H
    obtain ⟨t538, A60, H⟩ := H
    replace H : ((wire_Ints.f k l1).bind fun t541 => (if t538.length + t541.length < 140737488355328 then ((some (t538 ++ t541 : List Int)).bind fun y544 => ((wire_GetBytes.f k y544).bind fun bt547 => (if bt547.2.2 = 0 then (if bt547.2.1 < 0 then (weirgatelaw01_WireConcat.j0 k a0 l1 y544 bt547.1 bt547.2.1 true) else (weirgatelaw01_WireConcat.j0 k a0 l1 y544 bt547.1 bt547.2.1 (decide (bt547.2.1 > (y544.length : Int))))) else (weirgatelaw01_WireConcat.j0 k a0 l1 y544 bt547.1 bt547.2.1 true)))) else (none))) = some r := H
    have A6 := Aside0.mk A60
    clear A60
    replace H := Option.bind_eq_some_iff.mp H
    obtain ⟨t541, A70, H⟩ := H
    replace H : (if t538.length + t541.length < 140737488355328 then ((some (t538 ++ t541 : List Int)).bind fun y544 => ((wire_GetBytes.f k y544).bind fun bt547 => (if bt547.2.2 = 0 then (if bt547.2.1 < 0 then (weirgatelaw01_WireConcat.j0 k a0 l1 y544 bt547.1 bt547.2.1 true) else (weirgatelaw01_WireConcat.j0 k a0 l1 y544 bt547.1 bt547.2.1 (decide (bt547.2.1 > (y544.length : Int))))) else (weirgatelaw01_WireConcat.j0 k a0 l1 y544 bt547.1 bt547.2.1 true)))) else (none)) = some r := H
    have A7 := Aside0.mk A70
    clear A70
    by_cases c8 : t538.length + t541.length < 140737488355328
    · rw [if_pos c8] at H
      have LMc8 := Aside0.mk c8
      clear c8
      obtain ⟨y544, hy544⟩ : ∃ y_ : List Int, y_ = (t538 ++ t541) := ⟨_, rfl⟩
      replace H : ((wire_GetBytes.f k y544).bind fun bt547 => (if bt547.2.2 = 0 then (if bt547.2.1 < 0 then (weirgatelaw01_WireConcat.j0 k a0 l1 y544 bt547.1 bt547.2.1 true) else (weirgatelaw01_WireConcat.j0 k a0 l1 y544 bt547.1 bt547.2.1 (decide (bt547.2.1 > (y544.length : Int))))) else (weirgatelaw01_WireConcat.j0 k a0 l1 y544 bt547.1 bt547.2.1 true))) = some r := by first | (rw [hy544]; with_reducible exact H) | (have H2_ := (Option.bind_some _ _).symm.trans H; rw [hy544]; with_reducible exact H2_) | (have H2_ := (Option.bind_some _ _).symm.trans H; with_reducible exact H2_) | with_reducible exact H | (rw [hy544]; exact H) | exact H
      have Ny544 := Aside0.mk hy544
      clear hy544
      replace H := Option.bind_eq_some_iff.mp H
      obtain ⟨⟨t547, t548, t549⟩, A90, H⟩ := H
      replace H : (if t549 = 0 then (if t548 < 0 then (weirgatelaw01_WireConcat.j0 k a0 l1 y544 t547 t548 true) else (weirgatelaw01_WireConcat.j0 k a0 l1 y544 t547 t548 (decide (t548 > (y544.length : Int))))) else (weirgatelaw01_WireConcat.j0 k a0 l1 y544 t547 t548 true)) = some r := H
      have A9 := Aside0.mk A90
      clear A90
      have HC10 := Aside0.mk H
      clear H
      go_enter Try.func10, Try.ntmps10
      go_upto_region 5 with (first | ((with_reducible refine gate_callee (f := 16) rfl ?_); refine goesL_ (some 20) rfl rfl Try.func16 (by kernel_rfl) rfl #[.string a0] rfl (by (try simp only [List.map_toArray, List.map_cons, List.map_nil]); first | done | rfl | (simp only [List.length_drop, List.length_take]; rfl)) ?_; (with_reducible refine (wire_Bytes.calls k a0 t538 _ A6.out).mono ?_); rintro e w11 ⟨v539, rfl, ho0, hb⟩; refine ⟨_, rfl, ?_⟩; have n0_ := Aside0.mk (Kd.R_lower ho0 (below_size (bk HB.out))); have n1_ := Aside0.mk (below_step (bk HB.out) hb); clear HB; have HO540 := n0_; have HB := n1_; clear n0_ n1_; (try clear hb); (try clear hb2); (try clear hk); (try clear hi); (try clear ho0)) | ((with_reducible refine gate_callee (f := 18) rfl ?_); refine goesL_ (some 22) rfl rfl Try.func18 (by kernel_rfl) rfl #[.slice A1 l1.length c1] rfl (by (try simp only [List.map_toArray, List.map_cons, List.map_nil]); first | done | rfl | (simp only [List.length_drop, List.length_take]; rfl)) ?_; (with_reducible refine (wire_Ints.calls k _ _ l1 t541 _ ?side1 ?side2 A7.out).mono ?_); (case side1 => repeat (first | exact (Kd.C_below HR1.out HB.out) | (with_reducible refine Kd.C_alloc ?_ _) | (with_reducible refine Kd.C_drewN ?_ _) | (with_reducible refine Kd.C_drew ?_))); (case side2 => exact HC1.out); rintro e w12 ⟨v542, rfl, ho0, hb⟩; refine ⟨_, rfl, ?_⟩; have n0_ := Aside0.mk (Kd.R_elder' (rk HO540.out) (Kd.R_base ho0) hb); have n1_ := Aside0.mk (Kd.R_lower (Kd.R_new' ho0 (Kd.R_lt (rk HO540.out))) (below_size (bk HB.out))); have n2_ := Aside0.mk (below_step (bk HB.out) hb); clear HO540 HB; have HO540 := n0_; have HO543 := n1_; have HB := n2_; clear n0_ n1_ n2_; (try clear hb); (try clear hb2); (try clear hk); (try clear hi); (try clear ho0); obtain ⟨Ao14, co14, eo14⟩ := Kd.R_slice HO543.out; subst eo14) | ((with_reducible refine gate_builtin (b := .append) (xs := #[.tmp 20, .tmp 22]) rfl ?_); (try (refine gate_guard (by rfl) ?_; dsimp only)); at_builtin; refine Kd.R_append_rows (Kd.int .u8) (w0 := w) w.heap.size rfl (.tmp 20) (.tmp 22) 28 5 (.int .u8 0) 1 rfl Try.underlying28 info5 rfl (by decide) (by omega) v539 t538 t541 _ _ _ (fun k_ => some k_ ≠ (.slice Ao14 t541.length co14 : Value).ownBlock) (fun _ => False) rfl rfl ?aO ?aR (fun _ _ h => h) (fun _ h => h.elim) ?aF ?aB ?aS ?aL ?_; (case aR => repeat (first | exact (Kd.R_reads' HO543.out).2.2 | (with_reducible refine Kd.C_alloc ?_ _) | (with_reducible refine Kd.C_drewN ?_ _) | (with_reducible refine Kd.C_drew ?_))); (case aB => exact (bk HB.out)); (case aF => exact (fun k_ hk => Kd.fresh' (Kd.R_lt (rk HO543.out)) k_ hk)); (case aO => exact (by (with_reducible repeat (first | apply Kd.R_alloc | apply Kd.R_drewN | apply Kd.R_drew)); exact Kd.R_mono HO540.out (fun _ hk => hk.2))); (case aS => exact (below_size (bk HB.out))); (case aL => have := LMc8.out; omega); intro v545 w13 ho hb hg hat; rw [← Ny544.out] at ho; have n0_ := Aside0.mk (Kd.R_after (ok := (fun _ => True)) (rk HO543.out) hg hat); have n1_ := Aside0.mk (hb); have n2_ := Aside0.mk (ho); clear HO543 HB HO540; have HO543 := n0_; have HB := n1_; have HO546 := n2_; clear n0_ n1_ n2_; clear ho hb hg hat; obtain ⟨Ao15, co15, eo15⟩ := Kd.R_slice HO546.out; subst eo15) | ((with_reducible refine gate_callee (f := 26) rfl ?_); refine goesL_ (some 26) rfl rfl Try.func26 (by kernel_rfl) rfl #[.slice Ao15 y544.length co15] rfl (by (try simp only [List.map_toArray, List.map_cons, List.map_nil]); first | done | rfl | (simp only [List.length_drop, List.length_take]; rfl)) ?_; (with_reducible refine (wire_GetBytes.calls k _ _ y544 t547 t548 t549 _ ?side1 ?side2 A9.out).mono ?_); (case side1 => repeat (first | exact (Kd.R_reads' HO546.out).2.2 | (with_reducible refine Kd.C_alloc ?_ _) | (with_reducible refine Kd.C_drewN ?_ _) | (with_reducible refine Kd.C_drew ?_))); (case side2 => exact (Kd.R_reads' HO546.out).2.1); rintro e w' ⟨rfl, ⟨nd, rfl⟩⟩; refine ⟨_, rfl, ?_⟩))
      (try simp only [Act.put, List.setIfInBounds_toArray, List.set_cons_zero, List.set_cons_succ])
      go_cut [41] (fun v41 wc => ∃ (kq : Nat) (x41_9 : Bool), v41 = .bool x41_9 ∧ Aside0 (weirgatelaw01_WireConcat.j0 kq a0 l1 y544 t547 t548 x41_9 = some r) ∧ Aside0 (kq ≤ k) ∧ Aside0 (Kd.R (Kd.int .u8) 5 wc w.heap.size (fun _ => True) (.slice Ao15 y544.length co15) y544) ∧ Aside0 (Below w.heap.size w wc))
      case first =>
        have H := HC10.out
        clear HC10
        by_cases c16 : t549 = 0
        · rw [if_pos c16] at H
          have c16b0 : (t549 == 0) = true := beq_iff_eq.mpr c16
          have c16b1 : (t549 != 0) = false := bne_eq_false_iff_eq.mpr c16
          clear c16
          (first | rw [c16b0] | (simp only [i64_w, i32_w]; rw [c16b0]) | skip)
          by_cases c17 : t548 < 0
          · rw [if_pos c17] at H
            have c17b0 : decide (t548 < 0) = true := decide_eq_true c17
            clear c17
            have H' := Aside0.mk H
            clear H
            go_wp2
            go_meet
            case rel => exact ⟨_, (true), (by first | rfl | (simp; done) | (simp [*]; done) | (simp only [show ∀ p : Prop, Aside0 p = p from fun p => propext ⟨Aside0.out, Aside0.mk⟩] at *; simp_all; done)), H', ⟨by first | omega | exact Nat.le_refl _⟩, ⟨by (with_reducible repeat (first | apply Kd.R_alloc | apply Kd.R_drewN | apply Kd.R_drew)); exact Kd.R_mono HO546.out (fun _ hk => trivial)⟩, ⟨bk HB.out⟩⟩
          · rw [if_neg c17] at H
            have c17b0 : decide (t548 < 0) = false := decide_eq_false c17
            clear c17
            have H' := Aside0.mk H
            clear H
            go_wp2
            go_meet
            case rel => exact ⟨_, (decide (t548 > (y544.length : Int))), (by first | rfl | (simp; done) | (simp [*]; done) | (simp only [show ∀ p : Prop, Aside0 p = p from fun p => propext ⟨Aside0.out, Aside0.mk⟩] at *; simp_all; done)), H', ⟨by first | omega | exact Nat.le_refl _⟩, ⟨by (with_reducible repeat (first | apply Kd.R_alloc | apply Kd.R_drewN | apply Kd.R_drew)); exact Kd.R_mono HO546.out (fun _ hk => trivial)⟩, ⟨bk HB.out⟩⟩
        · rw [if_neg c16] at H
          have c16b0 : (t549 == 0) = false := beq_eq_false_iff_ne.mpr c16
          have c16b1 : (t549 != 0) = true := bne_iff_ne.mpr c16
          (first | rw [c16b0] | (simp only [i64_w, i32_w]; rw [c16b0]) | skip)
          have H' := Aside0.mk H
          clear H
          go_wp2
          go_meet
          case rel => exact ⟨_, (true), (by first | rfl | (simp; done) | (simp [*]; done) | (simp only [show ∀ p : Prop, Aside0 p = p from fun p => propext ⟨Aside0.out, Aside0.mk⟩] at *; simp_all; done)), H', ⟨by first | omega | exact Nat.le_refl _⟩, ⟨by (with_reducible repeat (first | apply Kd.R_alloc | apply Kd.R_drewN | apply Kd.R_drew)); exact Kd.R_mono HO546.out (fun _ hk => trivial)⟩, ⟨bk HB.out⟩⟩
      case rest =>
        clear HC10
        try clear c1
        try clear c2
        try clear p2
        try clear c3
        try clear c3b0
        try clear p6
        try clear c8
        try clear c10
        try clear c12
        try clear c16
        try clear c16b0
        try clear c16b1
        try clear c17
        try clear c17b0
        obtain ⟨kq, x41_9, rfl, HA, HJ9, HO_5, HB⟩ := hcut
        cases kq with
        | zero => exact absurd HA.out (by simp [weirgatelaw01_WireConcat.j0])
        | succ kj9 =>
          have H := HA.out
          clear HA
          simp only [weirgatelaw01_WireConcat.j0] at H
          by_cases c18 : x41_9 = true
          · subst c18
            have H1 : (none) = some r := by rw [if_pos rfl] at H; exact H
            clear H
            have H := H1
            clear H1
            exact absurd H (by simp)
          · replace c18 := Bool.eq_false_iff.mpr c18
            subst c18
            have H1 : (if 0 ≤ t548 then (if t548 ≤ (y544.length : Int) then ((wire_GetInts.f kj9 (y544.drop (t548 : Int).toNat)).bind fun bt554 => ((weirgatelaw01_sanity.f kj9).bind fun t559 => (if t559 = true then (if t547.toList = a0.toList then ((weirgateref01_SameInts.f kj9 bt554.1 l1).bind fun t560 => (if t560 = true then (if bt554.2.2 = 0 then (some ((wrap64 (t548 + bt554.2.1)) == (y544.length : Int))) else (none)) else (none))) else (none)) else (none)))) else (none)) else (none)) = some r := by rw [if_neg (show ¬ (false = true) by decide)] at H; exact H
            clear H
            have H := H1
            clear H1
            by_cases c19 : 0 ≤ t548
            · rw [if_pos c19] at H
              have c19b0 := eq_true c19
              have c19b1 : decide (0 ≤ t548) = true := decide_eq_true c19
              clear c19
              by_cases c20 : t548 ≤ (y544.length : Int)
              · rw [if_pos c20] at H
                have c20b0 := eq_true c20
                have c20b1 : decide (t548 ≤ (y544.length : Int)) = true := decide_eq_true c20
                clear c20
                obtain ⟨y550, hy550⟩ : ∃ y_ : List Int, y_ = (y544.drop (t548 : Int).toNat) := ⟨_, rfl⟩
                replace H : ((wire_GetInts.f kj9 y550).bind fun bt554 => ((weirgatelaw01_sanity.f kj9).bind fun t559 => (if t559 = true then (if t547.toList = a0.toList then ((weirgateref01_SameInts.f kj9 bt554.1 l1).bind fun t560 => (if t560 = true then (if bt554.2.2 = 0 then (some ((wrap64 (t548 + bt554.2.1)) == (y544.length : Int))) else (none)) else (none))) else (none)) else (none)))) = some r := by first | (rw [hy550]; with_reducible exact H) | (have H2_ := (Option.bind_some _ _).symm.trans H; rw [hy550]; with_reducible exact H2_) | (have H2_ := (Option.bind_some _ _).symm.trans H; with_reducible exact H2_) | with_reducible exact H | (rw [hy550]; exact H) | exact H
                have Ny550 := Aside0.mk hy550
                clear hy550
                replace H := Option.bind_eq_some_iff.mp H
                obtain ⟨⟨t554, t555, t556⟩, A210, H⟩ := H
                replace H : ((weirgatelaw01_sanity.f kj9).bind fun t559 => (if t559 = true then (if t547.toList = a0.toList then ((weirgateref01_SameInts.f kj9 t554 l1).bind fun t560 => (if t560 = true then (if t556 = 0 then (some ((wrap64 (t548 + t555)) == (y544.length : Int))) else (none)) else (none))) else (none)) else (none))) = some r := H
                have A21 := Aside0.mk A210
                clear A210
                replace H := Option.bind_eq_some_iff.mp H
                obtain ⟨t559, A220, H⟩ := H
                replace H : (if t559 = true then (if t547.toList = a0.toList then ((weirgateref01_SameInts.f kj9 t554 l1).bind fun t560 => (if t560 = true then (if t556 = 0 then (some ((wrap64 (t548 + t555)) == (y544.length : Int))) else (none)) else (none))) else (none)) else (none)) = some r := H
                have A22 := Aside0.mk A220
                clear A220
                by_cases c23 : t559 = true
                · subst c23
                  have H1 : (if t547.toList = a0.toList then ((weirgateref01_SameInts.f kj9 t554 l1).bind fun t560 => (if t560 = true then (if t556 = 0 then (some ((wrap64 (t548 + t555)) == (y544.length : Int))) else (none)) else (none))) else (none)) = some r := by rw [if_pos rfl] at H; exact H
                  clear H
                  have H := H1
                  clear H1
                  by_cases c24 : t547.toList = a0.toList
                  · rw [if_pos c24] at H
                    have c24b0 : (t547.toList == a0.toList) = true := beq_iff_eq.mpr c24
                    have c24b1 : (t547.toList != a0.toList) = false := bne_eq_false_iff_eq.mpr c24
                    clear c24
                    replace H := Option.bind_eq_some_iff.mp H
                    obtain ⟨t560, A250, H⟩ := H
                    replace H : (if t560 = true then (if t556 = 0 then (some ((wrap64 (t548 + t555)) == (y544.length : Int))) else (none)) else (none)) = some r := H
                    have A25 := Aside0.mk A250
                    clear A250
                    by_cases c26 : t560 = true
                    · subst c26
                      have H1 : (if t556 = 0 then (some ((wrap64 (t548 + t555)) == (y544.length : Int))) else (none)) = some r := by rw [if_pos rfl] at H; exact H
                      clear H
                      have H := H1
                      clear H1
                      by_cases c27 : t556 = 0
                      · rw [if_pos c27] at H
                        have c27b0 : (t556 == 0) = true := beq_iff_eq.mpr c27
                        have c27b1 : (t556 != 0) = false := bne_eq_false_iff_eq.mpr c27
                        clear c27
                        obtain rfl := Option.some.inj H
                        have q28 : (t548 : Int) ≤ ((y544.length : Int) : Int) := of_decide_eq_true (by first | (with_reducible assumption) | assumption)
                        obtain ⟨i028, hi028, _, hsz28, _⟩ := info_parts info5
                        have hroom28 : y544.length ≤ co15 := (Kd.R_reads' HO_5.out).2.1
                        have hC28 : Kd.C (Kd.int .u8) _ Ao15 y544.length y544 := (Kd.R_reads' HO_5.out).2.2
                        have q028 : (0 : Int) ≤ (t548 : Int) := of_decide_eq_true (by first | (with_reducible assumption) | assumption)
                        have hcut28 := cut_from (P := Try.prog) 28 5 .i64 Try.underlying28 hi028 1 hsz28 Ao15 y544.length co15 t548 q028 q28
                        have hr28 := Kd.C_drop (m := (t548 : Int).toNat) (c := co15) hC28 (by omega) hroom28
                        obtain ⟨A28, hA28⟩ : ∃ A1, A1 = (if co15 = (t548 : Int).toNat then Ao15 else (Ao15 : Option Addr).map (·.add ((t548 : Int).toNat * 1))) := ⟨_, rfl⟩
                        obtain ⟨c28, hc28⟩ : ∃ c1, c1 = co15 - (t548 : Int).toNat := ⟨_, rfl⟩
                        have hy28 : y550.length = y544.length - (t548 : Int).toNat := (by rw [Ny550.out, List.length_drop] <;> omega)
                        rw [show (y544).drop (t548 : Int).toNat = y550 from Ny550.out.symm] at hr28
                        replace hr28 : Kd.C (Kd.int .u8) _ A28 y550.length y550 := (by rw [hA28]; exact hr28)
                        rw [← hy28, ← hA28, ← hc28] at hcut28
                        have HR553 := Aside0.mk hr28
                        have HC553 := Aside0.mk (show y550.length ≤ c28 from by rw [hy28, hc28]; exact Nat.sub_le_sub_right hroom28 _)
                        clear hr28 hC28 hroom28 hi028 hsz28 hc28
                        have KY28 := Aside0.mk hy28
                        have KA28 := Aside0.mk hA28
                        clear hy28 hA28
                        have KL28 := Aside0.mk (show (t548 : Int).toNat ≤ y544.length from by omega)
                        replace q28 := eq_true q28
                        go_wp2_with (first | ((with_reducible refine gate_callee (f := 28) rfl ?_); refine goesL_ (some 46) rfl rfl Try.func28 (by kernel_rfl) rfl #[.slice A28 y550.length c28] rfl (by (try simp only [List.map_toArray, List.map_cons, List.map_nil]); first | done | rfl | (simp only [List.length_drop, List.length_take]; rfl)) ?_; (with_reducible refine (wire_GetInts.calls kj9 _ _ y550 t554 t555 t556 _ ?side1 ?side2 A21.out).mono ?_); (case side1 => repeat (first | exact (by repeat (first | (with_reducible exact HR553.out) | (with_reducible refine Kd.C_alloc ?_ _) | (with_reducible refine Kd.C_drewN ?_ _) | (with_reducible refine Kd.C_drew ?_) | exact HR553.out)) | (with_reducible refine Kd.C_alloc ?_ _) | (with_reducible refine Kd.C_drewN ?_ _) | (with_reducible refine Kd.C_drew ?_))); (case side2 => exact HC553.out); rintro e w29 ⟨v557, rfl, ho0, hb⟩; refine ⟨_, rfl, ?_⟩; have n0_ := Aside0.mk (Kd.R_below (rk HO_5.out) hb); have n1_ := Aside0.mk (Kd.R_lower ho0 (below_size (bk HB.out))); have n2_ := Aside0.mk (Kd.C_below (by repeat (first | (with_reducible exact HR553.out) | (with_reducible refine Kd.C_alloc ?_ _) | (with_reducible refine Kd.C_drewN ?_ _) | (with_reducible refine Kd.C_drew ?_) | exact HR553.out)) hb); have n3_ := Aside0.mk (below_step (bk HB.out) hb); clear HO_5 HR553 HB; have HO_5 := n0_; have HO558 := n1_; have HR553 := n2_; have HB := n3_; clear n0_ n1_ n2_ n3_; (try clear hb); (try clear hb2); (try clear hk); (try clear hi); (try clear ho0)) | ((with_reducible refine gate_callee (f := 12) rfl ?_); refine goesL_ (some 50) rfl rfl Try.func12 (by kernel_rfl) rfl #[] rfl (by (try simp only [List.map_toArray, List.map_cons, List.map_nil]); first | done | rfl | (simp only [List.length_drop, List.length_take]; rfl)) ?_; (with_reducible refine (weirgatelaw01_sanity.calls kj9  true _ A22.out).mono ?_); rintro e w30 ⟨rfl, hb⟩; refine ⟨_, rfl, ?_⟩; have n0_ := Aside0.mk (Kd.R_below (rk HO_5.out) hb); have n1_ := Aside0.mk (Kd.R_below (rk HO558.out) hb); have n2_ := Aside0.mk (Kd.C_below (by repeat (first | (with_reducible exact HR553.out) | (with_reducible refine Kd.C_alloc ?_ _) | (with_reducible refine Kd.C_drewN ?_ _) | (with_reducible refine Kd.C_drew ?_) | exact HR553.out)) hb); have n3_ := Aside0.mk (below_step (bk HB.out) hb); clear HO_5 HO558; clear HR553 HB; have HO_5 := n0_; have HO558 := n1_; have HR553 := n2_; have HB := n3_; clear n0_ n1_ n2_ n3_; (try clear hb); (try clear hb2); (try clear hk); (try clear hi); obtain ⟨Ao31, co31, eo31⟩ := Kd.R_slice HO558.out; subst eo31) | (go_at_call 30; (with_reducible refine (weirgateref01_SameInts.calls kj9 _ _ t554 _ _ l1 true _ ?side1 ?side2 ?side3 ?side4 A25.out).mono ?_); (case side1 => repeat (first | exact (Kd.R_reads' HO558.out).2.2 | (with_reducible refine Kd.C_alloc ?_ _) | (with_reducible refine Kd.C_drewN ?_ _) | (with_reducible refine Kd.C_drew ?_))); (case side2 => exact (Kd.R_reads' HO558.out).2.1); (case side3 => repeat (first | exact (Kd.C_below HR1.out HB.out) | (with_reducible refine Kd.C_alloc ?_ _) | (with_reducible refine Kd.C_drewN ?_ _) | (with_reducible refine Kd.C_drew ?_))); (case side4 => exact HC1.out); rintro e w' ⟨rfl, ⟨nd, rfl⟩⟩))
                        go_ret
                        exact ⟨by first | rfl | (simp [errW_none, errW_some] <;> rfl) | (simp [*, errW_none, errW_some] <;> rfl), bk HB.out⟩
                      · rw [if_neg c27] at H
                        exact absurd H (by simp)
                    · replace c26 := Bool.eq_false_iff.mpr c26
                      subst c26
                      have H1 : (none) = some r := by rw [if_neg (show ¬ (false = true) by decide)] at H; exact H
                      clear H
                      have H := H1
                      clear H1
                      exact absurd H (by simp)
                  · rw [if_neg c24] at H
                    exact absurd H (by simp)
                · replace c23 := Bool.eq_false_iff.mpr c23
                  subst c23
                  have H1 : (none) = some r := by rw [if_neg (show ¬ (false = true) by decide)] at H; exact H
                  clear H
                  have H := H1
                  clear H1
                  exact absurd H (by simp)
              · rw [if_neg c20] at H
                exact absurd H (by simp)
            · rw [if_neg c19] at H
              exact absurd H (by simp)
    · rw [if_neg c8] at H
      exact absurd H (by simp)

end Go.Proofs.Ytekbhcciabgnhaa.PP
