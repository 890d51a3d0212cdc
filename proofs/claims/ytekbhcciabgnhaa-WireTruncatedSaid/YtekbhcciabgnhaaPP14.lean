-- laid by a program of this session (wip/xprint), out of the translation
import Derived.Test.YtekbhcciabgnhaaPP0
import Derived.Test.YtekbhcciabgnhaaPP1
import Derived.Test.YtekbhcciabgnhaaPP2
import Derived.Test.YtekbhcciabgnhaaPP3
import Derived.Test.YtekbhcciabgnhaaPP4
import Derived.Test.YtekbhcciabgnhaaPP5
import Derived.Test.YtekbhcciabgnhaaPP6
import Derived.Test.YtekbhcciabgnhaaPP13
namespace Go.Proofs.Ytekbhcciabgnhaa.PP
open Go.RowKit Go.Proofs.YtekbhcciabgnhaaW.PrintWords Go.Proofs.YtekbhcciabgnhaaW.PrintLast Go.Proofs.YtekbhcciabgnhaaW.PrintMore
attribute [local go_sem] max2_int min2_int max_two min_two max_three min_three max_four min_four   -- for this text's walks alone
set_option linter.unusedVariables false
set_option linter.unusedSimpArgs false

attribute [local go_sem] isSome_put
/-! ### weirgatelaw01_WireCanonical: function 7 -/
def weirgatelaw01_WireCanonical.f (k : Nat) (l0 : List Int) : Option (Bool) := if (l0.length : Int) > 2000 then ((weirgatelaw01_sanity.f k).bind fun t494 => (some t494)) else ((wire_GetInt.f k l0).bind fun bt495 => ((wire_GetBytes.f k l0).bind fun bt498 => ((wire_GetInts.f k l0).bind fun bt501 => ((wire_GetStrings.f k l0).bind fun bt506 => ((wire_GetDigests.f k l0).bind fun bt511 => ((weirgatelaw01_sanity.f k).bind fun t516 => (if t516 = true then ((wire_Int.f k bt495.1).bind fun t517 => ((weirgatelaw01_consumed.f l0 t517 bt495.2.1 bt495.2.2).bind fun t520 => (if t520 = true then ((wire_Bytes.f k bt498.1).bind fun t521 => ((weirgatelaw01_consumed.f l0 t521 bt498.2.1 bt498.2.2).bind fun t524 => (if t524 = true then ((wire_Ints.f k bt501.1).bind fun t525 => ((weirgatelaw01_consumed.f l0 t525 bt501.2.1 bt501.2.2).bind fun t528 => (if t528 = true then ((wire_Strings.f k bt506.1).bind fun t529 => ((weirgatelaw01_consumed.f l0 t529 bt506.2.1 bt506.2.2).bind fun t532 => (if t532 = true then ((wire_Digests.f k bt511.1).bind fun t533 => ((weirgatelaw01_consumed.f l0 t533 bt511.2.1 bt511.2.2).bind fun t536 => (some t536))) else (none)))) else (none)))) else (none)))) else (none)))) else (none))))))))
theorem weirgatelaw01_WireCanonical.mono : ∀ a0 k, LeO (weirgatelaw01_WireCanonical.f k a0) (weirgatelaw01_WireCanonical.f (k + 1) a0) := by
  intro a0 k
  unfold weirgatelaw01_WireCanonical.f
  repeat' first
      | (with_reducible exact weirgatelaw01_sanity.mono _)
      | (with_reducible exact wire_Bytes.mono _ _)
      | (with_reducible exact wire_Digests.mono _ _)
      | (with_reducible exact wire_GetBytes.mono _ _)
      | (with_reducible exact wire_GetDigests.mono _ _)
      | (with_reducible exact wire_GetInt.mono _ _)
      | (with_reducible exact wire_GetInts.mono _ _)
      | (with_reducible exact wire_GetStrings.mono _ _)
      | (with_reducible exact wire_Int.mono _ _)
      | (with_reducible exact wire_Ints.mono _ _)
      | (with_reducible exact wire_Strings.mono _ _)
      | (with_reducible exact LeO.refl _)
      | (with_reducible exact LeO.none _)
      | (with_reducible refine LeO.ite ?_ ?_)
      | (with_reducible refine LeO.bind ?_ (fun _ => ?_))
      | exact weirgatelaw01_sanity.mono _
      | exact wire_Bytes.mono _ _
      | exact wire_Digests.mono _ _
      | exact wire_GetBytes.mono _ _
      | exact wire_GetDigests.mono _ _
      | exact wire_GetInt.mono _ _
      | exact wire_GetInts.mono _ _
      | exact wire_GetStrings.mono _ _
      | exact wire_Int.mono _ _
      | exact wire_Ints.mono _ _
      | exact wire_Strings.mono _ _
      | exact LeO.none _
      | refine LeO.ite ?_ ?_
      | refine LeO.bind ?_ (fun _ => ?_)
set_option maxHeartbeats 8000000 in
set_option maxRecDepth 100000 in
theorem weirgatelaw01_WireCanonical.calls (k : Nat) (A0 : Option Addr) (c0 : Nat) (l0 : List Int) (r : Bool) (w : World) (hr0 : Kd.C (Kd.int .u8) w A0 l0.length l0) (hc0 : l0.length ≤ c0) (h : weirgatelaw01_WireCanonical.f k l0 = some r) :
    Calls Try.prog 7 #[.slice A0 l0.length c0] w fun e w' => e = .returned (.bool r) ∧ Below w.heap.size w w' := by
  have HR0 := Aside0.mk hr0
  have HC0 := Aside0.mk hc0
  clear hr0 hc0
  have HB := Aside0.mk (Below.refl w.heap.size w)
  have H : (if (l0.length : Int) > 2000 then ((weirgatelaw01_sanity.f k).bind fun t494 => (some t494)) else ((wire_GetInt.f k l0).bind fun bt495 => ((wire_GetBytes.f k l0).bind fun bt498 => ((wire_GetInts.f k l0).bind fun bt501 => ((wire_GetStrings.f k l0).bind fun bt506 => ((wire_GetDigests.f k l0).bind fun bt511 => ((weirgatelaw01_sanity.f k).bind fun t516 => (if t516 = true then ((wire_Int.f k bt495.1).bind fun t517 => ((weirgatelaw01_consumed.f l0 t517 bt495.2.1 bt495.2.2).bind fun t520 => (if t520 = true then ((wire_Bytes.f k bt498.1).bind fun t521 => ((weirgatelaw01_consumed.f l0 t521 bt498.2.1 bt498.2.2).bind fun t524 => (if t524 = true then ((wire_Ints.f k bt501.1).bind fun t525 => ((weirgatelaw01_consumed.f l0 t525 bt501.2.1 bt501.2.2).bind fun t528 => (if t528 = true then ((wire_Strings.f k bt506.1).bind fun t529 => ((weirgatelaw01_consumed.f l0 t529 bt506.2.1 bt506.2.2).bind fun t532 => (if t532 = true then ((wire_Digests.f k bt511.1).bind fun t533 => ((weirgatelaw01_consumed.f l0 t533 bt511.2.1 bt511.2.2).bind fun t536 => (some t536))) else (none)))) else (none)))) else (none)))) else (none)))) else (none))))))))) = some r := h
  clear h
  by_cases c2 : (l0.length : Int) > 2000
  · rw [if_pos c2] at H
    have c2b0 : decide (2000 < (l0.length : Int)) = true := decide_eq_true c2
    have c2b1 : decide (2000 < l0.length) = true := decide_eq_true (by omega)
    clear c2
    replace H := Option.bind_eq_some_iff.mp H
    obtain ⟨t494, A30, H⟩ := H
    replace H : (some t494) = some r := H
    have A3 := Aside0.mk A30
    clear A30
    obtain rfl := Option.some.inj H
    go_enter Try.func7, Try.ntmps7
    (try dsimp only [List.append] at *)
    go_wp2_with (first | ((with_reducible refine gate_callee (f := 12) rfl ?_); refine goesL_ (some 21) rfl rfl Try.func12 (by kernel_rfl) rfl #[] rfl (by (try simp only [List.map_toArray, List.map_cons, List.map_nil]); first | done | rfl | (simp only [List.length_drop, List.length_take]; rfl)) ?_; (with_reducible refine (weirgatelaw01_sanity.calls k  t494 _ A3.out).mono ?_); rintro e w4 ⟨rfl, hb⟩; refine ⟨_, rfl, ?_⟩; have n0_ := Aside0.mk (below_step (bk HB.out) hb); clear HB; have HB := n0_; clear n0_; (try clear hb); (try clear hb2); (try clear hk); (try clear hi)))
    go_ret
    exact ⟨by first | rfl | (simp [errW_none, errW_some] <;> rfl) | (simp [*, errW_none, errW_some] <;> rfl), bk HB.out⟩
  · rw [if_neg c2] at H
    have c2b0 : decide (2000 < (l0.length : Int)) = false := decide_eq_false c2
    have c2b1 : decide (2000 < l0.length) = false := decide_eq_false (by omega)
    clear c2
    replace H := Option.bind_eq_some_iff.mp H
    obtain ⟨⟨t495, t496, t497⟩, A50, H⟩ := H
    replace H : ((wire_GetBytes.f k l0).bind fun bt498 => ((wire_GetInts.f k l0).bind fun bt501 => ((wire_GetStrings.f k l0).bind fun bt506 => ((wire_GetDigests.f k l0).bind fun bt511 => ((weirgatelaw01_sanity.f k).bind fun t516 => (if t516 = true then ((wire_Int.f k t495).bind fun t517 => ((weirgatelaw01_consumed.f l0 t517 t496 t497).bind fun t520 => (if t520 = true then ((wire_Bytes.f k bt498.1).bind fun t521 => ((weirgatelaw01_consumed.f l0 t521 bt498.2.1 bt498.2.2).bind fun t524 => (if t524 = true then ((wire_Ints.f k bt501.1).bind fun t525 => ((weirgatelaw01_consumed.f l0 t525 bt501.2.1 bt501.2.2).bind fun t528 => (if t528 = true then ((wire_Strings.f k bt506.1).bind fun t529 => ((weirgatelaw01_consumed.f l0 t529 bt506.2.1 bt506.2.2).bind fun t532 => (if t532 = true then ((wire_Digests.f k bt511.1).bind fun t533 => ((weirgatelaw01_consumed.f l0 t533 bt511.2.1 bt511.2.2).bind fun t536 => (some t536))) else (none)))) else (none)))) else (none)))) else (none)))) else (none))))))) = some r := H
    have A5 := Aside0.mk A50
    clear A50
    replace H := Option.bind_eq_some_iff.mp H
    obtain ⟨⟨t498, t499, t500⟩, A60, H⟩ := H
    replace H : ((wire_GetInts.f k l0).bind fun bt501 => ((wire_GetStrings.f k l0).bind fun bt506 => ((wire_GetDigests.f k l0).bind fun bt511 => ((weirgatelaw01_sanity.f k).bind fun t516 => (if t516 = true then ((wire_Int.f k t495).bind fun t517 => ((weirgatelaw01_consumed.f l0 t517 t496 t497).bind fun t520 => (if t520 = true then ((wire_Bytes.f k t498).bind fun t521 => ((weirgatelaw01_consumed.f l0 t521 t499 t500).bind fun t524 => (if t524 = true then ((wire_Ints.f k bt501.1).bind fun t525 => ((weirgatelaw01_consumed.f l0 t525 bt501.2.1 bt501.2.2).bind fun t528 => (if t528 = true then ((wire_Strings.f k bt506.1).bind fun t529 => ((weirgatelaw01_consumed.f l0 t529 bt506.2.1 bt506.2.2).bind fun t532 => (if t532 = true then ((wire_Digests.f k bt511.1).bind fun t533 => ((weirgatelaw01_consumed.f l0 t533 bt511.2.1 bt511.2.2).bind fun t536 => (some t536))) else (none)))) else (none)))) else (none)))) else (none)))) else (none)))))) = some r := H
    have A6 := Aside0.mk A60
    clear A60
    replace H := Option.bind_eq_some_iff.mp H
    obtain ⟨⟨t501, t502, t503⟩, A70, H⟩ := H
    replace H : ((wire_GetStrings.f k l0).bind fun bt506 => ((wire_GetDigests.f k l0).bind fun bt511 => ((weirgatelaw01_sanity.f k).bind fun t516 => (if t516 = true then ((wire_Int.f k t495).bind fun t517 => ((weirgatelaw01_consumed.f l0 t517 t496 t497).bind fun t520 => (if t520 = true then ((wire_Bytes.f k t498).bind fun t521 => ((weirgatelaw01_consumed.f l0 t521 t499 t500).bind fun t524 => (if t524 = true then ((wire_Ints.f k t501).bind fun t525 => ((weirgatelaw01_consumed.f l0 t525 t502 t503).bind fun t528 => (if t528 = true then ((wire_Strings.f k bt506.1).bind fun t529 => ((weirgatelaw01_consumed.f l0 t529 bt506.2.1 bt506.2.2).bind fun t532 => (if t532 = true then ((wire_Digests.f k bt511.1).bind fun t533 => ((weirgatelaw01_consumed.f l0 t533 bt511.2.1 bt511.2.2).bind fun t536 => (some t536))) else (none)))) else (none)))) else (none)))) else (none)))) else (none))))) = some r := H
    have A7 := Aside0.mk A70
    clear A70
    replace H := Option.bind_eq_some_iff.mp H
    obtain ⟨⟨t506, t507, t508⟩, A80, H⟩ := H
    replace H : ((wire_GetDigests.f k l0).bind fun bt511 => ((weirgatelaw01_sanity.f k).bind fun t516 => (if t516 = true then ((wire_Int.f k t495).bind fun t517 => ((weirgatelaw01_consumed.f l0 t517 t496 t497).bind fun t520 => (if t520 = true then ((wire_Bytes.f k t498).bind fun t521 => ((weirgatelaw01_consumed.f l0 t521 t499 t500).bind fun t524 => (if t524 = true then ((wire_Ints.f k t501).bind fun t525 => ((weirgatelaw01_consumed.f l0 t525 t502 t503).bind fun t528 => (if t528 = true then ((wire_Strings.f k t506).bind fun t529 => ((weirgatelaw01_consumed.f l0 t529 t507 t508).bind fun t532 => (if t532 = true then ((wire_Digests.f k bt511.1).bind fun t533 => ((weirgatelaw01_consumed.f l0 t533 bt511.2.1 bt511.2.2).bind fun t536 => (some t536))) else (none)))) else (none)))) else (none)))) else (none)))) else (none)))) = some r := H
    have A8 := Aside0.mk A80
    clear A80
    replace H := Option.bind_eq_some_iff.mp H
    obtain ⟨⟨t511, t512, t513⟩, A90, H⟩ := H
    replace H : ((weirgatelaw01_sanity.f k).bind fun t516 => (if t516 = true then ((wire_Int.f k t495).bind fun t517 => ((weirgatelaw01_consumed.f l0 t517 t496 t497).bind fun t520 => (if t520 = true then ((wire_Bytes.f k t498).bind fun t521 => ((weirgatelaw01_consumed.f l0 t521 t499 t500).bind fun t524 => (if t524 = true then ((wire_Ints.f k t501).bind fun t525 => ((weirgatelaw01_consumed.f l0 t525 t502 t503).bind fun t528 => (if t528 = true then ((wire_Strings.f k t506).bind fun t529 => ((weirgatelaw01_consumed.f l0 t529 t507 t508).bind fun t532 => (if t532 = true then ((wire_Digests.f k t511).bind fun t533 => ((weirgatelaw01_consumed.f l0 t533 t512 t513).bind fun t536 => (some t536))) else (none)))) else (none)))) else (none)))) else (none)))) else (none))) = some r := H
    have A9 := Aside0.mk A90
    clear A90
    replace H := Option.bind_eq_some_iff.mp H
    obtain ⟨t516, A100, H⟩ := H
    replace H : (if t516 = true then ((wire_Int.f k t495).bind fun t517 => ((weirgatelaw01_consumed.f l0 t517 t496 t497).bind fun t520 => (if t520 = true then ((wire_Bytes.f k t498).bind fun t521 => ((weirgatelaw01_consumed.f l0 t521 t499 t500).bind fun t524 => (if t524 = true then ((wire_Ints.f k t501).bind fun t525 => ((weirgatelaw01_consumed.f l0 t525 t502 t503).bind fun t528 => (if t528 = true then ((wire_Strings.f k t506).bind fun t529 => ((weirgatelaw01_consumed.f l0 t529 t507 t508).bind fun t532 => (if t532 = true then ((wire_Digests.f k t511).bind fun t533 => ((weirgatelaw01_consumed.f l0 t533 t512 t513).bind fun t536 => (some t536))) else (none)))) else (none)))) else (none)))) else (none)))) else (none)) = some r := H
    have A10 := Aside0.mk A100
    clear A100
    by_cases c11 : t516 = true
    · subst c11
      have H1 : ((wire_Int.f k t495).bind fun t517 => ((weirgatelaw01_consumed.f l0 t517 t496 t497).bind fun t520 => (if t520 = true then ((wire_Bytes.f k t498).bind fun t521 => ((weirgatelaw01_consumed.f l0 t521 t499 t500).bind fun t524 => (if t524 = true then ((wire_Ints.f k t501).bind fun t525 => ((weirgatelaw01_consumed.f l0 t525 t502 t503).bind fun t528 => (if t528 = true then ((wire_Strings.f k t506).bind fun t529 => ((weirgatelaw01_consumed.f l0 t529 t507 t508).bind fun t532 => (if t532 = true then ((wire_Digests.f k t511).bind fun t533 => ((weirgatelaw01_consumed.f l0 t533 t512 t513).bind fun t536 => (some t536))) else (none)))) else (none)))) else (none)))) else (none)))) = some r := by rw [if_pos rfl] at H; exact H
      clear H
      have H := H1
      clear H1
      replace H := Option.bind_eq_some_iff.mp H
      obtain ⟨t517, A120, H⟩ := H
      replace H : ((weirgatelaw01_consumed.f l0 t517 t496 t497).bind fun t520 => (if t520 = true then ((wire_Bytes.f k t498).bind fun t521 => ((weirgatelaw01_consumed.f l0 t521 t499 t500).bind fun t524 => (if t524 = true then ((wire_Ints.f k t501).bind fun t525 => ((weirgatelaw01_consumed.f l0 t525 t502 t503).bind fun t528 => (if t528 = true then ((wire_Strings.f k t506).bind fun t529 => ((weirgatelaw01_consumed.f l0 t529 t507 t508).bind fun t532 => (if t532 = true then ((wire_Digests.f k t511).bind fun t533 => ((weirgatelaw01_consumed.f l0 t533 t512 t513).bind fun t536 => (some t536))) else (none)))) else (none)))) else (none)))) else (none))) = some r := H
      have A12 := Aside0.mk A120
      clear A120
      replace H := Option.bind_eq_some_iff.mp H
      obtain ⟨t520, A130, H⟩ := H
      replace H : (if t520 = true then ((wire_Bytes.f k t498).bind fun t521 => ((weirgatelaw01_consumed.f l0 t521 t499 t500).bind fun t524 => (if t524 = true then ((wire_Ints.f k t501).bind fun t525 => ((weirgatelaw01_consumed.f l0 t525 t502 t503).bind fun t528 => (if t528 = true then ((wire_Strings.f k t506).bind fun t529 => ((weirgatelaw01_consumed.f l0 t529 t507 t508).bind fun t532 => (if t532 = true then ((wire_Digests.f k t511).bind fun t533 => ((weirgatelaw01_consumed.f l0 t533 t512 t513).bind fun t536 => (some t536))) else (none)))) else (none)))) else (none)))) else (none)) = some r := H
      have A13 := Aside0.mk A130
      clear A130
      by_cases c14 : t520 = true
      · subst c14
        have H1 : ((wire_Bytes.f k t498).bind fun t521 => ((weirgatelaw01_consumed.f l0 t521 t499 t500).bind fun t524 => (if t524 = true then ((wire_Ints.f k t501).bind fun t525 => ((weirgatelaw01_consumed.f l0 t525 t502 t503).bind fun t528 => (if t528 = true then ((wire_Strings.f k t506).bind fun t529 => ((weirgatelaw01_consumed.f l0 t529 t507 t508).bind fun t532 => (if t532 = true then ((wire_Digests.f k t511).bind fun t533 => ((weirgatelaw01_consumed.f l0 t533 t512 t513).bind fun t536 => (some t536))) else (none)))) else (none)))) else (none)))) = some r := by rw [if_pos rfl] at H; exact H
        clear H
        have H := H1
        clear H1
        replace H := Option.bind_eq_some_iff.mp H
        obtain ⟨t521, A150, H⟩ := H
        replace H : ((weirgatelaw01_consumed.f l0 t521 t499 t500).bind fun t524 => (if t524 = true then ((wire_Ints.f k t501).bind fun t525 => ((weirgatelaw01_consumed.f l0 t525 t502 t503).bind fun t528 => (if t528 = true then ((wire_Strings.f k t506).bind fun t529 => ((weirgatelaw01_consumed.f l0 t529 t507 t508).bind fun t532 => (if t532 = true then ((wire_Digests.f k t511).bind fun t533 => ((weirgatelaw01_consumed.f l0 t533 t512 t513).bind fun t536 => (some t536))) else (none)))) else (none)))) else (none))) = some r := H
        have A15 := Aside0.mk A150
        clear A150
        replace H := Option.bind_eq_some_iff.mp H
        obtain ⟨t524, A160, H⟩ := H
        replace H : (if t524 = true then ((wire_Ints.f k t501).bind fun t525 => ((weirgatelaw01_consumed.f l0 t525 t502 t503).bind fun t528 => (if t528 = true then ((wire_Strings.f k t506).bind fun t529 => ((weirgatelaw01_consumed.f l0 t529 t507 t508).bind fun t532 => (if t532 = true then ((wire_Digests.f k t511).bind fun t533 => ((weirgatelaw01_consumed.f l0 t533 t512 t513).bind fun t536 => (some t536))) else (none)))) else (none)))) else (none)) = some r := H
        have A16 := Aside0.mk A160
        clear A160
        by_cases c17 : t524 = true
        · subst c17
          have H1 : ((wire_Ints.f k t501).bind fun t525 => ((weirgatelaw01_consumed.f l0 t525 t502 t503).bind fun t528 => (if t528 = true then ((wire_Strings.f k t506).bind fun t529 => ((weirgatelaw01_consumed.f l0 t529 t507 t508).bind fun t532 => (if t532 = true then ((wire_Digests.f k t511).bind fun t533 => ((weirgatelaw01_consumed.f l0 t533 t512 t513).bind fun t536 => (some t536))) else (none)))) else (none)))) = some r := by rw [if_pos rfl] at H; exact H
          clear H
          have H := H1
          clear H1
          replace H := Option.bind_eq_some_iff.mp H
          obtain ⟨t525, A180, H⟩ := H
          replace H : ((weirgatelaw01_consumed.f l0 t525 t502 t503).bind fun t528 => (if t528 = true then ((wire_Strings.f k t506).bind fun t529 => ((weirgatelaw01_consumed.f l0 t529 t507 t508).bind fun t532 => (if t532 = true then ((wire_Digests.f k t511).bind fun t533 => ((weirgatelaw01_consumed.f l0 t533 t512 t513).bind fun t536 => (some t536))) else (none)))) else (none))) = some r := H
          have A18 := Aside0.mk A180
          clear A180
          replace H := Option.bind_eq_some_iff.mp H
          obtain ⟨t528, A190, H⟩ := H
          replace H : (if t528 = true then ((wire_Strings.f k t506).bind fun t529 => ((weirgatelaw01_consumed.f l0 t529 t507 t508).bind fun t532 => (if t532 = true then ((wire_Digests.f k t511).bind fun t533 => ((weirgatelaw01_consumed.f l0 t533 t512 t513).bind fun t536 => (some t536))) else (none)))) else (none)) = some r := H
          have A19 := Aside0.mk A190
          clear A190
          by_cases c20 : t528 = true
          · subst c20
            have H1 : ((wire_Strings.f k t506).bind fun t529 => ((weirgatelaw01_consumed.f l0 t529 t507 t508).bind fun t532 => (if t532 = true then ((wire_Digests.f k t511).bind fun t533 => ((weirgatelaw01_consumed.f l0 t533 t512 t513).bind fun t536 => (some t536))) else (none)))) = some r := by rw [if_pos rfl] at H; exact H
            clear H
            have H := H1
            clear H1
            replace H := Option.bind_eq_some_iff.mp H
            obtain ⟨t529, A210, H⟩ := H
            replace H : ((weirgatelaw01_consumed.f l0 t529 t507 t508).bind fun t532 => (if t532 = true then ((wire_Digests.f k t511).bind fun t533 => ((weirgatelaw01_consumed.f l0 t533 t512 t513).bind fun t536 => (some t536))) else (none))) = some r := H
            have A21 := Aside0.mk A210
            clear A210
            replace H := Option.bind_eq_some_iff.mp H
            obtain ⟨t532, A220, H⟩ := H
            replace H : (if t532 = true then ((wire_Digests.f k t511).bind fun t533 => ((weirgatelaw01_consumed.f l0 t533 t512 t513).bind fun t536 => (some t536))) else (none)) = some r := H
            have A22 := Aside0.mk A220
            clear A220
            by_cases c23 : t532 = true
            · subst c23
              have H1 : ((wire_Digests.f k t511).bind fun t533 => ((weirgatelaw01_consumed.f l0 t533 t512 t513).bind fun t536 => (some t536))) = some r := by rw [if_pos rfl] at H; exact H
              clear H
              have H := H1
              clear H1
              replace H := Option.bind_eq_some_iff.mp H
              obtain ⟨t533, A240, H⟩ := H
              replace H : ((weirgatelaw01_consumed.f l0 t533 t512 t513).bind fun t536 => (some t536)) = some r := H
              have A24 := Aside0.mk A240
              clear A240
              replace H := Option.bind_eq_some_iff.mp H
              obtain ⟨t536, A250, H⟩ := H
              replace H : (some t536) = some r := H
              have A25 := Aside0.mk A250
              clear A250
              obtain rfl := Option.some.inj H
              go_enter Try.func7, Try.ntmps7
              (try dsimp only [List.append] at *)
              go_wp2_with (first | ((with_reducible refine gate_callee (f := 24) rfl ?_); refine goesL_ (some 24) rfl rfl Try.func24 (by kernel_rfl) rfl #[.slice A0 l0.length c0] rfl (by (try simp only [List.map_toArray, List.map_cons, List.map_nil]); first | done | rfl | (simp only [List.length_drop, List.length_take]; rfl)) ?_; (with_reducible refine (wire_GetInt.calls k _ _ l0 t495 t496 t497 _ ?side1 ?side2 A5.out).mono ?_); (case side1 => repeat (first | exact HR0.out | (with_reducible refine Kd.C_alloc ?_ _) | (with_reducible refine Kd.C_drewN ?_ _) | (with_reducible refine Kd.C_drew ?_))); (case side2 => exact HC0.out); rintro e w' ⟨rfl, ⟨nd, rfl⟩⟩; refine ⟨_, rfl, ?_⟩) | ((with_reducible refine gate_callee (f := 26) rfl ?_); refine goesL_ (some 30) rfl rfl Try.func26 (by kernel_rfl) rfl #[.slice A0 l0.length c0] rfl (by (try simp only [List.map_toArray, List.map_cons, List.map_nil]); first | done | rfl | (simp only [List.length_drop, List.length_take]; rfl)) ?_; (with_reducible refine (wire_GetBytes.calls k _ _ l0 t498 t499 t500 _ ?side1 ?side2 A6.out).mono ?_); (case side1 => repeat (first | exact HR0.out | (with_reducible refine Kd.C_alloc ?_ _) | (with_reducible refine Kd.C_drewN ?_ _) | (with_reducible refine Kd.C_drew ?_))); (case side2 => exact HC0.out); rintro e w' ⟨rfl, ⟨nd, rfl⟩⟩; refine ⟨_, rfl, ?_⟩) | ((with_reducible refine gate_callee (f := 28) rfl ?_); refine goesL_ (some 36) rfl rfl Try.func28 (by kernel_rfl) rfl #[.slice A0 l0.length c0] rfl (by (try simp only [List.map_toArray, List.map_cons, List.map_nil]); first | done | rfl | (simp only [List.length_drop, List.length_take]; rfl)) ?_; (with_reducible refine (wire_GetInts.calls k _ _ l0 t501 t502 t503 _ ?side1 ?side2 A7.out).mono ?_); (case side1 => repeat (first | exact HR0.out | (with_reducible refine Kd.C_alloc ?_ _) | (with_reducible refine Kd.C_drewN ?_ _) | (with_reducible refine Kd.C_drew ?_))); (case side2 => exact HC0.out); rintro e w26 ⟨v504, rfl, ho0, hb⟩; refine ⟨_, rfl, ?_⟩; have n0_ := Aside0.mk (Kd.R_lower ho0 (below_size (bk HB.out))); have n1_ := Aside0.mk (below_step (bk HB.out) hb); clear HB; have HO505 := n0_; have HB := n1_; clear n0_ n1_; (try clear hb); (try clear hb2); (try clear hk); (try clear hi); (try clear ho0)) | ((with_reducible refine gate_callee (f := 31) rfl ?_); refine goesL_ (some 42) rfl rfl Try.func31 (by kernel_rfl) rfl #[.slice A0 l0.length c0] rfl (by (try simp only [List.map_toArray, List.map_cons, List.map_nil]); first | done | rfl | (simp only [List.length_drop, List.length_take]; rfl)) ?_; (with_reducible refine (wire_GetStrings.calls k _ _ l0 t506 t507 t508 _ ?side1 ?side2 A8.out).mono ?_); (case side1 => repeat (first | exact (Kd.C_below HR0.out HB.out) | exact HR0.out | (with_reducible refine Kd.C_alloc ?_ _) | (with_reducible refine Kd.C_drewN ?_ _) | (with_reducible refine Kd.C_drew ?_))); (case side2 => exact HC0.out); rintro e w27 ⟨v509, rfl, ho0, hb⟩; refine ⟨_, rfl, ?_⟩; have n0_ := Aside0.mk (Kd.R_below (rk HO505.out) hb); have n1_ := Aside0.mk (Kd.R_lower ho0 (below_size (bk HB.out))); have n2_ := Aside0.mk (below_step (bk HB.out) hb); clear HO505 HB; have HO505 := n0_; have HO510 := n1_; have HB := n2_; clear n0_ n1_ n2_; (try clear hb); (try clear hb2); (try clear hk); (try clear hi); (try clear ho0)) | ((with_reducible refine gate_callee (f := 34) rfl ?_); refine goesL_ (some 48) rfl rfl Try.func34 (by kernel_rfl) rfl #[.slice A0 l0.length c0] rfl (by (try simp only [List.map_toArray, List.map_cons, List.map_nil]); first | done | rfl | (simp only [List.length_drop, List.length_take]; rfl)) ?_; (with_reducible refine (wire_GetDigests.calls k _ _ l0 t511 t512 t513 _ ?side1 ?side2 A9.out).mono ?_); (case side1 => repeat (first | exact (Kd.C_below HR0.out HB.out) | exact HR0.out | (with_reducible refine Kd.C_alloc ?_ _) | (with_reducible refine Kd.C_drewN ?_ _) | (with_reducible refine Kd.C_drew ?_))); (case side2 => exact HC0.out); rintro e w28 ⟨v514, rfl, ho0, hb⟩; refine ⟨_, rfl, ?_⟩; have n0_ := Aside0.mk (Kd.R_below (rk HO505.out) hb); have n1_ := Aside0.mk (Kd.R_below (rk HO510.out) hb); have n2_ := Aside0.mk (Kd.R_lower ho0 (below_size (bk HB.out))); have n3_ := Aside0.mk (below_step (bk HB.out) hb); clear HO505 HO510 HB; have HO505 := n0_; have HO510 := n1_; have HO515 := n2_; have HB := n3_; clear n0_ n1_ n2_ n3_; (try clear hb); (try clear hb2); (try clear hk); (try clear hi); (try clear ho0)) | ((with_reducible refine gate_callee (f := 12) rfl ?_); refine goesL_ (some 52) rfl rfl Try.func12 (by kernel_rfl) rfl #[] rfl (by (try simp only [List.map_toArray, List.map_cons, List.map_nil]); first | done | rfl | (simp only [List.length_drop, List.length_take]; rfl)) ?_; (with_reducible refine (weirgatelaw01_sanity.calls k  true _ A10.out).mono ?_); rintro e w29 ⟨rfl, hb⟩; refine ⟨_, rfl, ?_⟩; have n0_ := Aside0.mk (Kd.R_below (rk HO505.out) hb); have n1_ := Aside0.mk (Kd.R_below (rk HO510.out) hb); have n2_ := Aside0.mk (Kd.R_below (rk HO515.out) hb); have n3_ := Aside0.mk (below_step (bk HB.out) hb); clear HO505 HO510; clear HO515 HB; have HO505 := n0_; have HO510 := n1_; have HO515 := n2_; have HB := n3_; clear n0_ n1_ n2_ n3_; (try clear hb); (try clear hb2); (try clear hk); (try clear hi)) | (go_at_call 14; (with_reducible refine (wire_Int.calls k t495 t517 _ A12.out).mono ?_); rintro e w30 ⟨v518, rfl, ho0, hb⟩; have n0_ := Aside0.mk (Kd.R_below (rk HO505.out) hb); have n1_ := Aside0.mk (Kd.R_below (rk HO510.out) hb); have n2_ := Aside0.mk (Kd.R_below (rk HO515.out) hb); have n3_ := Aside0.mk (Kd.R_lower ho0 (below_size (bk HB.out))); have n4_ := Aside0.mk (below_step (bk HB.out) hb); clear HO505 HO510; clear HO515 HB; have HO505 := n0_; have HO510 := n1_; have HO515 := n2_; have HO519 := n3_; have HB := n4_; clear n0_ n1_ n2_ n3_ n4_; (try clear hb); (try clear hb2); (try clear hk); (try clear hi); (try clear ho0); obtain ⟨Ao31, co31, eo31⟩ := Kd.R_slice HO519.out; subst eo31) | (go_at_call 37; (with_reducible refine (weirgatelaw01_consumed.calls _ _ l0 _ _ t517 t496 t497 true _ ?side1 ?side2 ?side3 ?side4 A13.out).mono ?_); (case side1 => repeat (first | exact (Kd.C_below HR0.out HB.out) | exact HR0.out | (with_reducible refine Kd.C_alloc ?_ _) | (with_reducible refine Kd.C_drewN ?_ _) | (with_reducible refine Kd.C_drew ?_))); (case side2 => exact HC0.out); (case side3 => repeat (first | exact (Kd.R_reads' HO519.out).2.2 | (with_reducible refine Kd.C_alloc ?_ _) | (with_reducible refine Kd.C_drewN ?_ _) | (with_reducible refine Kd.C_drew ?_))); (case side4 => exact (Kd.R_reads' HO519.out).2.1); rintro e w32 ⟨rfl, hb⟩; have n0_ := Aside0.mk (Kd.R_below (rk HO505.out) hb); have n1_ := Aside0.mk (Kd.R_below (rk HO510.out) hb); have n2_ := Aside0.mk (Kd.R_below (rk HO515.out) hb); have n3_ := Aside0.mk (Kd.R_below (rk HO519.out) hb); have n4_ := Aside0.mk (below_step (bk HB.out) hb); clear HO505 HO510; clear HO515 HO519 HB; have HO505 := n0_; have HO510 := n1_; have HO515 := n2_; have HO519 := n3_; have HB := n4_; clear n0_ n1_ n2_ n3_ n4_; (try clear hb); (try clear hb2); (try clear hk); (try clear hi)) | (go_at_call 16; (with_reducible refine (wire_Bytes.calls k t498 t521 _ A15.out).mono ?_); rintro e w33 ⟨v522, rfl, ho0, hb⟩; have n0_ := Aside0.mk (Kd.R_below (rk HO505.out) hb); have n1_ := Aside0.mk (Kd.R_below (rk HO510.out) hb); have n2_ := Aside0.mk (Kd.R_below (rk HO515.out) hb); have n3_ := Aside0.mk (Kd.R_elder' (rk HO519.out) (Kd.R_base ho0) hb); have n4_ := Aside0.mk (Kd.R_lower (Kd.R_new' ho0 (Kd.R_lt (rk HO519.out))) (below_size (bk HB.out))); have n5_ := Aside0.mk (below_step (bk HB.out) hb); clear HO505 HO510; clear HO515 HO519 HB; have HO505 := n0_; have HO510 := n1_; have HO515 := n2_; have HO519 := n3_; have HO523 := n4_; have HB := n5_; clear n0_ n1_ n2_ n3_ n4_ n5_; (try clear hb); (try clear hb2); (try clear hk); (try clear hi); (try clear ho0); obtain ⟨Ao34, co34, eo34⟩ := Kd.R_slice HO523.out; subst eo34) | (go_at_call 37; (with_reducible refine (weirgatelaw01_consumed.calls _ _ l0 _ _ t521 t499 t500 true _ ?side1 ?side2 ?side3 ?side4 A16.out).mono ?_); (case side1 => repeat (first | exact (Kd.C_below HR0.out HB.out) | exact HR0.out | (with_reducible refine Kd.C_alloc ?_ _) | (with_reducible refine Kd.C_drewN ?_ _) | (with_reducible refine Kd.C_drew ?_))); (case side2 => exact HC0.out); (case side3 => repeat (first | exact (Kd.R_reads' HO523.out).2.2 | (with_reducible refine Kd.C_alloc ?_ _) | (with_reducible refine Kd.C_drewN ?_ _) | (with_reducible refine Kd.C_drew ?_))); (case side4 => exact (Kd.R_reads' HO523.out).2.1); rintro e w35 ⟨rfl, hb⟩; have n0_ := Aside0.mk (Kd.R_below (rk HO505.out) hb); have n1_ := Aside0.mk (Kd.R_below (rk HO510.out) hb); have n2_ := Aside0.mk (Kd.R_below (rk HO515.out) hb); have n3_ := Aside0.mk (Kd.R_below (rk HO519.out) hb); have n4_ := Aside0.mk (Kd.R_below (rk HO523.out) hb); have n5_ := Aside0.mk (below_step (bk HB.out) hb); clear HO505 HO510; clear HO515 HO519; clear HO523 HB; have HO505 := n0_; have HO510 := n1_; have HO515 := n2_; have HO519 := n3_; have HO523 := n4_; have HB := n5_; clear n0_ n1_ n2_ n3_ n4_ n5_; (try clear hb); (try clear hb2); (try clear hk); (try clear hi); obtain ⟨Ao36, co36, eo36⟩ := Kd.R_slice HO505.out; subst eo36) | (go_at_call 18; (with_reducible refine (wire_Ints.calls k _ _ t501 t525 _ ?side1 ?side2 A18.out).mono ?_); (case side1 => repeat (first | exact (Kd.R_reads' HO505.out).2.2 | (with_reducible refine Kd.C_alloc ?_ _) | (with_reducible refine Kd.C_drewN ?_ _) | (with_reducible refine Kd.C_drew ?_))); (case side2 => exact (Kd.R_reads' HO505.out).2.1); rintro e w37 ⟨v526, rfl, ho0, hb⟩; have n0_ := Aside0.mk (Kd.R_below (rk HO505.out) hb); have n1_ := Aside0.mk (Kd.R_below (rk HO510.out) hb); have n2_ := Aside0.mk (Kd.R_below (rk HO515.out) hb); have n3_ := Aside0.mk (Kd.R_elder' (rk HO519.out) (Kd.R_base ho0) hb); have n4_ := Aside0.mk (Kd.R_elder' (rk HO523.out) (Kd.R_base ho0) hb); have n5_ := Aside0.mk (Kd.R_lower (Kd.R_new' (Kd.R_new' ho0 (Kd.R_lt (rk HO519.out))) (Kd.R_lt (rk HO523.out))) (below_size (bk HB.out))); have n6_ := Aside0.mk (below_step (bk HB.out) hb); clear HO505 HO510; clear HO515 HO519; clear HO523 HB; have HO505 := n0_; have HO510 := n1_; have HO515 := n2_; have HO519 := n3_; have HO523 := n4_; have HO527 := n5_; have HB := n6_; clear n0_ n1_ n2_ n3_ n4_ n5_ n6_; (try clear hb); (try clear hb2); (try clear hk); (try clear hi); (try clear ho0); obtain ⟨Ao38, co38, eo38⟩ := Kd.R_slice HO527.out; subst eo38) | (go_at_call 37; (with_reducible refine (weirgatelaw01_consumed.calls _ _ l0 _ _ t525 t502 t503 true _ ?side1 ?side2 ?side3 ?side4 A19.out).mono ?_); (case side1 => repeat (first | exact (Kd.C_below HR0.out HB.out) | exact HR0.out | (with_reducible refine Kd.C_alloc ?_ _) | (with_reducible refine Kd.C_drewN ?_ _) | (with_reducible refine Kd.C_drew ?_))); (case side2 => exact HC0.out); (case side3 => repeat (first | exact (Kd.R_reads' HO527.out).2.2 | (with_reducible refine Kd.C_alloc ?_ _) | (with_reducible refine Kd.C_drewN ?_ _) | (with_reducible refine Kd.C_drew ?_))); (case side4 => exact (Kd.R_reads' HO527.out).2.1); rintro e w39 ⟨rfl, hb⟩; have n0_ := Aside0.mk (Kd.R_below (rk HO505.out) hb); have n1_ := Aside0.mk (Kd.R_below (rk HO510.out) hb); have n2_ := Aside0.mk (Kd.R_below (rk HO515.out) hb); have n3_ := Aside0.mk (Kd.R_below (rk HO519.out) hb); have n4_ := Aside0.mk (Kd.R_below (rk HO523.out) hb); have n5_ := Aside0.mk (Kd.R_below (rk HO527.out) hb); have n6_ := Aside0.mk (below_step (bk HB.out) hb); clear HO505 HO510; clear HO515 HO519; clear HO523 HO527 HB; have HO505 := n0_; have HO510 := n1_; have HO515 := n2_; have HO519 := n3_; have HO523 := n4_; have HO527 := n5_; have HB := n6_; clear n0_ n1_ n2_ n3_ n4_ n5_ n6_; (try clear hb); (try clear hb2); (try clear hk); (try clear hi); obtain ⟨Ao40, co40, eo40⟩ := Kd.R_slice HO510.out; subst eo40) | (go_at_call 20; (with_reducible refine (wire_Strings.calls k _ _ t506 t529 _ ?side1 ?side2 A21.out).mono ?_); (case side1 => repeat (first | exact (Kd.R_reads' HO510.out).2.2 | (with_reducible refine Kd.C_alloc ?_ _) | (with_reducible refine Kd.C_drewN ?_ _) | (with_reducible refine Kd.C_drew ?_))); (case side2 => exact (Kd.R_reads' HO510.out).2.1); rintro e w41 ⟨v530, rfl, ho0, hb⟩; have n0_ := Aside0.mk (Kd.R_below (rk HO505.out) hb); have n1_ := Aside0.mk (Kd.R_below (rk HO510.out) hb); have n2_ := Aside0.mk (Kd.R_below (rk HO515.out) hb); have n3_ := Aside0.mk (Kd.R_elder' (rk HO519.out) (Kd.R_base ho0) hb); have n4_ := Aside0.mk (Kd.R_elder' (rk HO523.out) (Kd.R_base ho0) hb); have n5_ := Aside0.mk (Kd.R_elder' (rk HO527.out) (Kd.R_base ho0) hb); have n6_ := Aside0.mk (Kd.R_lower (Kd.R_new' (Kd.R_new' (Kd.R_new' ho0 (Kd.R_lt (rk HO519.out))) (Kd.R_lt (rk HO523.out))) (Kd.R_lt (rk HO527.out))) (below_size (bk HB.out))); have n7_ := Aside0.mk (below_step (bk HB.out) hb); clear HO505 HO510; clear HO515 HO519; clear HO523 HO527 HB; have HO505 := n0_; have HO510 := n1_; have HO515 := n2_; have HO519 := n3_; have HO523 := n4_; have HO527 := n5_; have HO531 := n6_; have HB := n7_; clear n0_ n1_ n2_ n3_ n4_ n5_ n6_ n7_; (try clear hb); (try clear hb2); (try clear hk); (try clear hi); (try clear ho0); obtain ⟨Ao42, co42, eo42⟩ := Kd.R_slice HO531.out; subst eo42) | (go_at_call 37; (with_reducible refine (weirgatelaw01_consumed.calls _ _ l0 _ _ t529 t507 t508 true _ ?side1 ?side2 ?side3 ?side4 A22.out).mono ?_); (case side1 => repeat (first | exact (Kd.C_below HR0.out HB.out) | exact HR0.out | (with_reducible refine Kd.C_alloc ?_ _) | (with_reducible refine Kd.C_drewN ?_ _) | (with_reducible refine Kd.C_drew ?_))); (case side2 => exact HC0.out); (case side3 => repeat (first | exact (Kd.R_reads' HO531.out).2.2 | (with_reducible refine Kd.C_alloc ?_ _) | (with_reducible refine Kd.C_drewN ?_ _) | (with_reducible refine Kd.C_drew ?_))); (case side4 => exact (Kd.R_reads' HO531.out).2.1); rintro e w43 ⟨rfl, hb⟩; have n0_ := Aside0.mk (Kd.R_below (rk HO505.out) hb); have n1_ := Aside0.mk (Kd.R_below (rk HO510.out) hb); have n2_ := Aside0.mk (Kd.R_below (rk HO515.out) hb); have n3_ := Aside0.mk (Kd.R_below (rk HO519.out) hb); have n4_ := Aside0.mk (Kd.R_below (rk HO523.out) hb); have n5_ := Aside0.mk (Kd.R_below (rk HO527.out) hb); have n6_ := Aside0.mk (Kd.R_below (rk HO531.out) hb); have n7_ := Aside0.mk (below_step (bk HB.out) hb); clear HO505 HO510; clear HO515 HO519; clear HO523 HO527; clear HO531 HB; have HO505 := n0_; have HO510 := n1_; have HO515 := n2_; have HO519 := n3_; have HO523 := n4_; have HO527 := n5_; have HO531 := n6_; have HB := n7_; clear n0_ n1_ n2_ n3_ n4_ n5_ n6_ n7_; (try clear hb); (try clear hb2); (try clear hk); (try clear hi); obtain ⟨Ao44, co44, eo44⟩ := Kd.R_slice HO515.out; subst eo44) | (go_at_call 22; (with_reducible refine (wire_Digests.calls k _ _ t511 t533 _ ?side1 ?side2 A24.out).mono ?_); (case side1 => repeat (first | exact (Kd.R_reads' HO515.out).2.2 | (with_reducible refine Kd.C_alloc ?_ _) | (with_reducible refine Kd.C_drewN ?_ _) | (with_reducible refine Kd.C_drew ?_))); (case side2 => exact (Kd.R_reads' HO515.out).2.1); rintro e w45 ⟨v534, rfl, ho0, hb⟩; have n0_ := Aside0.mk (Kd.R_below (rk HO505.out) hb); have n1_ := Aside0.mk (Kd.R_below (rk HO510.out) hb); have n2_ := Aside0.mk (Kd.R_below (rk HO515.out) hb); have n3_ := Aside0.mk (Kd.R_elder' (rk HO519.out) (Kd.R_base ho0) hb); have n4_ := Aside0.mk (Kd.R_elder' (rk HO523.out) (Kd.R_base ho0) hb); have n5_ := Aside0.mk (Kd.R_elder' (rk HO527.out) (Kd.R_base ho0) hb); have n6_ := Aside0.mk (Kd.R_elder' (rk HO531.out) (Kd.R_base ho0) hb); have n7_ := Aside0.mk (Kd.R_lower (Kd.R_new' (Kd.R_new' (Kd.R_new' (Kd.R_new' ho0 (Kd.R_lt (rk HO519.out))) (Kd.R_lt (rk HO523.out))) (Kd.R_lt (rk HO527.out))) (Kd.R_lt (rk HO531.out))) (below_size (bk HB.out))); have n8_ := Aside0.mk (below_step (bk HB.out) hb); clear HO505 HO510; clear HO515 HO519; clear HO523 HO527; clear HO531 HB; have HO505 := n0_; have HO510 := n1_; have HO515 := n2_; have HO519 := n3_; have HO523 := n4_; have HO527 := n5_; have HO531 := n6_; have HO535 := n7_; have HB := n8_; clear n0_ n1_ n2_ n3_ n4_ n5_ n6_ n7_ n8_; (try clear hb); (try clear hb2); (try clear hk); (try clear hi); (try clear ho0); obtain ⟨Ao46, co46, eo46⟩ := Kd.R_slice HO535.out; subst eo46) | (go_at_call 37; (with_reducible refine (weirgatelaw01_consumed.calls _ _ l0 _ _ t533 t512 t513 t536 _ ?side1 ?side2 ?side3 ?side4 A25.out).mono ?_); (case side1 => repeat (first | exact (Kd.C_below HR0.out HB.out) | exact HR0.out | (with_reducible refine Kd.C_alloc ?_ _) | (with_reducible refine Kd.C_drewN ?_ _) | (with_reducible refine Kd.C_drew ?_))); (case side2 => exact HC0.out); (case side3 => repeat (first | exact (Kd.R_reads' HO535.out).2.2 | (with_reducible refine Kd.C_alloc ?_ _) | (with_reducible refine Kd.C_drewN ?_ _) | (with_reducible refine Kd.C_drew ?_))); (case side4 => exact (Kd.R_reads' HO535.out).2.1); rintro e w47 ⟨rfl, hb⟩; have n0_ := Aside0.mk (Kd.R_below (rk HO505.out) hb); have n1_ := Aside0.mk (Kd.R_below (rk HO510.out) hb); have n2_ := Aside0.mk (Kd.R_below (rk HO515.out) hb); have n3_ := Aside0.mk (Kd.R_below (rk HO519.out) hb); have n4_ := Aside0.mk (Kd.R_below (rk HO523.out) hb); have n5_ := Aside0.mk (Kd.R_below (rk HO527.out) hb); have n6_ := Aside0.mk (Kd.R_below (rk HO531.out) hb); have n7_ := Aside0.mk (Kd.R_below (rk HO535.out) hb); have n8_ := Aside0.mk (below_step (bk HB.out) hb); clear HO505 HO510; clear HO515 HO519; clear HO523 HO527; clear HO531 HO535 HB; have HO505 := n0_; have HO510 := n1_; have HO515 := n2_; have HO519 := n3_; have HO523 := n4_; have HO527 := n5_; have HO531 := n6_; have HO535 := n7_; have HB := n8_; clear n0_ n1_ n2_ n3_ n4_ n5_ n6_ n7_ n8_; (try clear hb); (try clear hb2); (try clear hk); (try clear hi)))
              go_ret
              exact ⟨by first | rfl | (simp [errW_none, errW_some] <;> rfl) | (simp [*, errW_none, errW_some] <;> rfl), bk HB.out⟩
            · replace c23 := Bool.eq_false_iff.mpr c23
              subst c23
              have H1 : (none) = some r := by rw [if_neg (show ¬ (false = true) by decide)] at H; exact H
              clear H
              have H := H1
              clear H1
              exact absurd H (by simp)
          · replace c20 := Bool.eq_false_iff.mpr c20
            subst c20
            have H1 : (none) = some r := by rw [if_neg (show ¬ (false = true) by decide)] at H; exact H
            clear H
            have H := H1
            clear H1
            exact absurd H (by simp)
        · replace c17 := Bool.eq_false_iff.mpr c17
          subst c17
          have H1 : (none) = some r := by rw [if_neg (show ¬ (false = true) by decide)] at H; exact H
          clear H
          have H := H1
          clear H1
          exact absurd H (by simp)
      · replace c14 := Bool.eq_false_iff.mpr c14
        subst c14
        have H1 : (none) = some r := by rw [if_neg (show ¬ (false = true) by decide)] at H; exact H
        clear H
        have H := H1
        clear H1
        exact absurd H (by simp)
    · replace c11 := Bool.eq_false_iff.mpr c11
      subst c11
      have H1 : (none) = some r := by rw [if_neg (show ¬ (false = true) by decide)] at H; exact H
      clear H
      have H := H1
      clear H1
      exact absurd H (by simp)

/-! ### weirgatelaw01_WireTruncated: function 9 -/
mutual
def weirgatelaw01_WireTruncated.j0 : Nat → Int → ByteArray → List Int → List ByteArray → List (S57) → Bool → Option (Bool)
  | 0, _, _, _, _, _, _ => none
  | k + 1, x0, x1, x2, x3, x4, x35 => if x35 = true then ((weirgatelaw01_sanity.f k).bind fun t538 => (some t538)) else ((wire_Int.f k x0).bind fun t539 => ((wire_Bytes.f k x1).bind fun t542 => ((wire_Ints.f k x2).bind fun t545 => ((wire_Strings.f k x3).bind fun t548 => ((wire_Digests.f k x4).bind fun t551 => ((some (([t539, t542, t545, t548, t551] : List (List Int)) : List (List Int))).bind fun y554 => (weirgatelaw01_WireTruncated.l0 k y554 (y554.length : Int) 0)))))))
def weirgatelaw01_WireTruncated.l0 : Nat → List (List Int) → Int → Int → Option (Bool)
  | 0, _, _, _ => none
  | k + 1, x47, x48, x49 => if x49 < x48 then (if 0 ≤ x49 then (if x49 < (x47.length : Int) then (weirgatelaw01_WireTruncated.l1 k x49 (rd_L4 x47 x49) x47 x48 x49 (mn ((rd_L4 x47 x49).length : Int) 500) 0) else (none)) else (none)) else ((weirgatelaw01_sanity.f k).bind fun t557 => (some t557))
def weirgatelaw01_WireTruncated.l1 : Nat → Int → List Int → List (List Int) → Int → Int → Int → Int → Option (Bool)
  | 0, _, _, _, _, _, _, _ => none
  | k + 1, x11, x12, x47, x48, x49, x56, x57 => if x57 < x56 then (if x11 = 0 then (if 0 ≤ x57 then (if x57 ≤ (x12.length : Int) then ((wire_GetInt.f k (x12.take (x57 : Int).toNat)).bind fun bt560 => (if bt560.2.2 = 10 then (weirgatelaw01_WireTruncated.l1 k x11 x12 x47 x48 x49 x56 (wrap64 (x57 + 1))) else (none))) else (none)) else (none)) else (if x11 = 1 then (if 0 ≤ x57 then (if x57 ≤ (x12.length : Int) then ((wire_GetBytes.f k (x12.take (x57 : Int).toNat)).bind fun bt564 => (if bt564.2.2 = 10 then (weirgatelaw01_WireTruncated.l1 k x11 x12 x47 x48 x49 x56 (wrap64 (x57 + 1))) else (none))) else (none)) else (none)) else (if x11 = 2 then (if 0 ≤ x57 then (if x57 ≤ (x12.length : Int) then ((wire_GetInts.f k (x12.take (x57 : Int).toNat)).bind fun bt568 => (if bt568.2.2 = 10 then (weirgatelaw01_WireTruncated.l1 k x11 x12 x47 x48 x49 x56 (wrap64 (x57 + 1))) else (none))) else (none)) else (none)) else (if x11 = 3 then (if 0 ≤ x57 then (if x57 ≤ (x12.length : Int) then ((wire_GetStrings.f k (x12.take (x57 : Int).toNat)).bind fun bt574 => (if bt574.2.2 = 10 then (weirgatelaw01_WireTruncated.l1 k x11 x12 x47 x48 x49 x56 (wrap64 (x57 + 1))) else (none))) else (none)) else (none)) else (if 0 ≤ x57 then (if x57 ≤ (x12.length : Int) then ((wire_GetDigests.f k (x12.take (x57 : Int).toNat)).bind fun bt580 => (if bt580.2.2 = 10 then (weirgatelaw01_WireTruncated.l1 k x11 x12 x47 x48 x49 x56 (wrap64 (x57 + 1))) else (none))) else (none)) else (none)))))) else (weirgatelaw01_WireTruncated.l0 k x47 x48 (wrap64 (x49 + 1)))
end
def weirgatelaw01_WireTruncated.f (k : Nat) (a0 : Int) (a1 : ByteArray) (l2 : List Int) (l3 : List ByteArray) (l4 : List (S57)) : Option (Bool) := if (wrap64 ((wrap64 ((a1.size : Int) + (wrap64 (10 * (l2.length : Int))))) + (wrap64 (16 * (l4.length : Int))))) > 400 then (weirgatelaw01_WireTruncated.j0 k a0 a1 l2 l3 l4 true) else (if (l3.length : Int) > 40 then (weirgatelaw01_WireTruncated.j0 k a0 a1 l2 l3 l4 true) else ((weirgatelaw01_few.f k l3).bind fun t537 => (weirgatelaw01_WireTruncated.j0 k a0 a1 l2 l3 l4 (!t537))))
theorem weirgatelaw01_WireTruncated.mono_l : ∀ k, (∀ y0 y1 y2 y3 y4 y5, LeO (weirgatelaw01_WireTruncated.j0 k y0 y1 y2 y3 y4 y5) (weirgatelaw01_WireTruncated.j0 (k + 1) y0 y1 y2 y3 y4 y5)) ∧ (∀ y0 y1 y2, LeO (weirgatelaw01_WireTruncated.l0 k y0 y1 y2) (weirgatelaw01_WireTruncated.l0 (k + 1) y0 y1 y2)) ∧ (∀ y0 y1 y2 y3 y4 y5 y6, LeO (weirgatelaw01_WireTruncated.l1 k y0 y1 y2 y3 y4 y5 y6) (weirgatelaw01_WireTruncated.l1 (k + 1) y0 y1 y2 y3 y4 y5 y6))
  | 0 => ⟨fun _ _ _ _ _ _ r h => by simp [weirgatelaw01_WireTruncated.j0] at h, fun _ _ _ r h => by simp [weirgatelaw01_WireTruncated.l0] at h, fun _ _ _ _ _ _ _ r h => by simp [weirgatelaw01_WireTruncated.l1] at h⟩
  | k + 1 => by
    obtain ⟨ih0, ih1, ih2⟩ := weirgatelaw01_WireTruncated.mono_l k
    refine ⟨?_, ?_, ?_⟩
    · intro y0 y1 y2 y3 y4 y5
      unfold weirgatelaw01_WireTruncated.j0
      repeat' first
      | (with_reducible exact ih0 _ _ _ _ _ _)
      | (with_reducible exact ih1 _ _ _)
      | (with_reducible exact ih2 _ _ _ _ _ _ _)
      | (with_reducible exact weirgatelaw01_few.mono _ _)
      | (with_reducible exact weirgatelaw01_sanity.mono _)
      | (with_reducible exact wire_Bytes.mono _ _)
      | (with_reducible exact wire_Digests.mono _ _)
      | (with_reducible exact wire_GetBytes.mono _ _)
      | (with_reducible exact wire_GetDigests.mono _ _)
      | (with_reducible exact wire_GetInt.mono _ _)
      | (with_reducible exact wire_GetInts.mono _ _)
      | (with_reducible exact wire_GetStrings.mono _ _)
      | (with_reducible exact wire_Int.mono _ _)
      | (with_reducible exact wire_Ints.mono _ _)
      | (with_reducible exact wire_Strings.mono _ _)
      | (with_reducible exact LeO.refl _)
      | (with_reducible exact LeO.none _)
      | (with_reducible refine LeO.ite ?_ ?_)
      | (with_reducible refine LeO.bind ?_ (fun _ => ?_))
      | exact ih0 _ _ _ _ _ _
      | exact ih1 _ _ _
      | exact ih2 _ _ _ _ _ _ _
      | exact weirgatelaw01_few.mono _ _
      | exact weirgatelaw01_sanity.mono _
      | exact wire_Bytes.mono _ _
      | exact wire_Digests.mono _ _
      | exact wire_GetBytes.mono _ _
      | exact wire_GetDigests.mono _ _
      | exact wire_GetInt.mono _ _
      | exact wire_GetInts.mono _ _
      | exact wire_GetStrings.mono _ _
      | exact wire_Int.mono _ _
      | exact wire_Ints.mono _ _
      | exact wire_Strings.mono _ _
      | exact LeO.none _
      | refine LeO.ite ?_ ?_
      | refine LeO.bind ?_ (fun _ => ?_)
    · intro y0 y1 y2
      unfold weirgatelaw01_WireTruncated.l0
      repeat' first
      | (with_reducible exact ih0 _ _ _ _ _ _)
      | (with_reducible exact ih1 _ _ _)
      | (with_reducible exact ih2 _ _ _ _ _ _ _)
      | (with_reducible exact weirgatelaw01_few.mono _ _)
      | (with_reducible exact weirgatelaw01_sanity.mono _)
      | (with_reducible exact wire_Bytes.mono _ _)
      | (with_reducible exact wire_Digests.mono _ _)
      | (with_reducible exact wire_GetBytes.mono _ _)
      | (with_reducible exact wire_GetDigests.mono _ _)
      | (with_reducible exact wire_GetInt.mono _ _)
      | (with_reducible exact wire_GetInts.mono _ _)
      | (with_reducible exact wire_GetStrings.mono _ _)
      | (with_reducible exact wire_Int.mono _ _)
      | (with_reducible exact wire_Ints.mono _ _)
      | (with_reducible exact wire_Strings.mono _ _)
      | (with_reducible exact LeO.refl _)
      | (with_reducible exact LeO.none _)
      | (with_reducible refine LeO.ite ?_ ?_)
      | (with_reducible refine LeO.bind ?_ (fun _ => ?_))
      | exact ih0 _ _ _ _ _ _
      | exact ih1 _ _ _
      | exact ih2 _ _ _ _ _ _ _
      | exact weirgatelaw01_few.mono _ _
      | exact weirgatelaw01_sanity.mono _
      | exact wire_Bytes.mono _ _
      | exact wire_Digests.mono _ _
      | exact wire_GetBytes.mono _ _
      | exact wire_GetDigests.mono _ _
      | exact wire_GetInt.mono _ _
      | exact wire_GetInts.mono _ _
      | exact wire_GetStrings.mono _ _
      | exact wire_Int.mono _ _
      | exact wire_Ints.mono _ _
      | exact wire_Strings.mono _ _
      | exact LeO.none _
      | refine LeO.ite ?_ ?_
      | refine LeO.bind ?_ (fun _ => ?_)
    · intro y0 y1 y2 y3 y4 y5 y6
      unfold weirgatelaw01_WireTruncated.l1
      repeat' first
      | (with_reducible exact ih0 _ _ _ _ _ _)
      | (with_reducible exact ih1 _ _ _)
      | (with_reducible exact ih2 _ _ _ _ _ _ _)
      | (with_reducible exact weirgatelaw01_few.mono _ _)
      | (with_reducible exact weirgatelaw01_sanity.mono _)
      | (with_reducible exact wire_Bytes.mono _ _)
      | (with_reducible exact wire_Digests.mono _ _)
      | (with_reducible exact wire_GetBytes.mono _ _)
      | (with_reducible exact wire_GetDigests.mono _ _)
      | (with_reducible exact wire_GetInt.mono _ _)
      | (with_reducible exact wire_GetInts.mono _ _)
      | (with_reducible exact wire_GetStrings.mono _ _)
      | (with_reducible exact wire_Int.mono _ _)
      | (with_reducible exact wire_Ints.mono _ _)
      | (with_reducible exact wire_Strings.mono _ _)
      | (with_reducible exact LeO.refl _)
      | (with_reducible exact LeO.none _)
      | (with_reducible refine LeO.ite ?_ ?_)
      | (with_reducible refine LeO.bind ?_ (fun _ => ?_))
      | exact ih0 _ _ _ _ _ _
      | exact ih1 _ _ _
      | exact ih2 _ _ _ _ _ _ _
      | exact weirgatelaw01_few.mono _ _
      | exact weirgatelaw01_sanity.mono _
      | exact wire_Bytes.mono _ _
      | exact wire_Digests.mono _ _
      | exact wire_GetBytes.mono _ _
      | exact wire_GetDigests.mono _ _
      | exact wire_GetInt.mono _ _
      | exact wire_GetInts.mono _ _
      | exact wire_GetStrings.mono _ _
      | exact wire_Int.mono _ _
      | exact wire_Ints.mono _ _
      | exact wire_Strings.mono _ _
      | exact LeO.none _
      | refine LeO.ite ?_ ?_
      | refine LeO.bind ?_ (fun _ => ?_)
theorem weirgatelaw01_WireTruncated.mono : ∀ a0 a1 a2 a3 a4 k, LeO (weirgatelaw01_WireTruncated.f k a0 a1 a2 a3 a4) (weirgatelaw01_WireTruncated.f (k + 1) a0 a1 a2 a3 a4) := by
  intro a0 a1 a2 a3 a4 k
  obtain ⟨ih0, ih1, ih2⟩ := weirgatelaw01_WireTruncated.mono_l k
  unfold weirgatelaw01_WireTruncated.f
  repeat' first
      | (with_reducible exact ih0 _ _ _ _ _ _)
      | (with_reducible exact ih1 _ _ _)
      | (with_reducible exact ih2 _ _ _ _ _ _ _)
      | (with_reducible exact weirgatelaw01_few.mono _ _)
      | (with_reducible exact weirgatelaw01_sanity.mono _)
      | (with_reducible exact wire_Bytes.mono _ _)
      | (with_reducible exact wire_Digests.mono _ _)
      | (with_reducible exact wire_GetBytes.mono _ _)
      | (with_reducible exact wire_GetDigests.mono _ _)
      | (with_reducible exact wire_GetInt.mono _ _)
      | (with_reducible exact wire_GetInts.mono _ _)
      | (with_reducible exact wire_GetStrings.mono _ _)
      | (with_reducible exact wire_Int.mono _ _)
      | (with_reducible exact wire_Ints.mono _ _)
      | (with_reducible exact wire_Strings.mono _ _)
      | (with_reducible exact LeO.refl _)
      | (with_reducible exact LeO.none _)
      | (with_reducible refine LeO.ite ?_ ?_)
      | (with_reducible refine LeO.bind ?_ (fun _ => ?_))
      | exact ih0 _ _ _ _ _ _
      | exact ih1 _ _ _
      | exact ih2 _ _ _ _ _ _ _
      | exact weirgatelaw01_few.mono _ _
      | exact weirgatelaw01_sanity.mono _
      | exact wire_Bytes.mono _ _
      | exact wire_Digests.mono _ _
      | exact wire_GetBytes.mono _ _
      | exact wire_GetDigests.mono _ _
      | exact wire_GetInt.mono _ _
      | exact wire_GetInts.mono _ _
      | exact wire_GetStrings.mono _ _
      | exact wire_Int.mono _ _
      | exact wire_Ints.mono _ _
      | exact wire_Strings.mono _ _
      | exact LeO.none _
      | refine LeO.ite ?_ ?_
      | refine LeO.bind ?_ (fun _ => ?_)
set_option maxHeartbeats 8000000 in
set_option maxRecDepth 100000 in
theorem weirgatelaw01_WireTruncated.calls (k : Nat) (a0 : Int) (a1 : ByteArray) (A2 : Option Addr) (c2 : Nat) (l2 : List Int) (A3 : Option Addr) (c3 : Nat) (l3 : List ByteArray) (A4 : Option Addr) (c4 : Nat) (l4 : List (S57)) (r : Bool) (w : World) (hr2 : Kd.C (Kd.int .i64) w A2 l2.length l2) (hc2 : l2.length ≤ c2) (hr3 : Kd.C Kd.string w A3 l3.length l3) (hc3 : l3.length ≤ c3) (hr4 : Kd.C k57 w A4 l4.length l4) (hc4 : l4.length ≤ c4) (h : weirgatelaw01_WireTruncated.f k a0 a1 l2 l3 l4 = some r) :
    Calls Try.prog 9 #[.int .i64 a0, .string a1, .slice A2 l2.length c2, .slice A3 l3.length c3, .slice A4 l4.length c4] w fun e w' => e = .returned (.bool r) ∧ Below w.heap.size w w' := by
  have HR2 := Aside0.mk hr2
  have HC2 := Aside0.mk hc2
  clear hr2 hc2
  have HR3 := Aside0.mk hr3
  have HC3 := Aside0.mk hc3
  clear hr3 hc3
  have HR4 := Aside0.mk hr4
  have HC4 := Aside0.mk hc4
  clear hr4 hc4
  have HB := Aside0.mk (Below.refl w.heap.size w)
  have H : (if (wrap64 ((wrap64 ((a1.size : Int) + (wrap64 (10 * (l2.length : Int))))) + (wrap64 (16 * (l4.length : Int))))) > 400 then (weirgatelaw01_WireTruncated.j0 k a0 a1 l2 l3 l4 true) else (if (l3.length : Int) > 40 then (weirgatelaw01_WireTruncated.j0 k a0 a1 l2 l3 l4 true) else ((weirgatelaw01_few.f k l3).bind fun t537 => (weirgatelaw01_WireTruncated.j0 k a0 a1 l2 l3 l4 (!t537))))) = some r := h
  clear h
  have HC6 := Aside0.mk H
  clear H
  go_enter Try.func9, Try.ntmps9
  go_upto_region 1 with (fail)
  go_cut [35] (fun v35 wc => ∃ (kq : Nat) (x35_5 : Bool), v35 = .bool x35_5 ∧ Aside0 (weirgatelaw01_WireTruncated.j0 kq a0 a1 l2 l3 l4 x35_5 = some r) ∧ Aside0 (kq ≤ k) ∧ Aside0 (Below w.heap.size w wc))
  case first =>
    have H := HC6.out
    clear HC6
    by_cases c7 : (wrap64 ((wrap64 ((a1.size : Int) + (wrap64 (10 * (l2.length : Int))))) + (wrap64 (16 * (l4.length : Int))))) > 400
    · rw [if_pos c7] at H
      have c7b0 : decide (400 < (wrap64 ((wrap64 ((a1.size : Int) + (wrap64 (10 * (l2.length : Int))))) + (wrap64 (16 * (l4.length : Int)))))) = true := decide_eq_true c7
      clear c7
      (first | rw [c7b0] | (simp only [i64_w, i32_w]; rw [c7b0]) | skip)
      have H' := Aside0.mk H
      clear H
      go_wp2
      go_meet
      case rel => exact ⟨_, (true), (by first | rfl | (simp; done) | (simp [*]; done) | (simp only [show ∀ p : Prop, Aside0 p = p from fun p => propext ⟨Aside0.out, Aside0.mk⟩] at *; simp_all; done)), H', ⟨by first | omega | exact Nat.le_refl _⟩, ⟨bk HB.out⟩⟩
    · rw [if_neg c7] at H
      have c7b0 : decide (400 < (wrap64 ((wrap64 ((a1.size : Int) + (wrap64 (10 * (l2.length : Int))))) + (wrap64 (16 * (l4.length : Int)))))) = false := decide_eq_false c7
      clear c7
      (first | rw [c7b0] | (simp only [i64_w, i32_w]; rw [c7b0]) | skip)
      by_cases c8 : (l3.length : Int) > 40
      · rw [if_pos c8] at H
        have c8b0 : decide (40 < (l3.length : Int)) = true := decide_eq_true c8
        have c8b1 : decide (40 < l3.length) = true := decide_eq_true (by omega)
        clear c8
        have H' := Aside0.mk H
        clear H
        go_wp2
        go_meet
        case rel => exact ⟨_, (true), (by first | rfl | (simp; done) | (simp [*]; done) | (simp only [show ∀ p : Prop, Aside0 p = p from fun p => propext ⟨Aside0.out, Aside0.mk⟩] at *; simp_all; done)), H', ⟨by first | omega | exact Nat.le_refl _⟩, ⟨bk HB.out⟩⟩
      · rw [if_neg c8] at H
        have c8b0 : decide (40 < (l3.length : Int)) = false := decide_eq_false c8
        have c8b1 : decide (40 < l3.length) = false := decide_eq_false (by omega)
        clear c8
        replace H := Option.bind_eq_some_iff.mp H
        obtain ⟨t537, A90, H⟩ := H
        replace H : (weirgatelaw01_WireTruncated.j0 k a0 a1 l2 l3 l4 (!t537)) = some r := H
        have A9 := Aside0.mk A90
        clear A90
        have H' := Aside0.mk H
        clear H
        go_wp2_with (first | (go_at_call 11; (with_reducible refine (weirgatelaw01_few.calls k _ _ l3 t537 _ ?side1 ?side2 A9.out).mono ?_); (case side1 => repeat (first | exact (Kd.C_below HR3.out HB.out) | exact HR3.out | (with_reducible refine Kd.C_alloc ?_ _) | (with_reducible refine Kd.C_drewN ?_ _) | (with_reducible refine Kd.C_drew ?_))); (case side2 => exact HC3.out); rintro e w' ⟨rfl, ⟨nd, rfl⟩⟩))
        go_meet
        case rel => exact ⟨_, (!t537), (by first | rfl | (simp; done) | (simp [*]; done) | (simp only [show ∀ p : Prop, Aside0 p = p from fun p => propext ⟨Aside0.out, Aside0.mk⟩] at *; simp_all; done)), H', ⟨by first | omega | exact Nat.le_refl _⟩, ⟨bk HB.out⟩⟩
  case rest =>
    clear HC6
    try clear c2
    try clear p2
    try clear c3
    try clear c4
    try clear p6
    try clear c7
    try clear c7b0
    try clear c8
    try clear c8b0
    try clear c8b1
    try clear c9
    obtain ⟨kq, x35_5, rfl, HA, HJ5, HB⟩ := hcut
    cases kq with
    | zero => exact absurd HA.out (by simp [weirgatelaw01_WireTruncated.j0])
    | succ kj5 =>
      have H := HA.out
      clear HA
      simp only [weirgatelaw01_WireTruncated.j0] at H
      by_cases c10 : x35_5 = true
      · subst c10
        have H1 : ((weirgatelaw01_sanity.f kj5).bind fun t538 => (some t538)) = some r := by rw [if_pos rfl] at H; exact H
        clear H
        have H := H1
        clear H1
        replace H := Option.bind_eq_some_iff.mp H
        obtain ⟨t538, A110, H⟩ := H
        replace H : (some t538) = some r := H
        have A11 := Aside0.mk A110
        clear A110
        obtain rfl := Option.some.inj H
        go_wp2_with (first | ((with_reducible refine gate_callee (f := 12) rfl ?_); refine goesL_ (some 36) rfl rfl Try.func12 (by kernel_rfl) rfl #[] rfl (by (try simp only [List.map_toArray, List.map_cons, List.map_nil]); first | done | rfl | (simp only [List.length_drop, List.length_take]; rfl)) ?_; (with_reducible refine (weirgatelaw01_sanity.calls kj5  t538 _ A11.out).mono ?_); rintro e w12 ⟨rfl, hb⟩; refine ⟨_, rfl, ?_⟩; have n0_ := Aside0.mk (below_step (bk HB.out) hb); clear HB; have HB := n0_; clear n0_; (try clear hb); (try clear hb2); (try clear hk); (try clear hi)))
        go_ret
        exact ⟨by first | rfl | (simp [errW_none, errW_some] <;> rfl) | (simp [*, errW_none, errW_some] <;> rfl), bk HB.out⟩
      · replace c10 := Bool.eq_false_iff.mpr c10
        subst c10
        have H1 : ((wire_Int.f kj5 a0).bind fun t539 => ((wire_Bytes.f kj5 a1).bind fun t542 => ((wire_Ints.f kj5 l2).bind fun t545 => ((wire_Strings.f kj5 l3).bind fun t548 => ((wire_Digests.f kj5 l4).bind fun t551 => ((some (([t539, t542, t545, t548, t551] : List (List Int)) : List (List Int))).bind fun y554 => (weirgatelaw01_WireTruncated.l0 kj5 y554 (y554.length : Int) 0))))))) = some r := by rw [if_neg (show ¬ (false = true) by decide)] at H; exact H
        clear H
        have H := H1
        clear H1
        replace H := Option.bind_eq_some_iff.mp H
        obtain ⟨t539, A130, H⟩ := H
        replace H : ((wire_Bytes.f kj5 a1).bind fun t542 => ((wire_Ints.f kj5 l2).bind fun t545 => ((wire_Strings.f kj5 l3).bind fun t548 => ((wire_Digests.f kj5 l4).bind fun t551 => ((some (([t539, t542, t545, t548, t551] : List (List Int)) : List (List Int))).bind fun y554 => (weirgatelaw01_WireTruncated.l0 kj5 y554 (y554.length : Int) 0)))))) = some r := H
        have A13 := Aside0.mk A130
        clear A130
        replace H := Option.bind_eq_some_iff.mp H
        obtain ⟨t542, A140, H⟩ := H
        replace H : ((wire_Ints.f kj5 l2).bind fun t545 => ((wire_Strings.f kj5 l3).bind fun t548 => ((wire_Digests.f kj5 l4).bind fun t551 => ((some (([t539, t542, t545, t548, t551] : List (List Int)) : List (List Int))).bind fun y554 => (weirgatelaw01_WireTruncated.l0 kj5 y554 (y554.length : Int) 0))))) = some r := H
        have A14 := Aside0.mk A140
        clear A140
        replace H := Option.bind_eq_some_iff.mp H
        obtain ⟨t545, A150, H⟩ := H
        replace H : ((wire_Strings.f kj5 l3).bind fun t548 => ((wire_Digests.f kj5 l4).bind fun t551 => ((some (([t539, t542, t545, t548, t551] : List (List Int)) : List (List Int))).bind fun y554 => (weirgatelaw01_WireTruncated.l0 kj5 y554 (y554.length : Int) 0)))) = some r := H
        have A15 := Aside0.mk A150
        clear A150
        replace H := Option.bind_eq_some_iff.mp H
        obtain ⟨t548, A160, H⟩ := H
        replace H : ((wire_Digests.f kj5 l4).bind fun t551 => ((some (([t539, t542, t545, t548, t551] : List (List Int)) : List (List Int))).bind fun y554 => (weirgatelaw01_WireTruncated.l0 kj5 y554 (y554.length : Int) 0))) = some r := H
        have A16 := Aside0.mk A160
        clear A160
        replace H := Option.bind_eq_some_iff.mp H
        obtain ⟨t551, A170, H⟩ := H
        replace H : ((some (([t539, t542, t545, t548, t551] : List (List Int)) : List (List Int))).bind fun y554 => (weirgatelaw01_WireTruncated.l0 kj5 y554 (y554.length : Int) 0)) = some r := H
        have A17 := Aside0.mk A170
        clear A170
        obtain ⟨y554, hy554⟩ : ∃ y_ : List (List Int), y_ = (([t539, t542, t545, t548, t551] : List (List Int))) := ⟨_, rfl⟩
        replace H : (weirgatelaw01_WireTruncated.l0 kj5 y554 (y554.length : Int) 0) = some r := by first | (rw [hy554]; with_reducible exact H) | (have H2_ := (Option.bind_some _ _).symm.trans H; rw [hy554]; with_reducible exact H2_) | (have H2_ := (Option.bind_some _ _).symm.trans H; with_reducible exact H2_) | with_reducible exact H | (rw [hy554]; exact H) | exact H
        have Ny554 := Aside0.mk hy554
        clear hy554
        have H' := Aside0.mk H
        clear H
        go_wp2_with (first | ((with_reducible refine gate_callee (f := 14) rfl ?_); refine goesL_ (some 38) rfl rfl Try.func14 (by kernel_rfl) rfl #[.int .i64 a0] rfl (by (try simp only [List.map_toArray, List.map_cons, List.map_nil]); first | done | rfl | (simp only [List.length_drop, List.length_take]; rfl)) ?_; (with_reducible refine (wire_Int.calls kj5 a0 t539 _ A13.out).mono ?_); rintro e w18 ⟨v540, rfl, ho0, hb⟩; refine ⟨_, rfl, ?_⟩; have n0_ := Aside0.mk (Kd.R_lower ho0 (below_size (bk HB.out))); have n1_ := Aside0.mk (below_step (bk HB.out) hb); clear HB; have HO541 := n0_; have HB := n1_; clear n0_ n1_; (try clear hb); (try clear hb2); (try clear hk); (try clear hi); (try clear ho0)) | ((with_reducible refine gate_callee (f := 16) rfl ?_); refine goesL_ (some 40) rfl rfl Try.func16 (by kernel_rfl) rfl #[.string a1] rfl (by (try simp only [List.map_toArray, List.map_cons, List.map_nil]); first | done | rfl | (simp only [List.length_drop, List.length_take]; rfl)) ?_; (with_reducible refine (wire_Bytes.calls kj5 a1 t542 _ A14.out).mono ?_); rintro e w19 ⟨v543, rfl, ho0, hb⟩; refine ⟨_, rfl, ?_⟩; have n0_ := Aside0.mk (Kd.R_elder' (rk HO541.out) (Kd.R_base ho0) hb); have n1_ := Aside0.mk (Kd.R_lower (Kd.R_new' ho0 (Kd.R_lt (rk HO541.out))) (below_size (bk HB.out))); have n2_ := Aside0.mk (below_step (bk HB.out) hb); clear HO541 HB; have HO541 := n0_; have HO544 := n1_; have HB := n2_; clear n0_ n1_ n2_; (try clear hb); (try clear hb2); (try clear hk); (try clear hi); (try clear ho0)) | ((with_reducible refine gate_callee (f := 18) rfl ?_); refine goesL_ (some 42) rfl rfl Try.func18 (by kernel_rfl) rfl #[.slice A2 l2.length c2] rfl (by (try simp only [List.map_toArray, List.map_cons, List.map_nil]); first | done | rfl | (simp only [List.length_drop, List.length_take]; rfl)) ?_; (with_reducible refine (wire_Ints.calls kj5 _ _ l2 t545 _ ?side1 ?side2 A15.out).mono ?_); (case side1 => repeat (first | exact (Kd.C_below HR2.out HB.out) | exact HR2.out | (with_reducible refine Kd.C_alloc ?_ _) | (with_reducible refine Kd.C_drewN ?_ _) | (with_reducible refine Kd.C_drew ?_))); (case side2 => exact HC2.out); rintro e w20 ⟨v546, rfl, ho0, hb⟩; refine ⟨_, rfl, ?_⟩; have n0_ := Aside0.mk (Kd.R_elder' (rk HO541.out) (Kd.R_base ho0) hb); have n1_ := Aside0.mk (Kd.R_elder' (rk HO544.out) (Kd.R_base ho0) hb); have n2_ := Aside0.mk (Kd.R_lower (Kd.R_new' (Kd.R_new' ho0 (Kd.R_lt (rk HO541.out))) (Kd.R_lt (rk HO544.out))) (below_size (bk HB.out))); have n3_ := Aside0.mk (below_step (bk HB.out) hb); clear HO541 HO544 HB; have HO541 := n0_; have HO544 := n1_; have HO547 := n2_; have HB := n3_; clear n0_ n1_ n2_ n3_; (try clear hb); (try clear hb2); (try clear hk); (try clear hi); (try clear ho0)) | ((with_reducible refine gate_callee (f := 20) rfl ?_); refine goesL_ (some 44) rfl rfl Try.func20 (by kernel_rfl) rfl #[.slice A3 l3.length c3] rfl (by (try simp only [List.map_toArray, List.map_cons, List.map_nil]); first | done | rfl | (simp only [List.length_drop, List.length_take]; rfl)) ?_; (with_reducible refine (wire_Strings.calls kj5 _ _ l3 t548 _ ?side1 ?side2 A16.out).mono ?_); (case side1 => repeat (first | exact (Kd.C_below HR3.out HB.out) | exact HR3.out | (with_reducible refine Kd.C_alloc ?_ _) | (with_reducible refine Kd.C_drewN ?_ _) | (with_reducible refine Kd.C_drew ?_))); (case side2 => exact HC3.out); rintro e w21 ⟨v549, rfl, ho0, hb⟩; refine ⟨_, rfl, ?_⟩; have n0_ := Aside0.mk (Kd.R_elder' (rk HO541.out) (Kd.R_base ho0) hb); have n1_ := Aside0.mk (Kd.R_elder' (rk HO544.out) (Kd.R_base ho0) hb); have n2_ := Aside0.mk (Kd.R_elder' (rk HO547.out) (Kd.R_base ho0) hb); have n3_ := Aside0.mk (Kd.R_lower (Kd.R_new' (Kd.R_new' (Kd.R_new' ho0 (Kd.R_lt (rk HO541.out))) (Kd.R_lt (rk HO544.out))) (Kd.R_lt (rk HO547.out))) (below_size (bk HB.out))); have n4_ := Aside0.mk (below_step (bk HB.out) hb); clear HO541 HO544; clear HO547 HB; have HO541 := n0_; have HO544 := n1_; have HO547 := n2_; have HO550 := n3_; have HB := n4_; clear n0_ n1_ n2_ n3_ n4_; (try clear hb); (try clear hb2); (try clear hk); (try clear hi); (try clear ho0)) | ((with_reducible refine gate_callee (f := 22) rfl ?_); refine goesL_ (some 46) rfl rfl Try.func22 (by kernel_rfl) rfl #[.slice A4 l4.length c4] rfl (by (try simp only [List.map_toArray, List.map_cons, List.map_nil]); first | done | rfl | (simp only [List.length_drop, List.length_take]; rfl)) ?_; (with_reducible refine (wire_Digests.calls kj5 _ _ l4 t551 _ ?side1 ?side2 A17.out).mono ?_); (case side1 => repeat (first | exact (Kd.C_below HR4.out HB.out) | exact HR4.out | (with_reducible refine Kd.C_alloc ?_ _) | (with_reducible refine Kd.C_drewN ?_ _) | (with_reducible refine Kd.C_drew ?_))); (case side2 => exact HC4.out); rintro e w22 ⟨v552, rfl, ho0, hb⟩; refine ⟨_, rfl, ?_⟩; have n0_ := Aside0.mk (Kd.R_elder' (rk HO541.out) (Kd.R_base ho0) hb); have n1_ := Aside0.mk (Kd.R_elder' (rk HO544.out) (Kd.R_base ho0) hb); have n2_ := Aside0.mk (Kd.R_elder' (rk HO547.out) (Kd.R_base ho0) hb); have n3_ := Aside0.mk (Kd.R_elder' (rk HO550.out) (Kd.R_base ho0) hb); have n4_ := Aside0.mk (Kd.R_lower (Kd.R_new' (Kd.R_new' (Kd.R_new' (Kd.R_new' ho0 (Kd.R_lt (rk HO541.out))) (Kd.R_lt (rk HO544.out))) (Kd.R_lt (rk HO547.out))) (Kd.R_lt (rk HO550.out))) (below_size (bk HB.out))); have n5_ := Aside0.mk (below_step (bk HB.out) hb); clear HO541 HO544; clear HO547 HO550 HB; have HO541 := n0_; have HO544 := n1_; have HO547 := n2_; have HO550 := n3_; have HO553 := n4_; have HB := n5_; clear n0_ n1_ n2_ n3_ n4_ n5_; (try clear hb); (try clear hb2); (try clear hk); (try clear hi); (try clear ho0); obtain ⟨Ao23, co23, eo23⟩ := Kd.R_slice HO541.out; subst eo23; obtain ⟨Ao24, co24, eo24⟩ := Kd.R_slice HO544.out; subst eo24; obtain ⟨Ao25, co25, eo25⟩ := Kd.R_slice HO547.out; subst eo25; obtain ⟨Ao26, co26, eo26⟩ := Kd.R_slice HO550.out; subst eo26; obtain ⟨Ao27, co27, eo27⟩ := Kd.R_slice HO553.out; subst eo27) | ((with_reducible refine gate_dst (N := 47) rfl ?_); (try (refine gate_guard (by rfl) ?_; dsimp only)); refine Kd.N_lit (Kd.slice 5 (Kd.int .u8)) _ 28 ?hg (N' := 47) ?hd (xs := ([t539, t542, t545, t548, t551] : List (List Int))) (inner := [.slice Ao23 t539.length co23, .slice Ao24 t542.length co24, .slice Ao25 t545.length co25, .slice Ao26 t548.length co26, .slice Ao27 t551.length co27]) (ok := (fun _ => True)) (okp := (fun _ => True)) ?hr ?hp (fun _ hk => hk) ((show ∀ k_, w22.heap.size ≤ k_ → (fun _ => True) k_ from fun k_ hk => trivial) _ (Nat.le_refl _)) (Below.refl _ _) (Nat.le_refl _) (by simp) ?_; (case hd => rfl); (case hg => rfl); (case hr => first | (go_simp; done) | (go_simp; rfl)); (case hp => exact (Reps.one (show Kd.FK (Kd.slice 5 (Kd.int .u8)) _ _ t539 [.slice Ao23 t539.length co23] from (Kd.FK_slice_mk (Kd.R_reads' (Kd.R_mono (ok' := (fun _ => True)) (HO541.out) (fun k_ hk => trivial))).2.1 (Kd.R_F (Kd.R_mono (ok' := (fun _ => True)) (HO541.out) (fun k_ hk => trivial))))) (Reps.one (show Kd.FK (Kd.slice 5 (Kd.int .u8)) _ _ t542 [.slice Ao24 t542.length co24] from (Kd.FK_slice_mk (Kd.R_reads' (Kd.R_mono (ok' := (fun _ => True)) (HO544.out) (fun k_ hk => trivial))).2.1 (Kd.R_F (Kd.R_mono (ok' := (fun _ => True)) (HO544.out) (fun k_ hk => trivial))))) (Reps.one (show Kd.FK (Kd.slice 5 (Kd.int .u8)) _ _ t545 [.slice Ao25 t545.length co25] from (Kd.FK_slice_mk (Kd.R_reads' (Kd.R_mono (ok' := (fun _ => True)) (HO547.out) (fun k_ hk => trivial))).2.1 (Kd.R_F (Kd.R_mono (ok' := (fun _ => True)) (HO547.out) (fun k_ hk => trivial))))) (Reps.one (show Kd.FK (Kd.slice 5 (Kd.int .u8)) _ _ t548 [.slice Ao26 t548.length co26] from (Kd.FK_slice_mk (Kd.R_reads' (Kd.R_mono (ok' := (fun _ => True)) (HO550.out) (fun k_ hk => trivial))).2.1 (Kd.R_F (Kd.R_mono (ok' := (fun _ => True)) (HO550.out) (fun k_ hk => trivial))))) (Reps.one (show Kd.FK (Kd.slice 5 (Kd.int .u8)) _ _ t551 [.slice Ao27 t551.length co27] from (Kd.FK_slice_mk (Kd.R_reads' (Kd.R_mono (ok' := (fun _ => True)) (HO553.out) (fun k_ hk => trivial))).2.1 (Kd.R_F (Kd.R_mono (ok' := (fun _ => True)) (HO553.out) (fun k_ hk => trivial))))) (Reps.none _ _))))))); intro v555 w28 ho29 hb hg_ hnew_; clear hg_ hnew_; (first | rw [← Ny554.out] at ho29 | (simp only [Int.reduceToNat] at ho29; rw [← Ny554.out] at ho29)); have n0_ := Aside0.mk (Kd.N_lower ho29 (below_size (bk HB.out))); have n1_ := Aside0.mk (below_step (bk HB.out) hb); clear HB HO541; clear HO544 HO547; clear HO550 HO553; have HO556 := n0_; have HB := n1_; clear n0_ n1_; clear hb ho29; obtain ⟨Ao30, co30, eo30⟩ := Kd.N_slice HO556.out; subst eo30))
        go_loopg [49] kj5 (fun kq v49 w' => ∃ (x49_2 : Int), v49 = .int .i64 x49_2 ∧ Aside0 (weirgatelaw01_WireTruncated.l0 kq y554 (y554.length : Int) x49_2 = some r) ∧ Aside0 (kq ≤ kj5) ∧ Aside0 (Kd.N (Kd.slice 5 (Kd.int .u8)) 28 w' w.heap.size (fun _ => True) (.slice Ao30 y554.length co30) y554) ∧ Aside0 (Below w.heap.size w w'))
        case atStart => exact ⟨(0), (by first | rfl | (simp; done) | (simp [*]; done) | (simp only [show ∀ p : Prop, Aside0 p = p from fun p => propext ⟨Aside0.out, Aside0.mk⟩] at *; simp_all; done)), H', ⟨Nat.le_refl _⟩, ⟨by (with_reducible repeat (first | apply Kd.N_alloc | apply Kd.N_drewN | apply Kd.N_drew)); exact HO556.out⟩, ⟨bk HB.out⟩⟩
        case round =>
          clear H'
          try clear c1
          try clear c2
          try clear p2
          try clear c3
          try clear c4
          try clear p6
          try clear c7
          try clear c7b0
          try clear c8
          try clear c8b0
          try clear c8b1
          try clear c9
          try clear c10
          try clear c12
          try clear c14
          try clear c16
          try clear c18
          try clear c20
          try clear c22
          try clear p2
          try clear p6
          obtain ⟨x49_2, rfl, HA, HK2, HO_47, HB⟩ := hrel
          cases gk with
          | zero => exact absurd HA.out (by simp [weirgatelaw01_WireTruncated.l0])
          | succ k2 =>
            have H := HA.out
            clear HA
            simp only [weirgatelaw01_WireTruncated.l0] at H
            by_cases c31 : x49_2 < (y554.length : Int)
            · rw [if_pos c31] at H
              have c31b0 : decide (x49_2 < (y554.length : Int)) = true := decide_eq_true c31
              clear c31
              by_cases c32 : 0 ≤ x49_2
              · rw [if_pos c32] at H
                have c32b0 : decide (0 ≤ x49_2) = true := decide_eq_true c32
                clear c32
                by_cases c33 : x49_2 < (y554.length : Int)
                · rw [if_pos c33] at H
                  have c33b0 : decide (x49_2 < (y554.length : Int)) = true := decide_eq_true c33
                  clear c33
                  obtain ⟨ji34, hji34⟩ : ∃ j_ : Int, (mn ((rd_L4 y554 x49_2).length : Int) 500) = j_ := ⟨_, rfl⟩
                  replace H : (weirgatelaw01_WireTruncated.l1 k2 x49_2 (rd_L4 y554 x49_2) y554 (y554.length : Int) x49_2 ji34 0) = some r := by first | (rw [hji34] at H; exact H) | (simp only [hji34] at H ⊢; exact H)
                  have hji34_ : (if 500 < ((rd_L4 y554 x49_2).length : Int) then 500 else ((rd_L4 y554 x49_2).length : Int)) = ji34 := hji34
                  have H' := Aside0.mk H
                  clear H
                  have p558 : 0 ≤ (x49_2 : Int) := of_decide_eq_true (by first | (with_reducible assumption) | assumption)
                  have q558 : x49_2 < (y554.length : Int) := of_decide_eq_true (by first | (with_reducible assumption) | assumption)
                  obtain ⟨ad558, A558_0, c558_0, e558, hx558_0, hl558_0, hi558_0⟩ := at_L4 (Kd.N_reads' HO_47.out).2.2 x49_2 p558 q558
                  cases e558
                  obtain ⟨ce558, hce558, hMe558, hcc558⟩ := Kd.N_get HO_47.out [] x49_2 p558 (by first | exact q558 | exact of_decide_eq_true (by first | (with_reducible assumption) | assumption) | (have e_ := (Kd.N_reads' HO_47.out).1; omega))
                  obtain ⟨ua558_0, uc558_0, rfl, ul558_0, ge558_0⟩ := Kd.FK_slice_open hMe558
                  have hv558_0 := hcc558 0 _ rfl
                  rw [Nat.add_zero, show ((Kd.slice 5 (Kd.int .u8))).sz = 1 from rfl, Nat.mul_one] at hv558_0
                  replace hv558_0 := Option.some.inj (hv558_0.symm.trans hx558_0)
                  injection hv558_0 with hva_ hvn_ hvc_
                  rw [hva_] at ge558_0
                  rw [hvc_] at ul558_0
                  have HL558_0 := Aside0.mk (show Kd.V (Kd.int .u8) 5 _ w.heap.size _ _ (rd_L4 y554 x49_2) from Kd.V_mk ul558_0 ge558_0)
                  clear hva_ hvn_ hvc_ ge558_0 ul558_0
                  clear hcc558 hce558
                  have HR558_0 := Aside0.mk hi558_0
                  have HC558_0 := Aside0.mk hl558_0
                  clear hi558_0 hl558_0
                  replace p558 := eq_true p558
                  replace q558 := eq_true q558
                  go_wp2
                  go_loopg [57] k2 (fun kq v57 w' => ∃ (x57_3 : Int), v57 = .int .i64 x57_3 ∧ Aside0 (weirgatelaw01_WireTruncated.l1 kq x49_2 (rd_L4 y554 x49_2) y554 (y554.length : Int) x49_2 ji34 x57_3 = some r) ∧ Aside0 (kq ≤ k2) ∧ Aside0 (Kd.N (Kd.slice 5 (Kd.int .u8)) 28 w' w.heap.size (fun _ => True) (.slice (some ad558) y554.length co30) y554) ∧ Aside0 (Kd.C (Kd.int .u8) w' A558_0 (rd_L4 y554 x49_2).length (rd_L4 y554 x49_2)) ∧ Aside0 (Below w.heap.size w w'))
                  case atStart => exact ⟨(0), (by first | rfl | (simp; done) | (simp [*]; done) | (simp only [show ∀ p : Prop, Aside0 p = p from fun p => propext ⟨Aside0.out, Aside0.mk⟩] at *; simp_all; done)), H', ⟨Nat.le_refl _⟩, ⟨by (with_reducible repeat (first | apply Kd.N_alloc | apply Kd.N_drewN | apply Kd.N_drew)); exact HO_47.out⟩, ⟨by repeat (first | (with_reducible exact HR558_0.out) | (with_reducible refine Kd.C_alloc ?_ _) | (with_reducible refine Kd.C_drewN ?_ _) | (with_reducible refine Kd.C_drew ?_) | exact HR558_0.out)⟩, ⟨bk HB.out⟩⟩
                  case round =>
                    clear H'
                    try clear c1
                    try clear c2
                    try clear p2
                    try clear c3
                    try clear c4
                    try clear c5
                    try clear p5
                    try clear q5
                    try clear hx5
                    try clear p6
                    try clear c7
                    try clear c7b0
                    try clear c8
                    try clear c8b0
                    try clear c8b1
                    try clear c9
                    try clear c10
                    try clear c12
                    try clear c14
                    try clear c16
                    try clear c18
                    try clear c20
                    try clear c22
                    try clear c31
                    try clear c31b0
                    try clear c32
                    try clear c32b0
                    try clear c33
                    try clear c33b0
                    try clear hx558_0
                    try clear p2
                    try clear p558
                    try clear p6
                    try clear q558
                    obtain ⟨x57_3, rfl, HA, HK3, HO_47, HR558_0, HB⟩ := hrel
                    cases gk with
                    | zero => exact absurd HA.out (by simp [weirgatelaw01_WireTruncated.l1])
                    | succ k3 =>
                      have H := HA.out
                      clear HA
                      simp only [weirgatelaw01_WireTruncated.l1] at H
                      by_cases c35 : x57_3 < ji34
                      · rw [if_pos c35] at H
                        have c35b0 : decide (x57_3 < ji34) = true := decide_eq_true c35
                        clear c35
                        by_cases c36 : x49_2 = 0
                        · rw [if_pos c36] at H
                          have c36b0 : (x49_2 == 0) = true := beq_iff_eq.mpr c36
                          have c36b1 : (x49_2 != 0) = false := bne_eq_false_iff_eq.mpr c36
                          clear c36
                          by_cases c37 : 0 ≤ x57_3
                          · rw [if_pos c37] at H
                            have c37b0 := eq_true c37
                            have c37b1 : decide (0 ≤ x57_3) = true := decide_eq_true c37
                            clear c37
                            by_cases c38 : x57_3 ≤ ((rd_L4 y554 x49_2).length : Int)
                            · rw [if_pos c38] at H
                              have c38b0 := eq_true c38
                              have c38b1 : decide (x57_3 ≤ ((rd_L4 y554 x49_2).length : Int)) = true := decide_eq_true c38
                              clear c38
                              replace H := Option.bind_eq_some_iff.mp H
                              obtain ⟨⟨t560, t561, t562⟩, A390, H⟩ := H
                              replace H : (if t562 = 10 then (weirgatelaw01_WireTruncated.l1 k3 x49_2 (rd_L4 y554 x49_2) y554 (y554.length : Int) x49_2 ji34 (wrap64 (x57_3 + 1))) else (none)) = some r := H
                              have A39 := Aside0.mk A390
                              clear A390
                              by_cases c40 : t562 = 10
                              · rw [if_pos c40] at H
                                have c40b0 : (t562 == 10) = true := beq_iff_eq.mpr c40
                                have c40b1 : (t562 != 10) = false := bne_eq_false_iff_eq.mpr c40
                                clear c40
                                have H' := Aside0.mk H
                                clear H
                                obtain ⟨i041, hi041, _, hsz41, _⟩ := info_parts info5
                                obtain ⟨hcut41, hA41, hC41⟩ := print_take_of (P := Try.prog) (Value.int .u8) 0 28 5 .i64 Try.underlying28 hi041 hsz41 A558_0 c558_0 (rd_L4 y554 x49_2) x57_3 (of_decide_eq_true (by first | (with_reducible assumption) | assumption)) (of_decide_eq_true (by first | (with_reducible assumption) | assumption)) HC558_0.out
                                have HR559 := Aside0.mk (Kd.C_of_reads (h1 := fun _ => rfl) (hA41 _ (Kd.reads_of_C HR558_0.out)))
                                have HC559 := Aside0.mk hC41
                                clear hA41 hC41 hi041 hsz41
                                go_wp2_with (first | ((with_reducible refine gate_callee (f := 24) rfl ?_); refine goesL_ (some 75) rfl rfl Try.func24 (by kernel_rfl) rfl #[.slice A558_0 ((rd_L4 y554 x49_2).take (x57_3 : Int).toNat).length c558_0] rfl (by (try simp only [List.map_toArray, List.map_cons, List.map_nil]); first | done | (rw [show ((rd_L4 y554 x49_2).take (x57_3 : Int).toNat).length = x57_3.toNat from (by rw [List.length_take]; have h_ : (x57_3 : Int) ≤ ((rd_L4 y554 x49_2).length : Int) := of_decide_eq_true (by first | (with_reducible assumption) | assumption); omega)] <;> rfl) | rfl | (simp only [List.length_drop, List.length_take]; rfl)) ?_; (with_reducible refine (wire_GetInt.calls k3 _ _ ((rd_L4 y554 x49_2).take (x57_3 : Int).toNat) t560 t561 t562 _ ?side1 ?side2 A39.out).mono ?_); (case side1 => repeat (first | exact (Kd.C_below HR559.out HB.out) | exact HR559.out | (with_reducible refine Kd.C_alloc ?_ _) | (with_reducible refine Kd.C_drewN ?_ _) | (with_reducible refine Kd.C_drew ?_))); (case side2 => exact HC559.out); rintro e w' ⟨rfl, ⟨nd, rfl⟩⟩; refine ⟨_, rfl, ?_⟩))
                                go_roundg k3
                                case measure => have := HJ5.out; have := HK2.out; have := HK3.out; omega
                                case rel => exact ⟨(wrap64 (x57_3 + 1)), (by first | rfl | (simp; done) | (simp [*]; done) | (simp only [show ∀ p : Prop, Aside0 p = p from fun p => propext ⟨Aside0.out, Aside0.mk⟩] at *; simp_all; done)), H', ⟨by have := HJ5.out; have := HK2.out; have := HK3.out; omega⟩, ⟨by (with_reducible repeat (first | apply Kd.N_alloc | apply Kd.N_drewN | apply Kd.N_drew)); exact HO_47.out⟩, ⟨by repeat (first | (with_reducible exact HR558_0.out) | (with_reducible refine Kd.C_alloc ?_ _) | (with_reducible refine Kd.C_drewN ?_ _) | (with_reducible refine Kd.C_drew ?_) | exact HR558_0.out)⟩, ⟨bk HB.out⟩⟩
                              · rw [if_neg c40] at H
                                exact absurd H (by simp)
                            · rw [if_neg c38] at H
                              exact absurd H (by simp)
                          · rw [if_neg c37] at H
                            exact absurd H (by simp)
                        · rw [if_neg c36] at H
                          have c36b0 : (x49_2 == 0) = false := beq_eq_false_iff_ne.mpr c36
                          have c36b1 : (x49_2 != 0) = true := bne_iff_ne.mpr c36
                          by_cases c42 : x49_2 = 1
                          · rw [if_pos c42] at H
                            have c42b0 : (x49_2 == 1) = true := beq_iff_eq.mpr c42
                            have c42b1 : (x49_2 != 1) = false := bne_eq_false_iff_eq.mpr c42
                            clear c42
                            by_cases c43 : 0 ≤ x57_3
                            · rw [if_pos c43] at H
                              have c43b0 := eq_true c43
                              have c43b1 : decide (0 ≤ x57_3) = true := decide_eq_true c43
                              clear c43
                              by_cases c44 : x57_3 ≤ ((rd_L4 y554 x49_2).length : Int)
                              · rw [if_pos c44] at H
                                have c44b0 := eq_true c44
                                have c44b1 : decide (x57_3 ≤ ((rd_L4 y554 x49_2).length : Int)) = true := decide_eq_true c44
                                clear c44
                                replace H := Option.bind_eq_some_iff.mp H
                                obtain ⟨⟨t564, t565, t566⟩, A450, H⟩ := H
                                replace H : (if t566 = 10 then (weirgatelaw01_WireTruncated.l1 k3 x49_2 (rd_L4 y554 x49_2) y554 (y554.length : Int) x49_2 ji34 (wrap64 (x57_3 + 1))) else (none)) = some r := H
                                have A45 := Aside0.mk A450
                                clear A450
                                by_cases c46 : t566 = 10
                                · rw [if_pos c46] at H
                                  have c46b0 : (t566 == 10) = true := beq_iff_eq.mpr c46
                                  have c46b1 : (t566 != 10) = false := bne_eq_false_iff_eq.mpr c46
                                  clear c46
                                  have H' := Aside0.mk H
                                  clear H
                                  obtain ⟨i047, hi047, _, hsz47, _⟩ := info_parts info5
                                  obtain ⟨hcut47, hA47, hC47⟩ := print_take_of (P := Try.prog) (Value.int .u8) 0 28 5 .i64 Try.underlying28 hi047 hsz47 A558_0 c558_0 (rd_L4 y554 x49_2) x57_3 (of_decide_eq_true (by first | (with_reducible assumption) | assumption)) (of_decide_eq_true (by first | (with_reducible assumption) | assumption)) HC558_0.out
                                  have HR563 := Aside0.mk (Kd.C_of_reads (h1 := fun _ => rfl) (hA47 _ (Kd.reads_of_C HR558_0.out)))
                                  have HC563 := Aside0.mk hC47
                                  clear hA47 hC47 hi047 hsz47
                                  go_wp2_with (first | ((with_reducible refine gate_callee (f := 26) rfl ?_); refine goesL_ (some 85) rfl rfl Try.func26 (by kernel_rfl) rfl #[.slice A558_0 ((rd_L4 y554 x49_2).take (x57_3 : Int).toNat).length c558_0] rfl (by (try simp only [List.map_toArray, List.map_cons, List.map_nil]); first | done | (rw [show ((rd_L4 y554 x49_2).take (x57_3 : Int).toNat).length = x57_3.toNat from (by rw [List.length_take]; have h_ : (x57_3 : Int) ≤ ((rd_L4 y554 x49_2).length : Int) := of_decide_eq_true (by first | (with_reducible assumption) | assumption); omega)] <;> rfl) | rfl | (simp only [List.length_drop, List.length_take]; rfl)) ?_; (with_reducible refine (wire_GetBytes.calls k3 _ _ ((rd_L4 y554 x49_2).take (x57_3 : Int).toNat) t564 t565 t566 _ ?side1 ?side2 A45.out).mono ?_); (case side1 => repeat (first | exact (Kd.C_below HR563.out HB.out) | exact HR563.out | (with_reducible refine Kd.C_alloc ?_ _) | (with_reducible refine Kd.C_drewN ?_ _) | (with_reducible refine Kd.C_drew ?_))); (case side2 => exact HC563.out); rintro e w' ⟨rfl, ⟨nd, rfl⟩⟩; refine ⟨_, rfl, ?_⟩))
                                  go_roundg k3
                                  case measure => have := HJ5.out; have := HK2.out; have := HK3.out; omega
                                  case rel => exact ⟨(wrap64 (x57_3 + 1)), (by first | rfl | (simp; done) | (simp [*]; done) | (simp only [show ∀ p : Prop, Aside0 p = p from fun p => propext ⟨Aside0.out, Aside0.mk⟩] at *; simp_all; done)), H', ⟨by have := HJ5.out; have := HK2.out; have := HK3.out; omega⟩, ⟨by (with_reducible repeat (first | apply Kd.N_alloc | apply Kd.N_drewN | apply Kd.N_drew)); exact HO_47.out⟩, ⟨by repeat (first | (with_reducible exact HR558_0.out) | (with_reducible refine Kd.C_alloc ?_ _) | (with_reducible refine Kd.C_drewN ?_ _) | (with_reducible refine Kd.C_drew ?_) | exact HR558_0.out)⟩, ⟨bk HB.out⟩⟩
                                · rw [if_neg c46] at H
                                  exact absurd H (by simp)
                              · rw [if_neg c44] at H
                                exact absurd H (by simp)
                            · rw [if_neg c43] at H
                              exact absurd H (by simp)
                          · rw [if_neg c42] at H
                            have c42b0 : (x49_2 == 1) = false := beq_eq_false_iff_ne.mpr c42
                            have c42b1 : (x49_2 != 1) = true := bne_iff_ne.mpr c42
                            by_cases c48 : x49_2 = 2
                            · rw [if_pos c48] at H
                              have c48b0 : (x49_2 == 2) = true := beq_iff_eq.mpr c48
                              have c48b1 : (x49_2 != 2) = false := bne_eq_false_iff_eq.mpr c48
                              clear c48
                              by_cases c49 : 0 ≤ x57_3
                              · rw [if_pos c49] at H
                                have c49b0 := eq_true c49
                                have c49b1 : decide (0 ≤ x57_3) = true := decide_eq_true c49
                                clear c49
                                by_cases c50 : x57_3 ≤ ((rd_L4 y554 x49_2).length : Int)
                                · rw [if_pos c50] at H
                                  have c50b0 := eq_true c50
                                  have c50b1 : decide (x57_3 ≤ ((rd_L4 y554 x49_2).length : Int)) = true := decide_eq_true c50
                                  clear c50
                                  replace H := Option.bind_eq_some_iff.mp H
                                  obtain ⟨⟨t568, t569, t570⟩, A510, H⟩ := H
                                  replace H : (if t570 = 10 then (weirgatelaw01_WireTruncated.l1 k3 x49_2 (rd_L4 y554 x49_2) y554 (y554.length : Int) x49_2 ji34 (wrap64 (x57_3 + 1))) else (none)) = some r := H
                                  have A51 := Aside0.mk A510
                                  clear A510
                                  by_cases c52 : t570 = 10
                                  · rw [if_pos c52] at H
                                    have c52b0 : (t570 == 10) = true := beq_iff_eq.mpr c52
                                    have c52b1 : (t570 != 10) = false := bne_eq_false_iff_eq.mpr c52
                                    clear c52
                                    have H' := Aside0.mk H
                                    clear H
                                    obtain ⟨i053, hi053, _, hsz53, _⟩ := info_parts info5
                                    obtain ⟨hcut53, hA53, hC53⟩ := print_take_of (P := Try.prog) (Value.int .u8) 0 28 5 .i64 Try.underlying28 hi053 hsz53 A558_0 c558_0 (rd_L4 y554 x49_2) x57_3 (of_decide_eq_true (by first | (with_reducible assumption) | assumption)) (of_decide_eq_true (by first | (with_reducible assumption) | assumption)) HC558_0.out
                                    have HR567 := Aside0.mk (Kd.C_of_reads (h1 := fun _ => rfl) (hA53 _ (Kd.reads_of_C HR558_0.out)))
                                    have HC567 := Aside0.mk hC53
                                    clear hA53 hC53 hi053 hsz53
                                    go_wp2_with (first | ((with_reducible refine gate_callee (f := 28) rfl ?_); refine goesL_ (some 95) rfl rfl Try.func28 (by kernel_rfl) rfl #[.slice A558_0 ((rd_L4 y554 x49_2).take (x57_3 : Int).toNat).length c558_0] rfl (by (try simp only [List.map_toArray, List.map_cons, List.map_nil]); first | done | (rw [show ((rd_L4 y554 x49_2).take (x57_3 : Int).toNat).length = x57_3.toNat from (by rw [List.length_take]; have h_ : (x57_3 : Int) ≤ ((rd_L4 y554 x49_2).length : Int) := of_decide_eq_true (by first | (with_reducible assumption) | assumption); omega)] <;> rfl) | rfl | (simp only [List.length_drop, List.length_take]; rfl)) ?_; (with_reducible refine (wire_GetInts.calls k3 _ _ ((rd_L4 y554 x49_2).take (x57_3 : Int).toNat) t568 t569 t570 _ ?side1 ?side2 A51.out).mono ?_); (case side1 => repeat (first | exact (Kd.C_below HR567.out HB.out) | exact HR567.out | (with_reducible refine Kd.C_alloc ?_ _) | (with_reducible refine Kd.C_drewN ?_ _) | (with_reducible refine Kd.C_drew ?_))); (case side2 => exact HC567.out); rintro e w54 ⟨v571, rfl, ho0, hb⟩; refine ⟨_, rfl, ?_⟩; have n0_ := Aside0.mk (Kd.N_elder' (by (with_reducible repeat (first | apply Kd.N_alloc | apply Kd.N_drewN | apply Kd.N_drew)); exact HO_47.out) (Kd.R_base ho0) hb); have n1_ := Aside0.mk (Kd.R_lower ho0 (below_size (bk HB.out))); have n2_ := Aside0.mk (Kd.C_below (by repeat (first | (with_reducible exact HR558_0.out) | (with_reducible refine Kd.C_alloc ?_ _) | (with_reducible refine Kd.C_drewN ?_ _) | (with_reducible refine Kd.C_drew ?_) | exact HR558_0.out)) hb); have n3_ := Aside0.mk (below_step (bk HB.out) hb); clear HO_47 HR558_0 HB; have HO_47 := n0_; have HO572 := n1_; have HR558_0 := n2_; have HB := n3_; clear n0_ n1_ n2_ n3_; (try clear hb); (try clear hb2); (try clear hk); (try clear hi); (try clear ho0)))
                                    go_roundg k3
                                    case measure => have := HJ5.out; have := HK2.out; have := HK3.out; omega
                                    case rel => exact ⟨(wrap64 (x57_3 + 1)), (by first | rfl | (simp; done) | (simp [*]; done) | (simp only [show ∀ p : Prop, Aside0 p = p from fun p => propext ⟨Aside0.out, Aside0.mk⟩] at *; simp_all; done)), H', ⟨by have := HJ5.out; have := HK2.out; have := HK3.out; omega⟩, ⟨by (with_reducible repeat (first | apply Kd.N_alloc | apply Kd.N_drewN | apply Kd.N_drew)); exact Kd.N_mono HO_47.out (fun _ hk => trivial)⟩, ⟨by repeat (first | (with_reducible exact HR558_0.out) | (with_reducible refine Kd.C_alloc ?_ _) | (with_reducible refine Kd.C_drewN ?_ _) | (with_reducible refine Kd.C_drew ?_) | exact HR558_0.out)⟩, ⟨bk HB.out⟩⟩
                                  · rw [if_neg c52] at H
                                    exact absurd H (by simp)
                                · rw [if_neg c50] at H
                                  exact absurd H (by simp)
                              · rw [if_neg c49] at H
                                exact absurd H (by simp)
                            · rw [if_neg c48] at H
                              have c48b0 : (x49_2 == 2) = false := beq_eq_false_iff_ne.mpr c48
                              have c48b1 : (x49_2 != 2) = true := bne_iff_ne.mpr c48
                              by_cases c55 : x49_2 = 3
                              · rw [if_pos c55] at H
                                have c55b0 : (x49_2 == 3) = true := beq_iff_eq.mpr c55
                                have c55b1 : (x49_2 != 3) = false := bne_eq_false_iff_eq.mpr c55
                                clear c55
                                by_cases c56 : 0 ≤ x57_3
                                · rw [if_pos c56] at H
                                  have c56b0 := eq_true c56
                                  have c56b1 : decide (0 ≤ x57_3) = true := decide_eq_true c56
                                  clear c56
                                  by_cases c57 : x57_3 ≤ ((rd_L4 y554 x49_2).length : Int)
                                  · rw [if_pos c57] at H
                                    have c57b0 := eq_true c57
                                    have c57b1 : decide (x57_3 ≤ ((rd_L4 y554 x49_2).length : Int)) = true := decide_eq_true c57
                                    clear c57
                                    replace H := Option.bind_eq_some_iff.mp H
                                    obtain ⟨⟨t574, t575, t576⟩, A580, H⟩ := H
                                    replace H : (if t576 = 10 then (weirgatelaw01_WireTruncated.l1 k3 x49_2 (rd_L4 y554 x49_2) y554 (y554.length : Int) x49_2 ji34 (wrap64 (x57_3 + 1))) else (none)) = some r := H
                                    have A58 := Aside0.mk A580
                                    clear A580
                                    by_cases c59 : t576 = 10
                                    · rw [if_pos c59] at H
                                      have c59b0 : (t576 == 10) = true := beq_iff_eq.mpr c59
                                      have c59b1 : (t576 != 10) = false := bne_eq_false_iff_eq.mpr c59
                                      clear c59
                                      have H' := Aside0.mk H
                                      clear H
                                      obtain ⟨i060, hi060, _, hsz60, _⟩ := info_parts info5
                                      obtain ⟨hcut60, hA60, hC60⟩ := print_take_of (P := Try.prog) (Value.int .u8) 0 28 5 .i64 Try.underlying28 hi060 hsz60 A558_0 c558_0 (rd_L4 y554 x49_2) x57_3 (of_decide_eq_true (by first | (with_reducible assumption) | assumption)) (of_decide_eq_true (by first | (with_reducible assumption) | assumption)) HC558_0.out
                                      have HR573 := Aside0.mk (Kd.C_of_reads (h1 := fun _ => rfl) (hA60 _ (Kd.reads_of_C HR558_0.out)))
                                      have HC573 := Aside0.mk hC60
                                      clear hA60 hC60 hi060 hsz60
                                      go_wp2_with (first | ((with_reducible refine gate_callee (f := 31) rfl ?_); refine goesL_ (some 105) rfl rfl Try.func31 (by kernel_rfl) rfl #[.slice A558_0 ((rd_L4 y554 x49_2).take (x57_3 : Int).toNat).length c558_0] rfl (by (try simp only [List.map_toArray, List.map_cons, List.map_nil]); first | done | (rw [show ((rd_L4 y554 x49_2).take (x57_3 : Int).toNat).length = x57_3.toNat from (by rw [List.length_take]; have h_ : (x57_3 : Int) ≤ ((rd_L4 y554 x49_2).length : Int) := of_decide_eq_true (by first | (with_reducible assumption) | assumption); omega)] <;> rfl) | rfl | (simp only [List.length_drop, List.length_take]; rfl)) ?_; (with_reducible refine (wire_GetStrings.calls k3 _ _ ((rd_L4 y554 x49_2).take (x57_3 : Int).toNat) t574 t575 t576 _ ?side1 ?side2 A58.out).mono ?_); (case side1 => repeat (first | exact (Kd.C_below HR573.out HB.out) | exact HR573.out | (with_reducible refine Kd.C_alloc ?_ _) | (with_reducible refine Kd.C_drewN ?_ _) | (with_reducible refine Kd.C_drew ?_))); (case side2 => exact HC573.out); rintro e w61 ⟨v577, rfl, ho0, hb⟩; refine ⟨_, rfl, ?_⟩; have n0_ := Aside0.mk (Kd.N_elder' (by (with_reducible repeat (first | apply Kd.N_alloc | apply Kd.N_drewN | apply Kd.N_drew)); exact HO_47.out) (Kd.R_base ho0) hb); have n1_ := Aside0.mk (Kd.R_lower ho0 (below_size (bk HB.out))); have n2_ := Aside0.mk (Kd.C_below (by repeat (first | (with_reducible exact HR558_0.out) | (with_reducible refine Kd.C_alloc ?_ _) | (with_reducible refine Kd.C_drewN ?_ _) | (with_reducible refine Kd.C_drew ?_) | exact HR558_0.out)) hb); have n3_ := Aside0.mk (below_step (bk HB.out) hb); clear HO_47 HR558_0 HB; have HO_47 := n0_; have HO578 := n1_; have HR558_0 := n2_; have HB := n3_; clear n0_ n1_ n2_ n3_; (try clear hb); (try clear hb2); (try clear hk); (try clear hi); (try clear ho0)))
                                      go_roundg k3
                                      case measure => have := HJ5.out; have := HK2.out; have := HK3.out; omega
                                      case rel => exact ⟨(wrap64 (x57_3 + 1)), (by first | rfl | (simp; done) | (simp [*]; done) | (simp only [show ∀ p : Prop, Aside0 p = p from fun p => propext ⟨Aside0.out, Aside0.mk⟩] at *; simp_all; done)), H', ⟨by have := HJ5.out; have := HK2.out; have := HK3.out; omega⟩, ⟨by (with_reducible repeat (first | apply Kd.N_alloc | apply Kd.N_drewN | apply Kd.N_drew)); exact Kd.N_mono HO_47.out (fun _ hk => trivial)⟩, ⟨by repeat (first | (with_reducible exact HR558_0.out) | (with_reducible refine Kd.C_alloc ?_ _) | (with_reducible refine Kd.C_drewN ?_ _) | (with_reducible refine Kd.C_drew ?_) | exact HR558_0.out)⟩, ⟨bk HB.out⟩⟩
                                    · rw [if_neg c59] at H
                                      exact absurd H (by simp)
                                  · rw [if_neg c57] at H
                                    exact absurd H (by simp)
                                · rw [if_neg c56] at H
                                  exact absurd H (by simp)
                              · rw [if_neg c55] at H
                                have c55b0 : (x49_2 == 3) = false := beq_eq_false_iff_ne.mpr c55
                                have c55b1 : (x49_2 != 3) = true := bne_iff_ne.mpr c55
                                by_cases c62 : 0 ≤ x57_3
                                · rw [if_pos c62] at H
                                  have c62b0 := eq_true c62
                                  have c62b1 : decide (0 ≤ x57_3) = true := decide_eq_true c62
                                  clear c62
                                  by_cases c63 : x57_3 ≤ ((rd_L4 y554 x49_2).length : Int)
                                  · rw [if_pos c63] at H
                                    have c63b0 := eq_true c63
                                    have c63b1 : decide (x57_3 ≤ ((rd_L4 y554 x49_2).length : Int)) = true := decide_eq_true c63
                                    clear c63
                                    replace H := Option.bind_eq_some_iff.mp H
                                    obtain ⟨⟨t580, t581, t582⟩, A640, H⟩ := H
                                    replace H : (if t582 = 10 then (weirgatelaw01_WireTruncated.l1 k3 x49_2 (rd_L4 y554 x49_2) y554 (y554.length : Int) x49_2 ji34 (wrap64 (x57_3 + 1))) else (none)) = some r := H
                                    have A64 := Aside0.mk A640
                                    clear A640
                                    by_cases c65 : t582 = 10
                                    · rw [if_pos c65] at H
                                      have c65b0 : (t582 == 10) = true := beq_iff_eq.mpr c65
                                      have c65b1 : (t582 != 10) = false := bne_eq_false_iff_eq.mpr c65
                                      clear c65
                                      have H' := Aside0.mk H
                                      clear H
                                      obtain ⟨i066, hi066, _, hsz66, _⟩ := info_parts info5
                                      obtain ⟨hcut66, hA66, hC66⟩ := print_take_of (P := Try.prog) (Value.int .u8) 0 28 5 .i64 Try.underlying28 hi066 hsz66 A558_0 c558_0 (rd_L4 y554 x49_2) x57_3 (of_decide_eq_true (by first | (with_reducible assumption) | assumption)) (of_decide_eq_true (by first | (with_reducible assumption) | assumption)) HC558_0.out
                                      have HR579 := Aside0.mk (Kd.C_of_reads (h1 := fun _ => rfl) (hA66 _ (Kd.reads_of_C HR558_0.out)))
                                      have HC579 := Aside0.mk hC66
                                      clear hA66 hC66 hi066 hsz66
                                      go_wp2_with (first | ((with_reducible refine gate_callee (f := 34) rfl ?_); refine goesL_ (some 65) rfl rfl Try.func34 (by kernel_rfl) rfl #[.slice A558_0 ((rd_L4 y554 x49_2).take (x57_3 : Int).toNat).length c558_0] rfl (by (try simp only [List.map_toArray, List.map_cons, List.map_nil]); first | done | (rw [show ((rd_L4 y554 x49_2).take (x57_3 : Int).toNat).length = x57_3.toNat from (by rw [List.length_take]; have h_ : (x57_3 : Int) ≤ ((rd_L4 y554 x49_2).length : Int) := of_decide_eq_true (by first | (with_reducible assumption) | assumption); omega)] <;> rfl) | rfl | (simp only [List.length_drop, List.length_take]; rfl)) ?_; (with_reducible refine (wire_GetDigests.calls k3 _ _ ((rd_L4 y554 x49_2).take (x57_3 : Int).toNat) t580 t581 t582 _ ?side1 ?side2 A64.out).mono ?_); (case side1 => repeat (first | exact (Kd.C_below HR579.out HB.out) | exact HR579.out | (with_reducible refine Kd.C_alloc ?_ _) | (with_reducible refine Kd.C_drewN ?_ _) | (with_reducible refine Kd.C_drew ?_))); (case side2 => exact HC579.out); rintro e w67 ⟨v583, rfl, ho0, hb⟩; refine ⟨_, rfl, ?_⟩; have n0_ := Aside0.mk (Kd.N_elder' (by (with_reducible repeat (first | apply Kd.N_alloc | apply Kd.N_drewN | apply Kd.N_drew)); exact HO_47.out) (Kd.R_base ho0) hb); have n1_ := Aside0.mk (Kd.R_lower ho0 (below_size (bk HB.out))); have n2_ := Aside0.mk (Kd.C_below (by repeat (first | (with_reducible exact HR558_0.out) | (with_reducible refine Kd.C_alloc ?_ _) | (with_reducible refine Kd.C_drewN ?_ _) | (with_reducible refine Kd.C_drew ?_) | exact HR558_0.out)) hb); have n3_ := Aside0.mk (below_step (bk HB.out) hb); clear HO_47 HR558_0 HB; have HO_47 := n0_; have HO584 := n1_; have HR558_0 := n2_; have HB := n3_; clear n0_ n1_ n2_ n3_; (try clear hb); (try clear hb2); (try clear hk); (try clear hi); (try clear ho0)))
                                      go_roundg k3
                                      case measure => have := HJ5.out; have := HK2.out; have := HK3.out; omega
                                      case rel => exact ⟨(wrap64 (x57_3 + 1)), (by first | rfl | (simp; done) | (simp [*]; done) | (simp only [show ∀ p : Prop, Aside0 p = p from fun p => propext ⟨Aside0.out, Aside0.mk⟩] at *; simp_all; done)), H', ⟨by have := HJ5.out; have := HK2.out; have := HK3.out; omega⟩, ⟨by (with_reducible repeat (first | apply Kd.N_alloc | apply Kd.N_drewN | apply Kd.N_drew)); exact Kd.N_mono HO_47.out (fun _ hk => trivial)⟩, ⟨by repeat (first | (with_reducible exact HR558_0.out) | (with_reducible refine Kd.C_alloc ?_ _) | (with_reducible refine Kd.C_drewN ?_ _) | (with_reducible refine Kd.C_drew ?_) | exact HR558_0.out)⟩, ⟨bk HB.out⟩⟩
                                    · rw [if_neg c65] at H
                                      exact absurd H (by simp)
                                  · rw [if_neg c63] at H
                                    exact absurd H (by simp)
                                · rw [if_neg c62] at H
                                  exact absurd H (by simp)
                      · rw [if_neg c35] at H
                        have c35b0 : decide (x57_3 < ji34) = false := decide_eq_false c35
                        clear c35
                        have H' := Aside0.mk H
                        clear H
                        go_wp2
                        go_roundg k3
                        case measure => have := HJ5.out; have := HK2.out; have := HK3.out; omega
                        case rel => exact ⟨(wrap64 (x49_2 + 1)), (by first | rfl | (simp; done) | (simp [*]; done) | (simp only [show ∀ p : Prop, Aside0 p = p from fun p => propext ⟨Aside0.out, Aside0.mk⟩] at *; simp_all; done)), H', ⟨by have := HJ5.out; have := HK2.out; have := HK3.out; omega⟩, ⟨by (with_reducible repeat (first | apply Kd.N_alloc | apply Kd.N_drewN | apply Kd.N_drew)); exact HO_47.out⟩, ⟨bk HB.out⟩⟩
                · rw [if_neg c33] at H
                  exact absurd H (by simp)
              · rw [if_neg c32] at H
                exact absurd H (by simp)
            · rw [if_neg c31] at H
              have c31b0 : decide (x49_2 < (y554.length : Int)) = false := decide_eq_false c31
              clear c31
              replace H := Option.bind_eq_some_iff.mp H
              obtain ⟨t557, A680, H⟩ := H
              replace H : (some t557) = some r := H
              have A68 := Aside0.mk A680
              clear A680
              obtain rfl := Option.some.inj H
              go_wp2_with (first | ((with_reducible refine gate_callee (f := 12) rfl ?_); refine goesL_ (some 113) rfl rfl Try.func12 (by kernel_rfl) rfl #[] rfl (by (try simp only [List.map_toArray, List.map_cons, List.map_nil]); first | done | rfl | (simp only [List.length_drop, List.length_take]; rfl)) ?_; (with_reducible refine (weirgatelaw01_sanity.calls k2  t557 _ A68.out).mono ?_); rintro e w69 ⟨rfl, hb⟩; refine ⟨_, rfl, ?_⟩; have n0_ := Aside0.mk (Kd.N_below (by (with_reducible repeat (first | apply Kd.N_alloc | apply Kd.N_drewN | apply Kd.N_drew)); exact HO_47.out) hb); have n1_ := Aside0.mk (below_step (bk HB.out) hb); clear HO_47 HB; have HO_47 := n0_; have HB := n1_; clear n0_ n1_; (try clear hb); (try clear hb2); (try clear hk); (try clear hi)))
              go_ret
              exact ⟨by first | rfl | (simp [errW_none, errW_some] <;> rfl) | (simp [*, errW_none, errW_some] <;> rfl), bk HB.out⟩

end Go.Proofs.Ytekbhcciabgnhaa.PP
