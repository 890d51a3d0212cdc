-- laid by a program of this session (wip/xprint), out of the translation
import Derived.Test.YtekbhcciabgnhaaPP0
import Derived.Test.YtekbhcciabgnhaaPP1
import Derived.Test.YtekbhcciabgnhaaPP6
namespace Go.Proofs.Ytekbhcciabgnhaa.PP
open Go.RowKit Go.Proofs.YtekbhcciabgnhaaW.PrintWords Go.Proofs.YtekbhcciabgnhaaW.PrintLast Go.Proofs.YtekbhcciabgnhaaW.PrintMore
attribute [local go_sem] max2_int min2_int max_two min_two max_three min_three max_four min_four   -- for this text's walks alone
set_option linter.unusedVariables false
set_option linter.unusedSimpArgs false

attribute [local go_sem] isSome_put
/-! ### weirgatelaw01_WireLengths: function 5 -/
def weirgatelaw01_WireLengths.j0 : Nat → Int → Int → List Int → List Int → Bool → Option (Bool)
  | 0, _, _, _, _, _ => none
  | k + 1, x0, x1, x5, x6, x66 => if x66 = true then (none) else ((weirgatelaw01_sanity.f k).bind fun t480 => (if t480 = true then ((wire_Int.f k (wrap64 ((-1) - x0))).bind fun t481 => (if (t481.length : Int) = (x5.length : Int) then (if 0 ≤ (mn (x5.length : Int) (x6.length : Int)) then (if (mn (x5.length : Int) (x6.length : Int)) ≤ (x5.length : Int) then (if (mn (x5.length : Int) (x6.length : Int)) ≤ (x6.length : Int) then (some (((strOfNums (x5.take ((mn (x5.length : Int) (x6.length : Int)) : Int).toNat)).toList == (strOfNums (x6.take ((mn (x5.length : Int) (x6.length : Int)) : Int).toNat)).toList) == (x0 == x1))) else (none)) else (none)) else (none)) else (none))) else (none)))
def weirgatelaw01_WireLengths.f (k : Nat) (a0 : Int) (a1 : Int) : Option (Bool) := (wire_Int.f k a0).bind fun t474 => ((wire_Int.f k a1).bind fun t477 => (if (mx a0 (wrap64 ((-1) - a0))) ≤ (mx a1 (wrap64 ((-1) - a1))) then (if (t474.length : Int) > (t477.length : Int) then (weirgatelaw01_WireLengths.j0 k a0 a1 t474 t477 true) else (if (mx a1 (wrap64 ((-1) - a1))) ≤ (mx a0 (wrap64 ((-1) - a0))) then (if (t477.length : Int) > (t474.length : Int) then (weirgatelaw01_WireLengths.j0 k a0 a1 t474 t477 true) else (if (((t474.length : Int) == 1) != (decide ((mx a0 (wrap64 ((-1) - a0))) < 64))) = true then (weirgatelaw01_WireLengths.j0 k a0 a1 t474 t477 true) else (if (t474.length : Int) > 10 then (weirgatelaw01_WireLengths.j0 k a0 a1 t474 t477 true) else (if (t474.length : Int) = 0 then (weirgatelaw01_WireLengths.j0 k a0 a1 t474 t477 true) else (weirgatelaw01_WireLengths.j0 k a0 a1 t474 t477 ((t477.length : Int) == 0)))))) else (if (((t474.length : Int) == 1) != (decide ((mx a0 (wrap64 ((-1) - a0))) < 64))) = true then (weirgatelaw01_WireLengths.j0 k a0 a1 t474 t477 true) else (if (t474.length : Int) > 10 then (weirgatelaw01_WireLengths.j0 k a0 a1 t474 t477 true) else (if (t474.length : Int) = 0 then (weirgatelaw01_WireLengths.j0 k a0 a1 t474 t477 true) else (weirgatelaw01_WireLengths.j0 k a0 a1 t474 t477 ((t477.length : Int) == 0))))))) else (if (mx a1 (wrap64 ((-1) - a1))) ≤ (mx a0 (wrap64 ((-1) - a0))) then (if (t477.length : Int) > (t474.length : Int) then (weirgatelaw01_WireLengths.j0 k a0 a1 t474 t477 true) else (if (((t474.length : Int) == 1) != (decide ((mx a0 (wrap64 ((-1) - a0))) < 64))) = true then (weirgatelaw01_WireLengths.j0 k a0 a1 t474 t477 true) else (if (t474.length : Int) > 10 then (weirgatelaw01_WireLengths.j0 k a0 a1 t474 t477 true) else (if (t474.length : Int) = 0 then (weirgatelaw01_WireLengths.j0 k a0 a1 t474 t477 true) else (weirgatelaw01_WireLengths.j0 k a0 a1 t474 t477 ((t477.length : Int) == 0)))))) else (if (((t474.length : Int) == 1) != (decide ((mx a0 (wrap64 ((-1) - a0))) < 64))) = true then (weirgatelaw01_WireLengths.j0 k a0 a1 t474 t477 true) else (if (t474.length : Int) > 10 then (weirgatelaw01_WireLengths.j0 k a0 a1 t474 t477 true) else (if (t474.length : Int) = 0 then (weirgatelaw01_WireLengths.j0 k a0 a1 t474 t477 true) else (weirgatelaw01_WireLengths.j0 k a0 a1 t474 t477 ((t477.length : Int) == 0))))))))
theorem weirgatelaw01_WireLengths.mono_l : ∀ k, (∀ y0 y1 y2 y3 y4, LeO (weirgatelaw01_WireLengths.j0 k y0 y1 y2 y3 y4) (weirgatelaw01_WireLengths.j0 (k + 1) y0 y1 y2 y3 y4))
  | 0 => fun _ _ _ _ _ r h => by simp [weirgatelaw01_WireLengths.j0] at h
  | k + 1 => by
    have ih0 := weirgatelaw01_WireLengths.mono_l k
    · intro y0 y1 y2 y3 y4
      unfold weirgatelaw01_WireLengths.j0
      repeat' first
      | (with_reducible exact ih0 _ _ _ _ _)
      | (with_reducible exact weirgatelaw01_sanity.mono _)
      | (with_reducible exact wire_Int.mono _ _)
      | (with_reducible exact LeO.refl _)
      | (with_reducible exact LeO.none _)
      | (with_reducible refine LeO.ite ?_ ?_)
      | (with_reducible refine LeO.bind ?_ (fun _ => ?_))
      | exact ih0 _ _ _ _ _
      | exact weirgatelaw01_sanity.mono _
      | exact wire_Int.mono _ _
      | exact LeO.none _
      | refine LeO.ite ?_ ?_
      | refine LeO.bind ?_ (fun _ => ?_)
theorem weirgatelaw01_WireLengths.mono : ∀ a0 a1 k, LeO (weirgatelaw01_WireLengths.f k a0 a1) (weirgatelaw01_WireLengths.f (k + 1) a0 a1) := by
  intro a0 a1 k
  have ih0 := weirgatelaw01_WireLengths.mono_l k
  unfold weirgatelaw01_WireLengths.f
  repeat' first
      | (with_reducible exact ih0 _ _ _ _ _)
      | (with_reducible exact weirgatelaw01_sanity.mono _)
      | (with_reducible exact wire_Int.mono _ _)
      | (with_reducible exact LeO.refl _)
      | (with_reducible exact LeO.none _)
      | (with_reducible refine LeO.ite ?_ ?_)
      | (with_reducible refine LeO.bind ?_ (fun _ => ?_))
      | exact ih0 _ _ _ _ _
      | exact weirgatelaw01_sanity.mono _
      | exact wire_Int.mono _ _
      | exact LeO.none _
      | refine LeO.ite ?_ ?_
      | refine LeO.bind ?_ (fun _ => ?_)
def weirgatelaw01_WireLengths.T6 : Bool × List (List Nat × List Nat) := (true, [([], []), ([0, 0], [0]), ([1], [1]), ([2, 1], [1, 2]), ([3, 1, 1], [1, 3]), ([4, 1], [1, 4]), ([1], [1]), ([6, 1], [1, 6]), ([5, 7, 1], [1, 5, 7]), ([1, 8], [1, 8]), ([9, 4], [9]), ([10], [10]), ([10], [10]), ([11, 12, 10], [10, 11, 12]), ([13, 10], [10, 13]), ([10], [10]), ([10], [10]), ([15, 16, 10], [10, 15, 16]), ([17, 10], [10, 17]), ([14, 18, 10], [10, 14, 18]), ([10], [10]), ([10], [10]), ([20, 21, 10], [10, 20, 21]), ([19, 22, 10], [10, 19, 22]), ([10, 23], [10, 23]), ([24, 10, 0, 1, 2, 3, 4, 5, 6, 7, 8, 9, 10, 11, 12, 13, 14, 15, 16, 17, 18, 19, 20, 21, 22, 23, 24], [24])])
def weirgatelaw01_WireLengths.B6 : List Nat := [0, 1, 3, 7, 15, 31, 3, 67, 255, 511, 1023, 2047, 2047, 8191, 16383, 2047, 2047, 100351, 231423, 524287, 2047, 2047, 3147775, 8388607, 16777215, 33554431]
theorem weirgatelaw01_WireLengths.tab6 : rtab .any (opsOf Try.f5 6) = weirgatelaw01_WireLengths.T6 := by kernel_rfl
theorem weirgatelaw01_WireLengths.bits6 : waitsOk weirgatelaw01_WireLengths.T6.2 weirgatelaw01_WireLengths.B6 = true := by kernel_rfl
set_option maxHeartbeats 8000000 in
set_option maxRecDepth 100000 in
theorem weirgatelaw01_WireLengths.calls (k : Nat) (a0 : Int) (a1 : Int) (r : Bool) (w : World) (h : weirgatelaw01_WireLengths.f k a0 a1 = some r) :
    Calls Try.prog 5 #[.int .i64 a0, .int .i64 a1] w fun e w' => e = .returned (.bool r) ∧ Below w.heap.size w w' := by
  have HB := Aside0.mk (Below.refl w.heap.size w)
  have H : ((wire_Int.f k a0).bind fun t474 => ((wire_Int.f k a1).bind fun t477 => (if (mx a0 (wrap64 ((-1) - a0))) ≤ (mx a1 (wrap64 ((-1) - a1))) then (if (t474.length : Int) > (t477.length : Int) then (weirgatelaw01_WireLengths.j0 k a0 a1 t474 t477 true) else (if (mx a1 (wrap64 ((-1) - a1))) ≤ (mx a0 (wrap64 ((-1) - a0))) then (if (t477.length : Int) > (t474.length : Int) then (weirgatelaw01_WireLengths.j0 k a0 a1 t474 t477 true) else (if (((t474.length : Int) == 1) != (decide ((mx a0 (wrap64 ((-1) - a0))) < 64))) = true then (weirgatelaw01_WireLengths.j0 k a0 a1 t474 t477 true) else (if (t474.length : Int) > 10 then (weirgatelaw01_WireLengths.j0 k a0 a1 t474 t477 true) else (if (t474.length : Int) = 0 then (weirgatelaw01_WireLengths.j0 k a0 a1 t474 t477 true) else (weirgatelaw01_WireLengths.j0 k a0 a1 t474 t477 ((t477.length : Int) == 0)))))) else (if (((t474.length : Int) == 1) != (decide ((mx a0 (wrap64 ((-1) - a0))) < 64))) = true then (weirgatelaw01_WireLengths.j0 k a0 a1 t474 t477 true) else (if (t474.length : Int) > 10 then (weirgatelaw01_WireLengths.j0 k a0 a1 t474 t477 true) else (if (t474.length : Int) = 0 then (weirgatelaw01_WireLengths.j0 k a0 a1 t474 t477 true) else (weirgatelaw01_WireLengths.j0 k a0 a1 t474 t477 ((t477.length : Int) == 0))))))) else (if (mx a1 (wrap64 ((-1) - a1))) ≤ (mx a0 (wrap64 ((-1) - a0))) then (if (t477.length : Int) > (t474.length : Int) then (weirgatelaw01_WireLengths.j0 k a0 a1 t474 t477 true) else (if (((t474.length : Int) == 1) != (decide ((mx a0 (wrap64 ((-1) - a0))) < 64))) = true then (weirgatelaw01_WireLengths.j0 k a0 a1 t474 t477 true) else (if (t474.length : Int) > 10 then (weirgatelaw01_WireLengths.j0 k a0 a1 t474 t477 true) else (if (t474.length : Int) = 0 then (weirgatelaw01_WireLengths.j0 k a0 a1 t474 t477 true) else (weirgatelaw01_WireLengths.j0 k a0 a1 t474 t477 ((t477.length : Int) == 0)))))) else (if (((t474.length : Int) == 1) != (decide ((mx a0 (wrap64 ((-1) - a0))) < 64))) = true then (weirgatelaw01_WireLengths.j0 k a0 a1 t474 t477 true) else (if (t474.length : Int) > 10 then (weirgatelaw01_WireLengths.j0 k a0 a1 t474 t477 true) else (if (t474.length : Int) = 0 then (weirgatelaw01_WireLengths.j0 k a0 a1 t474 t477 true) else (weirgatelaw01_WireLengths.j0 k a0 a1 t474 t477 ((t477.length : Int) == 0))))))))) = some r := h
  clear h
  replace H := Option.bind_eq_some_iff.mp H
  obtain ⟨t474, A30, H⟩ := H
  replace H : ((wire_Int.f k a1).bind fun t477 => (if (mx a0 (wrap64 ((-1) - a0))) ≤ (mx a1 (wrap64 ((-1) - a1))) then (if (t474.length : Int) > (t477.length : Int) then (weirgatelaw01_WireLengths.j0 k a0 a1 t474 t477 true) else (if (mx a1 (wrap64 ((-1) - a1))) ≤ (mx a0 (wrap64 ((-1) - a0))) then (if (t477.length : Int) > (t474.length : Int) then (weirgatelaw01_WireLengths.j0 k a0 a1 t474 t477 true) else (if (((t474.length : Int) == 1) != (decide ((mx a0 (wrap64 ((-1) - a0))) < 64))) = true then (weirgatelaw01_WireLengths.j0 k a0 a1 t474 t477 true) else (if (t474.length : Int) > 10 then (weirgatelaw01_WireLengths.j0 k a0 a1 t474 t477 true) else (if (t474.length : Int) = 0 then (weirgatelaw01_WireLengths.j0 k a0 a1 t474 t477 true) else (weirgatelaw01_WireLengths.j0 k a0 a1 t474 t477 ((t477.length : Int) == 0)))))) else (if (((t474.length : Int) == 1) != (decide ((mx a0 (wrap64 ((-1) - a0))) < 64))) = true then (weirgatelaw01_WireLengths.j0 k a0 a1 t474 t477 true) else (if (t474.length : Int) > 10 then (weirgatelaw01_WireLengths.j0 k a0 a1 t474 t477 true) else (if (t474.length : Int) = 0 then (weirgatelaw01_WireLengths.j0 k a0 a1 t474 t477 true) else (weirgatelaw01_WireLengths.j0 k a0 a1 t474 t477 ((t477.length : Int) == 0))))))) else (if (mx a1 (wrap64 ((-1) - a1))) ≤ (mx a0 (wrap64 ((-1) - a0))) then (if (t477.length : Int) > (t474.length : Int) then (weirgatelaw01_WireLengths.j0 k a0 a1 t474 t477 true) else (if (((t474.length : Int) == 1) != (decide ((mx a0 (wrap64 ((-1) - a0))) < 64))) = true then (weirgatelaw01_WireLengths.j0 k a0 a1 t474 t477 true) else (if (t474.length : Int) > 10 then (weirgatelaw01_WireLengths.j0 k a0 a1 t474 t477 true) else (if (t474.length : Int) = 0 then (weirgatelaw01_WireLengths.j0 k a0 a1 t474 t477 true) else (weirgatelaw01_WireLengths.j0 k a0 a1 t474 t477 ((t477.length : Int) == 0)))))) else (if (((t474.length : Int) == 1) != (decide ((mx a0 (wrap64 ((-1) - a0))) < 64))) = true then (weirgatelaw01_WireLengths.j0 k a0 a1 t474 t477 true) else (if (t474.length : Int) > 10 then (weirgatelaw01_WireLengths.j0 k a0 a1 t474 t477 true) else (if (t474.length : Int) = 0 then (weirgatelaw01_WireLengths.j0 k a0 a1 t474 t477 true) else (weirgatelaw01_WireLengths.j0 k a0 a1 t474 t477 ((t477.length : Int) == 0)))))))) = some r := H
  have A3 := Aside0.mk A30
  clear A30
  replace H := Option.bind_eq_some_iff.mp H
  obtain ⟨t477, A40, H⟩ := H
  replace H : (if (mx a0 (wrap64 ((-1) - a0))) ≤ (mx a1 (wrap64 ((-1) - a1))) then (if (t474.length : Int) > (t477.length : Int) then (weirgatelaw01_WireLengths.j0 k a0 a1 t474 t477 true) else (if (mx a1 (wrap64 ((-1) - a1))) ≤ (mx a0 (wrap64 ((-1) - a0))) then (if (t477.length : Int) > (t474.length : Int) then (weirgatelaw01_WireLengths.j0 k a0 a1 t474 t477 true) else (if (((t474.length : Int) == 1) != (decide ((mx a0 (wrap64 ((-1) - a0))) < 64))) = true then (weirgatelaw01_WireLengths.j0 k a0 a1 t474 t477 true) else (if (t474.length : Int) > 10 then (weirgatelaw01_WireLengths.j0 k a0 a1 t474 t477 true) else (if (t474.length : Int) = 0 then (weirgatelaw01_WireLengths.j0 k a0 a1 t474 t477 true) else (weirgatelaw01_WireLengths.j0 k a0 a1 t474 t477 ((t477.length : Int) == 0)))))) else (if (((t474.length : Int) == 1) != (decide ((mx a0 (wrap64 ((-1) - a0))) < 64))) = true then (weirgatelaw01_WireLengths.j0 k a0 a1 t474 t477 true) else (if (t474.length : Int) > 10 then (weirgatelaw01_WireLengths.j0 k a0 a1 t474 t477 true) else (if (t474.length : Int) = 0 then (weirgatelaw01_WireLengths.j0 k a0 a1 t474 t477 true) else (weirgatelaw01_WireLengths.j0 k a0 a1 t474 t477 ((t477.length : Int) == 0))))))) else (if (mx a1 (wrap64 ((-1) - a1))) ≤ (mx a0 (wrap64 ((-1) - a0))) then (if (t477.length : Int) > (t474.length : Int) then (weirgatelaw01_WireLengths.j0 k a0 a1 t474 t477 true) else (if (((t474.length : Int) == 1) != (decide ((mx a0 (wrap64 ((-1) - a0))) < 64))) = true then (weirgatelaw01_WireLengths.j0 k a0 a1 t474 t477 true) else (if (t474.length : Int) > 10 then (weirgatelaw01_WireLengths.j0 k a0 a1 t474 t477 true) else (if (t474.length : Int) = 0 then (weirgatelaw01_WireLengths.j0 k a0 a1 t474 t477 true) else (weirgatelaw01_WireLengths.j0 k a0 a1 t474 t477 ((t477.length : Int) == 0)))))) else (if (((t474.length : Int) == 1) != (decide ((mx a0 (wrap64 ((-1) - a0))) < 64))) = true then (weirgatelaw01_WireLengths.j0 k a0 a1 t474 t477 true) else (if (t474.length : Int) > 10 then (weirgatelaw01_WireLengths.j0 k a0 a1 t474 t477 true) else (if (t474.length : Int) = 0 then (weirgatelaw01_WireLengths.j0 k a0 a1 t474 t477 true) else (weirgatelaw01_WireLengths.j0 k a0 a1 t474 t477 ((t477.length : Int) == 0))))))) = some r := H
  have A4 := Aside0.mk A40
  clear A40
  obtain ⟨ji5, hji5⟩ : ∃ j_ : Int, (mx a0 (wrap64 ((-1) - a0))) = j_ := ⟨_, rfl⟩
  replace H : (if (ji5) ≤ (mx a1 (wrap64 ((-1) - a1))) then (if (t474.length : Int) > (t477.length : Int) then (weirgatelaw01_WireLengths.j0 k a0 a1 t474 t477 true) else (if (mx a1 (wrap64 ((-1) - a1))) ≤ (ji5) then (if (t477.length : Int) > (t474.length : Int) then (weirgatelaw01_WireLengths.j0 k a0 a1 t474 t477 true) else (if (((t474.length : Int) == 1) != (decide ((ji5) < 64))) = true then (weirgatelaw01_WireLengths.j0 k a0 a1 t474 t477 true) else (if (t474.length : Int) > 10 then (weirgatelaw01_WireLengths.j0 k a0 a1 t474 t477 true) else (if (t474.length : Int) = 0 then (weirgatelaw01_WireLengths.j0 k a0 a1 t474 t477 true) else (weirgatelaw01_WireLengths.j0 k a0 a1 t474 t477 ((t477.length : Int) == 0)))))) else (if (((t474.length : Int) == 1) != (decide ((ji5) < 64))) = true then (weirgatelaw01_WireLengths.j0 k a0 a1 t474 t477 true) else (if (t474.length : Int) > 10 then (weirgatelaw01_WireLengths.j0 k a0 a1 t474 t477 true) else (if (t474.length : Int) = 0 then (weirgatelaw01_WireLengths.j0 k a0 a1 t474 t477 true) else (weirgatelaw01_WireLengths.j0 k a0 a1 t474 t477 ((t477.length : Int) == 0))))))) else (if (mx a1 (wrap64 ((-1) - a1))) ≤ (ji5) then (if (t477.length : Int) > (t474.length : Int) then (weirgatelaw01_WireLengths.j0 k a0 a1 t474 t477 true) else (if (((t474.length : Int) == 1) != (decide ((ji5) < 64))) = true then (weirgatelaw01_WireLengths.j0 k a0 a1 t474 t477 true) else (if (t474.length : Int) > 10 then (weirgatelaw01_WireLengths.j0 k a0 a1 t474 t477 true) else (if (t474.length : Int) = 0 then (weirgatelaw01_WireLengths.j0 k a0 a1 t474 t477 true) else (weirgatelaw01_WireLengths.j0 k a0 a1 t474 t477 ((t477.length : Int) == 0)))))) else (if (((t474.length : Int) == 1) != (decide ((ji5) < 64))) = true then (weirgatelaw01_WireLengths.j0 k a0 a1 t474 t477 true) else (if (t474.length : Int) > 10 then (weirgatelaw01_WireLengths.j0 k a0 a1 t474 t477 true) else (if (t474.length : Int) = 0 then (weirgatelaw01_WireLengths.j0 k a0 a1 t474 t477 true) else (weirgatelaw01_WireLengths.j0 k a0 a1 t474 t477 ((t477.length : Int) == 0))))))) = some r := by first | (rw [hji5] at H; exact H) | (simp only [hji5] at H ⊢; exact H)
  (try rw [hji5] at A3)
  (try rw [hji5] at A4)
  have hji5_ : (if a0 < (wrap64 ((-1) - a0)) then (wrap64 ((-1) - a0)) else a0) = ji5 := hji5
  obtain ⟨ji6, hji6⟩ : ∃ j_ : Int, (mx a1 (wrap64 ((-1) - a1))) = j_ := ⟨_, rfl⟩
  replace H : (if (ji5) ≤ (ji6) then (if (t474.length : Int) > (t477.length : Int) then (weirgatelaw01_WireLengths.j0 k a0 a1 t474 t477 true) else (if (ji6) ≤ (ji5) then (if (t477.length : Int) > (t474.length : Int) then (weirgatelaw01_WireLengths.j0 k a0 a1 t474 t477 true) else (if (((t474.length : Int) == 1) != (decide ((ji5) < 64))) = true then (weirgatelaw01_WireLengths.j0 k a0 a1 t474 t477 true) else (if (t474.length : Int) > 10 then (weirgatelaw01_WireLengths.j0 k a0 a1 t474 t477 true) else (if (t474.length : Int) = 0 then (weirgatelaw01_WireLengths.j0 k a0 a1 t474 t477 true) else (weirgatelaw01_WireLengths.j0 k a0 a1 t474 t477 ((t477.length : Int) == 0)))))) else (if (((t474.length : Int) == 1) != (decide ((ji5) < 64))) = true then (weirgatelaw01_WireLengths.j0 k a0 a1 t474 t477 true) else (if (t474.length : Int) > 10 then (weirgatelaw01_WireLengths.j0 k a0 a1 t474 t477 true) else (if (t474.length : Int) = 0 then (weirgatelaw01_WireLengths.j0 k a0 a1 t474 t477 true) else (weirgatelaw01_WireLengths.j0 k a0 a1 t474 t477 ((t477.length : Int) == 0))))))) else (if (ji6) ≤ (ji5) then (if (t477.length : Int) > (t474.length : Int) then (weirgatelaw01_WireLengths.j0 k a0 a1 t474 t477 true) else (if (((t474.length : Int) == 1) != (decide ((ji5) < 64))) = true then (weirgatelaw01_WireLengths.j0 k a0 a1 t474 t477 true) else (if (t474.length : Int) > 10 then (weirgatelaw01_WireLengths.j0 k a0 a1 t474 t477 true) else (if (t474.length : Int) = 0 then (weirgatelaw01_WireLengths.j0 k a0 a1 t474 t477 true) else (weirgatelaw01_WireLengths.j0 k a0 a1 t474 t477 ((t477.length : Int) == 0)))))) else (if (((t474.length : Int) == 1) != (decide ((ji5) < 64))) = true then (weirgatelaw01_WireLengths.j0 k a0 a1 t474 t477 true) else (if (t474.length : Int) > 10 then (weirgatelaw01_WireLengths.j0 k a0 a1 t474 t477 true) else (if (t474.length : Int) = 0 then (weirgatelaw01_WireLengths.j0 k a0 a1 t474 t477 true) else (weirgatelaw01_WireLengths.j0 k a0 a1 t474 t477 ((t477.length : Int) == 0))))))) = some r := by first | (rw [hji6] at H; exact H) | (simp only [hji6] at H ⊢; exact H)
  (try rw [hji6] at A3)
  (try rw [hji6] at A4)
  have hji6_ : (if a1 < (wrap64 ((-1) - a1)) then (wrap64 ((-1) - a1)) else a1) = ji6 := hji6
  have HC7 := Aside0.mk H
  clear H
  go_enter Try.func5, Try.ntmps5
  go_upto_region 3 with (first | ((with_reducible refine gate_callee (f := 14) rfl ?_); refine goesL_ (some 11) rfl rfl Try.func14 (by kernel_rfl) rfl #[.int .i64 a0] rfl (by (try simp only [List.map_toArray, List.map_cons, List.map_nil]); first | done | rfl | (simp only [List.length_drop, List.length_take]; rfl)) ?_; (with_reducible refine (wire_Int.calls k a0 t474 _ A3.out).mono ?_); rintro e w8 ⟨v475, rfl, ho0, hb⟩; refine ⟨_, rfl, ?_⟩; have n0_ := Aside0.mk (Kd.R_lower ho0 (below_size (bk HB.out))); have n1_ := Aside0.mk (below_step (bk HB.out) hb); clear HB; have HO476 := n0_; have HB := n1_; clear n0_ n1_; (try clear hb); (try clear hb2); (try clear hk); (try clear hi); (try clear ho0)) | ((with_reducible refine gate_callee (f := 14) rfl ?_); refine goesL_ (some 13) rfl rfl Try.func14 (by kernel_rfl) rfl #[.int .i64 a1] rfl (by (try simp only [List.map_toArray, List.map_cons, List.map_nil]); first | done | rfl | (simp only [List.length_drop, List.length_take]; rfl)) ?_; (with_reducible refine (wire_Int.calls k a1 t477 _ A4.out).mono ?_); rintro e w9 ⟨v478, rfl, ho0, hb⟩; refine ⟨_, rfl, ?_⟩; have n0_ := Aside0.mk (Kd.R_elder' (rk HO476.out) (Kd.R_base ho0) hb); have n1_ := Aside0.mk (Kd.R_lower (Kd.R_new' ho0 (Kd.R_lt (rk HO476.out))) (below_size (bk HB.out))); have n2_ := Aside0.mk (below_step (bk HB.out) hb); clear HO476 HB; have HO476 := n0_; have HO479 := n1_; have HB := n2_; clear n0_ n1_ n2_; (try clear hb); (try clear hb2); (try clear hk); (try clear hi); (try clear ho0)))
  (try simp only [Act.put, List.setIfInBounds_toArray, List.set_cons_zero, List.set_cons_succ])
  go_cut [66] (fun v66 wc => ∃ (kq : Nat) (x66_6 : Bool), v66 = .bool x66_6 ∧ Aside0 (weirgatelaw01_WireLengths.j0 kq a0 a1 t474 t477 x66_6 = some r) ∧ Aside0 (kq ≤ k) ∧ Aside0 (Kd.R (Kd.int .u8) 5 wc w.heap.size (fun k_ => some k_ ≠ (v478 : Value).ownBlock) v475 t474) ∧ Aside0 (Kd.R (Kd.int .u8) 5 wc w.heap.size (fun k_ => some k_ ≠ (v475 : Value).ownBlock) v478 t477) ∧ Aside0 (Below w.heap.size w wc))
  case first =>
    have H := HC7.out
    clear HC7
    by_cases c10 : (ji5) ≤ (ji6)
    · rw [if_pos c10] at H
      have c10b0 : decide ((ji5) ≤ (ji6)) = true := decide_eq_true c10
      clear c10
      (first | rw [c10b0] | (simp only [i64_w, i32_w]; rw [c10b0]) | skip)
      by_cases c11 : (t474.length : Int) > (t477.length : Int)
      · rw [if_pos c11] at H
        have c11b0 : decide ((t477.length : Int) < (t474.length : Int)) = true := decide_eq_true c11
        have c11b1 : decide (t477.length < t474.length) = true := decide_eq_true (Int.ofNat_lt.mp c11)
        clear c11
        have H' := Aside0.mk H
        clear H
        obtain ⟨Ao12, co12, eo12⟩ := Kd.R_slice HO476.out
        subst eo12
        have le_co12 := (Kd.R_reads' HO476.out).2.1
        obtain ⟨Ao13, co13, eo13⟩ := Kd.R_slice HO479.out
        subst eo13
        have le_co13 := (Kd.R_reads' HO479.out).2.1
        go_wp2
        go_meet
        case rel => exact ⟨_, (true), (by first | rfl | (simp; done) | (simp [*]; done) | (simp only [show ∀ p : Prop, Aside0 p = p from fun p => propext ⟨Aside0.out, Aside0.mk⟩] at *; simp_all; done)), H', ⟨by first | omega | exact Nat.le_refl _⟩, ⟨by (with_reducible repeat (first | apply Kd.R_alloc | apply Kd.R_drewN | apply Kd.R_drew)); exact Kd.R_mono HO476.out (fun _ hk => hk.2)⟩, ⟨by (with_reducible repeat (first | apply Kd.R_alloc | apply Kd.R_drewN | apply Kd.R_drew)); exact Kd.R_mono HO479.out (fun _ hk => hk.2)⟩, ⟨bk HB.out⟩⟩
      · rw [if_neg c11] at H
        have c11b0 : decide ((t477.length : Int) < (t474.length : Int)) = false := decide_eq_false c11
        have c11b1 : decide (t477.length < t474.length) = false := decide_eq_false (fun h => c11 (Int.ofNat_lt.mpr h))
        clear c11
        by_cases c14 : (ji6) ≤ (ji5)
        · rw [if_pos c14] at H
          have c14b0 : decide ((ji6) ≤ (ji5)) = true := decide_eq_true c14
          clear c14
          by_cases c15 : (t477.length : Int) > (t474.length : Int)
          · rw [if_pos c15] at H
            have c15b0 : decide ((t474.length : Int) < (t477.length : Int)) = true := decide_eq_true c15
            have c15b1 : decide (t474.length < t477.length) = true := decide_eq_true (Int.ofNat_lt.mp c15)
            clear c15
            have H' := Aside0.mk H
            clear H
            obtain ⟨Ao16, co16, eo16⟩ := Kd.R_slice HO476.out
            subst eo16
            have le_co16 := (Kd.R_reads' HO476.out).2.1
            obtain ⟨Ao17, co17, eo17⟩ := Kd.R_slice HO479.out
            subst eo17
            have le_co17 := (Kd.R_reads' HO479.out).2.1
            go_wp2
            go_meet
            case rel => exact ⟨_, (true), (by first | rfl | (simp; done) | (simp [*]; done) | (simp only [show ∀ p : Prop, Aside0 p = p from fun p => propext ⟨Aside0.out, Aside0.mk⟩] at *; simp_all; done)), H', ⟨by first | omega | exact Nat.le_refl _⟩, ⟨by (with_reducible repeat (first | apply Kd.R_alloc | apply Kd.R_drewN | apply Kd.R_drew)); exact Kd.R_mono HO476.out (fun _ hk => hk.2)⟩, ⟨by (with_reducible repeat (first | apply Kd.R_alloc | apply Kd.R_drewN | apply Kd.R_drew)); exact Kd.R_mono HO479.out (fun _ hk => hk.2)⟩, ⟨bk HB.out⟩⟩
          · rw [if_neg c15] at H
            have c15b0 : decide ((t474.length : Int) < (t477.length : Int)) = false := decide_eq_false c15
            have c15b1 : decide (t474.length < t477.length) = false := decide_eq_false (fun h => c15 (Int.ofNat_lt.mpr h))
            clear c15
            by_cases c18 : (((t474.length : Int) == 1) != (decide ((ji5) < 64))) = true
            · rw [if_pos c18] at H
              have c18b0 : (((t474.length : Int) == 1) != (decide ((ji5) < 64))) = true := c18
              (try (have c18b1 : decide (((t474.length : Int) == 1) = (decide ((ji5) < 64))) = false := by simpa using c18))
              (try (have c18b2 : (((t474.length : Int) == 1) == (decide ((ji5) < 64))) = false := by simpa using c18))
              (try (have c18b3 : ¬ (((t474.length : Int) == 1) = (decide ((ji5) < 64))) := by simpa using c18))
              clear c18
              have H' := Aside0.mk H
              clear H
              obtain ⟨Ao19, co19, eo19⟩ := Kd.R_slice HO476.out
              subst eo19
              have le_co19 := (Kd.R_reads' HO476.out).2.1
              obtain ⟨Ao20, co20, eo20⟩ := Kd.R_slice HO479.out
              subst eo20
              have le_co20 := (Kd.R_reads' HO479.out).2.1
              go_wp2
              go_meet
              case rel => exact ⟨_, (true), (by first | rfl | (simp; done) | (simp [*]; done) | (simp only [show ∀ p : Prop, Aside0 p = p from fun p => propext ⟨Aside0.out, Aside0.mk⟩] at *; simp_all; done)), H', ⟨by first | omega | exact Nat.le_refl _⟩, ⟨by (with_reducible repeat (first | apply Kd.R_alloc | apply Kd.R_drewN | apply Kd.R_drew)); exact Kd.R_mono HO476.out (fun _ hk => hk.2)⟩, ⟨by (with_reducible repeat (first | apply Kd.R_alloc | apply Kd.R_drewN | apply Kd.R_drew)); exact Kd.R_mono HO479.out (fun _ hk => hk.2)⟩, ⟨bk HB.out⟩⟩
            · rw [if_neg c18] at H
              have c18b0 : (((t474.length : Int) == 1) != (decide ((ji5) < 64))) = false := by simpa using c18
              (try (have c18b1 : decide (((t474.length : Int) == 1) = (decide ((ji5) < 64))) = true := by simpa using c18))
              (try (have c18b2 : (((t474.length : Int) == 1) == (decide ((ji5) < 64))) = true := by simpa using c18))
              clear c18
              by_cases c21 : (t474.length : Int) > 10
              · rw [if_pos c21] at H
                have c21b0 : decide (10 < (t474.length : Int)) = true := decide_eq_true c21
                have c21b1 : decide (10 < t474.length) = true := decide_eq_true (by omega)
                clear c21
                have H' := Aside0.mk H
                clear H
                obtain ⟨Ao22, co22, eo22⟩ := Kd.R_slice HO476.out
                subst eo22
                have le_co22 := (Kd.R_reads' HO476.out).2.1
                obtain ⟨Ao23, co23, eo23⟩ := Kd.R_slice HO479.out
                subst eo23
                have le_co23 := (Kd.R_reads' HO479.out).2.1
                go_wp2
                go_meet
                case rel => exact ⟨_, (true), (by first | rfl | (simp; done) | (simp [*]; done) | (simp only [show ∀ p : Prop, Aside0 p = p from fun p => propext ⟨Aside0.out, Aside0.mk⟩] at *; simp_all; done)), H', ⟨by first | omega | exact Nat.le_refl _⟩, ⟨by (with_reducible repeat (first | apply Kd.R_alloc | apply Kd.R_drewN | apply Kd.R_drew)); exact Kd.R_mono HO476.out (fun _ hk => hk.2)⟩, ⟨by (with_reducible repeat (first | apply Kd.R_alloc | apply Kd.R_drewN | apply Kd.R_drew)); exact Kd.R_mono HO479.out (fun _ hk => hk.2)⟩, ⟨bk HB.out⟩⟩
              · rw [if_neg c21] at H
                have c21b0 : decide (10 < (t474.length : Int)) = false := decide_eq_false c21
                have c21b1 : decide (10 < t474.length) = false := decide_eq_false (by omega)
                clear c21
                by_cases c24 : (t474.length : Int) = 0
                · rw [if_pos c24] at H
                  have c24b0 : ((t474.length : Int) == 0) = true := beq_iff_eq.mpr c24
                  have c24b1 : ((t474.length : Int) != 0) = false := bne_eq_false_iff_eq.mpr c24
                  clear c24
                  have H' := Aside0.mk H
                  clear H
                  obtain ⟨Ao25, co25, eo25⟩ := Kd.R_slice HO476.out
                  subst eo25
                  have le_co25 := (Kd.R_reads' HO476.out).2.1
                  obtain ⟨Ao26, co26, eo26⟩ := Kd.R_slice HO479.out
                  subst eo26
                  have le_co26 := (Kd.R_reads' HO479.out).2.1
                  go_wp2
                  go_meet
                  case rel => exact ⟨_, (true), (by first | rfl | (simp; done) | (simp [*]; done) | (simp only [show ∀ p : Prop, Aside0 p = p from fun p => propext ⟨Aside0.out, Aside0.mk⟩] at *; simp_all; done)), H', ⟨by first | omega | exact Nat.le_refl _⟩, ⟨by (with_reducible repeat (first | apply Kd.R_alloc | apply Kd.R_drewN | apply Kd.R_drew)); exact Kd.R_mono HO476.out (fun _ hk => hk.2)⟩, ⟨by (with_reducible repeat (first | apply Kd.R_alloc | apply Kd.R_drewN | apply Kd.R_drew)); exact Kd.R_mono HO479.out (fun _ hk => hk.2)⟩, ⟨bk HB.out⟩⟩
                · rw [if_neg c24] at H
                  have c24b0 : ((t474.length : Int) == 0) = false := beq_eq_false_iff_ne.mpr c24
                  have c24b1 : ((t474.length : Int) != 0) = true := bne_iff_ne.mpr c24
                  have c24b2 : ¬ (t474 = []) := fun h_ => c24 (by rw [h_]; rfl)
                  have H' := Aside0.mk H
                  clear H
                  obtain ⟨Ao27, co27, eo27⟩ := Kd.R_slice HO476.out
                  subst eo27
                  have le_co27 := (Kd.R_reads' HO476.out).2.1
                  obtain ⟨Ao28, co28, eo28⟩ := Kd.R_slice HO479.out
                  subst eo28
                  have le_co28 := (Kd.R_reads' HO479.out).2.1
                  go_wp2
                  go_meet
                  case rel => exact ⟨_, (((t477.length : Int) == 0)), (by first | rfl | (simp; done) | (simp [*]; done) | (simp only [show ∀ p : Prop, Aside0 p = p from fun p => propext ⟨Aside0.out, Aside0.mk⟩] at *; simp_all; done)), H', ⟨by first | omega | exact Nat.le_refl _⟩, ⟨by (with_reducible repeat (first | apply Kd.R_alloc | apply Kd.R_drewN | apply Kd.R_drew)); exact Kd.R_mono HO476.out (fun _ hk => hk.2)⟩, ⟨by (with_reducible repeat (first | apply Kd.R_alloc | apply Kd.R_drewN | apply Kd.R_drew)); exact Kd.R_mono HO479.out (fun _ hk => hk.2)⟩, ⟨bk HB.out⟩⟩
        · rw [if_neg c14] at H
          have c14b0 : decide ((ji6) ≤ (ji5)) = false := decide_eq_false c14
          clear c14
          by_cases c29 : (((t474.length : Int) == 1) != (decide ((ji5) < 64))) = true
          · rw [if_pos c29] at H
            have c29b0 : (((t474.length : Int) == 1) != (decide ((ji5) < 64))) = true := c29
            (try (have c29b1 : decide (((t474.length : Int) == 1) = (decide ((ji5) < 64))) = false := by simpa using c29))
            (try (have c29b2 : (((t474.length : Int) == 1) == (decide ((ji5) < 64))) = false := by simpa using c29))
            (try (have c29b3 : ¬ (((t474.length : Int) == 1) = (decide ((ji5) < 64))) := by simpa using c29))
            clear c29
            have H' := Aside0.mk H
            clear H
            obtain ⟨Ao30, co30, eo30⟩ := Kd.R_slice HO476.out
            subst eo30
            have le_co30 := (Kd.R_reads' HO476.out).2.1
            obtain ⟨Ao31, co31, eo31⟩ := Kd.R_slice HO479.out
            subst eo31
            have le_co31 := (Kd.R_reads' HO479.out).2.1
            go_wp2
            go_meet
            case rel => exact ⟨_, (true), (by first | rfl | (simp; done) | (simp [*]; done) | (simp only [show ∀ p : Prop, Aside0 p = p from fun p => propext ⟨Aside0.out, Aside0.mk⟩] at *; simp_all; done)), H', ⟨by first | omega | exact Nat.le_refl _⟩, ⟨by (with_reducible repeat (first | apply Kd.R_alloc | apply Kd.R_drewN | apply Kd.R_drew)); exact Kd.R_mono HO476.out (fun _ hk => hk.2)⟩, ⟨by (with_reducible repeat (first | apply Kd.R_alloc | apply Kd.R_drewN | apply Kd.R_drew)); exact Kd.R_mono HO479.out (fun _ hk => hk.2)⟩, ⟨bk HB.out⟩⟩
          · rw [if_neg c29] at H
            have c29b0 : (((t474.length : Int) == 1) != (decide ((ji5) < 64))) = false := by simpa using c29
            (try (have c29b1 : decide (((t474.length : Int) == 1) = (decide ((ji5) < 64))) = true := by simpa using c29))
            (try (have c29b2 : (((t474.length : Int) == 1) == (decide ((ji5) < 64))) = true := by simpa using c29))
            clear c29
            by_cases c32 : (t474.length : Int) > 10
            · rw [if_pos c32] at H
              have c32b0 : decide (10 < (t474.length : Int)) = true := decide_eq_true c32
              have c32b1 : decide (10 < t474.length) = true := decide_eq_true (by omega)
              clear c32
              have H' := Aside0.mk H
              clear H
              obtain ⟨Ao33, co33, eo33⟩ := Kd.R_slice HO476.out
              subst eo33
              have le_co33 := (Kd.R_reads' HO476.out).2.1
              obtain ⟨Ao34, co34, eo34⟩ := Kd.R_slice HO479.out
              subst eo34
              have le_co34 := (Kd.R_reads' HO479.out).2.1
              go_wp2
              go_meet
              case rel => exact ⟨_, (true), (by first | rfl | (simp; done) | (simp [*]; done) | (simp only [show ∀ p : Prop, Aside0 p = p from fun p => propext ⟨Aside0.out, Aside0.mk⟩] at *; simp_all; done)), H', ⟨by first | omega | exact Nat.le_refl _⟩, ⟨by (with_reducible repeat (first | apply Kd.R_alloc | apply Kd.R_drewN | apply Kd.R_drew)); exact Kd.R_mono HO476.out (fun _ hk => hk.2)⟩, ⟨by (with_reducible repeat (first | apply Kd.R_alloc | apply Kd.R_drewN | apply Kd.R_drew)); exact Kd.R_mono HO479.out (fun _ hk => hk.2)⟩, ⟨bk HB.out⟩⟩
            · rw [if_neg c32] at H
              have c32b0 : decide (10 < (t474.length : Int)) = false := decide_eq_false c32
              have c32b1 : decide (10 < t474.length) = false := decide_eq_false (by omega)
              clear c32
              by_cases c35 : (t474.length : Int) = 0
              · rw [if_pos c35] at H
                have c35b0 : ((t474.length : Int) == 0) = true := beq_iff_eq.mpr c35
                have c35b1 : ((t474.length : Int) != 0) = false := bne_eq_false_iff_eq.mpr c35
                clear c35
                have H' := Aside0.mk H
                clear H
                obtain ⟨Ao36, co36, eo36⟩ := Kd.R_slice HO476.out
                subst eo36
                have le_co36 := (Kd.R_reads' HO476.out).2.1
                obtain ⟨Ao37, co37, eo37⟩ := Kd.R_slice HO479.out
                subst eo37
                have le_co37 := (Kd.R_reads' HO479.out).2.1
                go_wp2
                go_meet
                case rel => exact ⟨_, (true), (by first | rfl | (simp; done) | (simp [*]; done) | (simp only [show ∀ p : Prop, Aside0 p = p from fun p => propext ⟨Aside0.out, Aside0.mk⟩] at *; simp_all; done)), H', ⟨by first | omega | exact Nat.le_refl _⟩, ⟨by (with_reducible repeat (first | apply Kd.R_alloc | apply Kd.R_drewN | apply Kd.R_drew)); exact Kd.R_mono HO476.out (fun _ hk => hk.2)⟩, ⟨by (with_reducible repeat (first | apply Kd.R_alloc | apply Kd.R_drewN | apply Kd.R_drew)); exact Kd.R_mono HO479.out (fun _ hk => hk.2)⟩, ⟨bk HB.out⟩⟩
              · rw [if_neg c35] at H
                have c35b0 : ((t474.length : Int) == 0) = false := beq_eq_false_iff_ne.mpr c35
                have c35b1 : ((t474.length : Int) != 0) = true := bne_iff_ne.mpr c35
                have c35b2 : ¬ (t474 = []) := fun h_ => c35 (by rw [h_]; rfl)
                have H' := Aside0.mk H
                clear H
                obtain ⟨Ao38, co38, eo38⟩ := Kd.R_slice HO476.out
                subst eo38
                have le_co38 := (Kd.R_reads' HO476.out).2.1
                obtain ⟨Ao39, co39, eo39⟩ := Kd.R_slice HO479.out
                subst eo39
                have le_co39 := (Kd.R_reads' HO479.out).2.1
                go_wp2
                go_meet
                case rel => exact ⟨_, (((t477.length : Int) == 0)), (by first | rfl | (simp; done) | (simp [*]; done) | (simp only [show ∀ p : Prop, Aside0 p = p from fun p => propext ⟨Aside0.out, Aside0.mk⟩] at *; simp_all; done)), H', ⟨by first | omega | exact Nat.le_refl _⟩, ⟨by (with_reducible repeat (first | apply Kd.R_alloc | apply Kd.R_drewN | apply Kd.R_drew)); exact Kd.R_mono HO476.out (fun _ hk => hk.2)⟩, ⟨by (with_reducible repeat (first | apply Kd.R_alloc | apply Kd.R_drewN | apply Kd.R_drew)); exact Kd.R_mono HO479.out (fun _ hk => hk.2)⟩, ⟨bk HB.out⟩⟩
    · rw [if_neg c10] at H
      have c10b0 : decide ((ji5) ≤ (ji6)) = false := decide_eq_false c10
      clear c10
      (first | rw [c10b0] | (simp only [i64_w, i32_w]; rw [c10b0]) | skip)
      by_cases c40 : (ji6) ≤ (ji5)
      · rw [if_pos c40] at H
        have c40b0 : decide ((ji6) ≤ (ji5)) = true := decide_eq_true c40
        clear c40
        by_cases c41 : (t477.length : Int) > (t474.length : Int)
        · rw [if_pos c41] at H
          have c41b0 : decide ((t474.length : Int) < (t477.length : Int)) = true := decide_eq_true c41
          have c41b1 : decide (t474.length < t477.length) = true := decide_eq_true (Int.ofNat_lt.mp c41)
          clear c41
          have H' := Aside0.mk H
          clear H
          obtain ⟨Ao42, co42, eo42⟩ := Kd.R_slice HO479.out
          subst eo42
          have le_co42 := (Kd.R_reads' HO479.out).2.1
          obtain ⟨Ao43, co43, eo43⟩ := Kd.R_slice HO476.out
          subst eo43
          have le_co43 := (Kd.R_reads' HO476.out).2.1
          go_wp2
          go_meet
          case rel => exact ⟨_, (true), (by first | rfl | (simp; done) | (simp [*]; done) | (simp only [show ∀ p : Prop, Aside0 p = p from fun p => propext ⟨Aside0.out, Aside0.mk⟩] at *; simp_all; done)), H', ⟨by first | omega | exact Nat.le_refl _⟩, ⟨by (with_reducible repeat (first | apply Kd.R_alloc | apply Kd.R_drewN | apply Kd.R_drew)); exact Kd.R_mono HO476.out (fun _ hk => hk.2)⟩, ⟨by (with_reducible repeat (first | apply Kd.R_alloc | apply Kd.R_drewN | apply Kd.R_drew)); exact Kd.R_mono HO479.out (fun _ hk => hk.2)⟩, ⟨bk HB.out⟩⟩
        · rw [if_neg c41] at H
          have c41b0 : decide ((t474.length : Int) < (t477.length : Int)) = false := decide_eq_false c41
          have c41b1 : decide (t474.length < t477.length) = false := decide_eq_false (fun h => c41 (Int.ofNat_lt.mpr h))
          clear c41
          by_cases c44 : (((t474.length : Int) == 1) != (decide ((ji5) < 64))) = true
          · rw [if_pos c44] at H
            have c44b0 : (((t474.length : Int) == 1) != (decide ((ji5) < 64))) = true := c44
            (try (have c44b1 : decide (((t474.length : Int) == 1) = (decide ((ji5) < 64))) = false := by simpa using c44))
            (try (have c44b2 : (((t474.length : Int) == 1) == (decide ((ji5) < 64))) = false := by simpa using c44))
            (try (have c44b3 : ¬ (((t474.length : Int) == 1) = (decide ((ji5) < 64))) := by simpa using c44))
            clear c44
            have H' := Aside0.mk H
            clear H
            obtain ⟨Ao45, co45, eo45⟩ := Kd.R_slice HO479.out
            subst eo45
            have le_co45 := (Kd.R_reads' HO479.out).2.1
            obtain ⟨Ao46, co46, eo46⟩ := Kd.R_slice HO476.out
            subst eo46
            have le_co46 := (Kd.R_reads' HO476.out).2.1
            go_wp2
            go_meet
            case rel => exact ⟨_, (true), (by first | rfl | (simp; done) | (simp [*]; done) | (simp only [show ∀ p : Prop, Aside0 p = p from fun p => propext ⟨Aside0.out, Aside0.mk⟩] at *; simp_all; done)), H', ⟨by first | omega | exact Nat.le_refl _⟩, ⟨by (with_reducible repeat (first | apply Kd.R_alloc | apply Kd.R_drewN | apply Kd.R_drew)); exact Kd.R_mono HO476.out (fun _ hk => hk.2)⟩, ⟨by (with_reducible repeat (first | apply Kd.R_alloc | apply Kd.R_drewN | apply Kd.R_drew)); exact Kd.R_mono HO479.out (fun _ hk => hk.2)⟩, ⟨bk HB.out⟩⟩
          · rw [if_neg c44] at H
            have c44b0 : (((t474.length : Int) == 1) != (decide ((ji5) < 64))) = false := by simpa using c44
            (try (have c44b1 : decide (((t474.length : Int) == 1) = (decide ((ji5) < 64))) = true := by simpa using c44))
            (try (have c44b2 : (((t474.length : Int) == 1) == (decide ((ji5) < 64))) = true := by simpa using c44))
            clear c44
            by_cases c47 : (t474.length : Int) > 10
            · rw [if_pos c47] at H
              have c47b0 : decide (10 < (t474.length : Int)) = true := decide_eq_true c47
              have c47b1 : decide (10 < t474.length) = true := decide_eq_true (by omega)
              clear c47
              have H' := Aside0.mk H
              clear H
              obtain ⟨Ao48, co48, eo48⟩ := Kd.R_slice HO479.out
              subst eo48
              have le_co48 := (Kd.R_reads' HO479.out).2.1
              obtain ⟨Ao49, co49, eo49⟩ := Kd.R_slice HO476.out
              subst eo49
              have le_co49 := (Kd.R_reads' HO476.out).2.1
              go_wp2
              go_meet
              case rel => exact ⟨_, (true), (by first | rfl | (simp; done) | (simp [*]; done) | (simp only [show ∀ p : Prop, Aside0 p = p from fun p => propext ⟨Aside0.out, Aside0.mk⟩] at *; simp_all; done)), H', ⟨by first | omega | exact Nat.le_refl _⟩, ⟨by (with_reducible repeat (first | apply Kd.R_alloc | apply Kd.R_drewN | apply Kd.R_drew)); exact Kd.R_mono HO476.out (fun _ hk => hk.2)⟩, ⟨by (with_reducible repeat (first | apply Kd.R_alloc | apply Kd.R_drewN | apply Kd.R_drew)); exact Kd.R_mono HO479.out (fun _ hk => hk.2)⟩, ⟨bk HB.out⟩⟩
            · rw [if_neg c47] at H
              have c47b0 : decide (10 < (t474.length : Int)) = false := decide_eq_false c47
              have c47b1 : decide (10 < t474.length) = false := decide_eq_false (by omega)
              clear c47
              by_cases c50 : (t474.length : Int) = 0
              · rw [if_pos c50] at H
                have c50b0 : ((t474.length : Int) == 0) = true := beq_iff_eq.mpr c50
                have c50b1 : ((t474.length : Int) != 0) = false := bne_eq_false_iff_eq.mpr c50
                clear c50
                have H' := Aside0.mk H
                clear H
                obtain ⟨Ao51, co51, eo51⟩ := Kd.R_slice HO479.out
                subst eo51
                have le_co51 := (Kd.R_reads' HO479.out).2.1
                obtain ⟨Ao52, co52, eo52⟩ := Kd.R_slice HO476.out
                subst eo52
                have le_co52 := (Kd.R_reads' HO476.out).2.1
                go_wp2
                go_meet
                case rel => exact ⟨_, (true), (by first | rfl | (simp; done) | (simp [*]; done) | (simp only [show ∀ p : Prop, Aside0 p = p from fun p => propext ⟨Aside0.out, Aside0.mk⟩] at *; simp_all; done)), H', ⟨by first | omega | exact Nat.le_refl _⟩, ⟨by (with_reducible repeat (first | apply Kd.R_alloc | apply Kd.R_drewN | apply Kd.R_drew)); exact Kd.R_mono HO476.out (fun _ hk => hk.2)⟩, ⟨by (with_reducible repeat (first | apply Kd.R_alloc | apply Kd.R_drewN | apply Kd.R_drew)); exact Kd.R_mono HO479.out (fun _ hk => hk.2)⟩, ⟨bk HB.out⟩⟩
              · rw [if_neg c50] at H
                have c50b0 : ((t474.length : Int) == 0) = false := beq_eq_false_iff_ne.mpr c50
                have c50b1 : ((t474.length : Int) != 0) = true := bne_iff_ne.mpr c50
                have c50b2 : ¬ (t474 = []) := fun h_ => c50 (by rw [h_]; rfl)
                have H' := Aside0.mk H
                clear H
                obtain ⟨Ao53, co53, eo53⟩ := Kd.R_slice HO479.out
                subst eo53
                have le_co53 := (Kd.R_reads' HO479.out).2.1
                obtain ⟨Ao54, co54, eo54⟩ := Kd.R_slice HO476.out
                subst eo54
                have le_co54 := (Kd.R_reads' HO476.out).2.1
                go_wp2
                go_meet
                case rel => exact ⟨_, (((t477.length : Int) == 0)), (by first | rfl | (simp; done) | (simp [*]; done) | (simp only [show ∀ p : Prop, Aside0 p = p from fun p => propext ⟨Aside0.out, Aside0.mk⟩] at *; simp_all; done)), H', ⟨by first | omega | exact Nat.le_refl _⟩, ⟨by (with_reducible repeat (first | apply Kd.R_alloc | apply Kd.R_drewN | apply Kd.R_drew)); exact Kd.R_mono HO476.out (fun _ hk => hk.2)⟩, ⟨by (with_reducible repeat (first | apply Kd.R_alloc | apply Kd.R_drewN | apply Kd.R_drew)); exact Kd.R_mono HO479.out (fun _ hk => hk.2)⟩, ⟨bk HB.out⟩⟩
      · rw [if_neg c40] at H
        have c40b0 : decide ((ji6) ≤ (ji5)) = false := decide_eq_false c40
        clear c40
        by_cases c55 : (((t474.length : Int) == 1) != (decide ((ji5) < 64))) = true
        · rw [if_pos c55] at H
          have c55b0 : (((t474.length : Int) == 1) != (decide ((ji5) < 64))) = true := c55
          (try (have c55b1 : decide (((t474.length : Int) == 1) = (decide ((ji5) < 64))) = false := by simpa using c55))
          (try (have c55b2 : (((t474.length : Int) == 1) == (decide ((ji5) < 64))) = false := by simpa using c55))
          (try (have c55b3 : ¬ (((t474.length : Int) == 1) = (decide ((ji5) < 64))) := by simpa using c55))
          clear c55
          have H' := Aside0.mk H
          clear H
          obtain ⟨Ao56, co56, eo56⟩ := Kd.R_slice HO476.out
          subst eo56
          have le_co56 := (Kd.R_reads' HO476.out).2.1
          go_wp2
          go_meet
          case rel => exact ⟨_, (true), (by first | rfl | (simp; done) | (simp [*]; done) | (simp only [show ∀ p : Prop, Aside0 p = p from fun p => propext ⟨Aside0.out, Aside0.mk⟩] at *; simp_all; done)), H', ⟨by first | omega | exact Nat.le_refl _⟩, ⟨by (with_reducible repeat (first | apply Kd.R_alloc | apply Kd.R_drewN | apply Kd.R_drew)); exact Kd.R_mono HO476.out (fun _ hk => hk.2)⟩, ⟨by (with_reducible repeat (first | apply Kd.R_alloc | apply Kd.R_drewN | apply Kd.R_drew)); exact Kd.R_mono HO479.out (fun _ hk => hk.2)⟩, ⟨bk HB.out⟩⟩
        · rw [if_neg c55] at H
          have c55b0 : (((t474.length : Int) == 1) != (decide ((ji5) < 64))) = false := by simpa using c55
          (try (have c55b1 : decide (((t474.length : Int) == 1) = (decide ((ji5) < 64))) = true := by simpa using c55))
          (try (have c55b2 : (((t474.length : Int) == 1) == (decide ((ji5) < 64))) = true := by simpa using c55))
          clear c55
          by_cases c57 : (t474.length : Int) > 10
          · rw [if_pos c57] at H
            have c57b0 : decide (10 < (t474.length : Int)) = true := decide_eq_true c57
            have c57b1 : decide (10 < t474.length) = true := decide_eq_true (by omega)
            clear c57
            have H' := Aside0.mk H
            clear H
            obtain ⟨Ao58, co58, eo58⟩ := Kd.R_slice HO476.out
            subst eo58
            have le_co58 := (Kd.R_reads' HO476.out).2.1
            go_wp2
            go_meet
            case rel => exact ⟨_, (true), (by first | rfl | (simp; done) | (simp [*]; done) | (simp only [show ∀ p : Prop, Aside0 p = p from fun p => propext ⟨Aside0.out, Aside0.mk⟩] at *; simp_all; done)), H', ⟨by first | omega | exact Nat.le_refl _⟩, ⟨by (with_reducible repeat (first | apply Kd.R_alloc | apply Kd.R_drewN | apply Kd.R_drew)); exact Kd.R_mono HO476.out (fun _ hk => hk.2)⟩, ⟨by (with_reducible repeat (first | apply Kd.R_alloc | apply Kd.R_drewN | apply Kd.R_drew)); exact Kd.R_mono HO479.out (fun _ hk => hk.2)⟩, ⟨bk HB.out⟩⟩
          · rw [if_neg c57] at H
            have c57b0 : decide (10 < (t474.length : Int)) = false := decide_eq_false c57
            have c57b1 : decide (10 < t474.length) = false := decide_eq_false (by omega)
            clear c57
            by_cases c59 : (t474.length : Int) = 0
            · rw [if_pos c59] at H
              have c59b0 : ((t474.length : Int) == 0) = true := beq_iff_eq.mpr c59
              have c59b1 : ((t474.length : Int) != 0) = false := bne_eq_false_iff_eq.mpr c59
              clear c59
              have H' := Aside0.mk H
              clear H
              obtain ⟨Ao60, co60, eo60⟩ := Kd.R_slice HO476.out
              subst eo60
              have le_co60 := (Kd.R_reads' HO476.out).2.1
              go_wp2
              go_meet
              case rel => exact ⟨_, (true), (by first | rfl | (simp; done) | (simp [*]; done) | (simp only [show ∀ p : Prop, Aside0 p = p from fun p => propext ⟨Aside0.out, Aside0.mk⟩] at *; simp_all; done)), H', ⟨by first | omega | exact Nat.le_refl _⟩, ⟨by (with_reducible repeat (first | apply Kd.R_alloc | apply Kd.R_drewN | apply Kd.R_drew)); exact Kd.R_mono HO476.out (fun _ hk => hk.2)⟩, ⟨by (with_reducible repeat (first | apply Kd.R_alloc | apply Kd.R_drewN | apply Kd.R_drew)); exact Kd.R_mono HO479.out (fun _ hk => hk.2)⟩, ⟨bk HB.out⟩⟩
            · rw [if_neg c59] at H
              have c59b0 : ((t474.length : Int) == 0) = false := beq_eq_false_iff_ne.mpr c59
              have c59b1 : ((t474.length : Int) != 0) = true := bne_iff_ne.mpr c59
              have c59b2 : ¬ (t474 = []) := fun h_ => c59 (by rw [h_]; rfl)
              have H' := Aside0.mk H
              clear H
              obtain ⟨Ao61, co61, eo61⟩ := Kd.R_slice HO476.out
              subst eo61
              have le_co61 := (Kd.R_reads' HO476.out).2.1
              obtain ⟨Ao62, co62, eo62⟩ := Kd.R_slice HO479.out
              subst eo62
              have le_co62 := (Kd.R_reads' HO479.out).2.1
              go_wp2
              go_meet
              case rel => exact ⟨_, (((t477.length : Int) == 0)), (by first | rfl | (simp; done) | (simp [*]; done) | (simp only [show ∀ p : Prop, Aside0 p = p from fun p => propext ⟨Aside0.out, Aside0.mk⟩] at *; simp_all; done)), H', ⟨by first | omega | exact Nat.le_refl _⟩, ⟨by (with_reducible repeat (first | apply Kd.R_alloc | apply Kd.R_drewN | apply Kd.R_drew)); exact Kd.R_mono HO476.out (fun _ hk => hk.2)⟩, ⟨by (with_reducible repeat (first | apply Kd.R_alloc | apply Kd.R_drewN | apply Kd.R_drew)); exact Kd.R_mono HO479.out (fun _ hk => hk.2)⟩, ⟨bk HB.out⟩⟩
  case rest =>
    clear HC7
    try clear c1
    try clear c2
    try clear p2
    try clear c3
    try clear c4
    try clear c5
    try clear p6
    try clear c10
    try clear c10b0
    try clear c11
    try clear c11b0
    try clear c11b1
    try clear c14
    try clear c14b0
    try clear c15
    try clear c15b0
    try clear c15b1
    try clear c18
    try clear c18b0
    try clear c18b1
    try clear c18b2
    try clear c21
    try clear c21b0
    try clear c21b1
    try clear c24
    try clear c24b0
    try clear c24b1
    try clear c24b2
    try clear c29
    try clear c29b0
    try clear c29b1
    try clear c29b2
    try clear c32
    try clear c32b0
    try clear c32b1
    try clear c35
    try clear c35b0
    try clear c35b1
    try clear c35b2
    try clear c40
    try clear c40b0
    try clear c41
    try clear c41b0
    try clear c41b1
    try clear c44
    try clear c44b0
    try clear c44b1
    try clear c44b2
    try clear c47
    try clear c47b0
    try clear c47b1
    try clear c50
    try clear c50b0
    try clear c50b1
    try clear c50b2
    try clear c55
    try clear c55b0
    try clear c55b1
    try clear c55b2
    try clear c57
    try clear c57b0
    try clear c57b1
    try clear c59
    try clear c59b0
    try clear c59b1
    try clear c59b2
    obtain ⟨kq, x66_6, rfl, HA, HJ6, HO_5, HO_6, HB⟩ := hcut
    cases kq with
    | zero => exact absurd HA.out (by simp [weirgatelaw01_WireLengths.j0])
    | succ kj6 =>
      have H := HA.out
      clear HA
      simp only [weirgatelaw01_WireLengths.j0] at H
      by_cases c63 : x66_6 = true
      · subst c63
        have H1 : (none) = some r := by rw [if_pos rfl] at H; exact H
        clear H
        have H := H1
        clear H1
        exact absurd H (by simp)
      · replace c63 := Bool.eq_false_iff.mpr c63
        subst c63
        have H1 : ((weirgatelaw01_sanity.f kj6).bind fun t480 => (if t480 = true then ((wire_Int.f kj6 (wrap64 ((-1) - a0))).bind fun t481 => (if (t481.length : Int) = (t474.length : Int) then (if 0 ≤ (mn (t474.length : Int) (t477.length : Int)) then (if (mn (t474.length : Int) (t477.length : Int)) ≤ (t474.length : Int) then (if (mn (t474.length : Int) (t477.length : Int)) ≤ (t477.length : Int) then (some (((strOfNums (t474.take ((mn (t474.length : Int) (t477.length : Int)) : Int).toNat)).toList == (strOfNums (t477.take ((mn (t474.length : Int) (t477.length : Int)) : Int).toNat)).toList) == (a0 == a1))) else (none)) else (none)) else (none)) else (none))) else (none))) = some r := by rw [if_neg (show ¬ (false = true) by decide)] at H; exact H
        clear H
        have H := H1
        clear H1
        obtain ⟨ji64, hji64⟩ : ∃ j_ : Int, (mn (t474.length : Int) (t477.length : Int)) = j_ := ⟨_, rfl⟩
        replace H : ((weirgatelaw01_sanity.f kj6).bind fun t480 => (if t480 = true then ((wire_Int.f kj6 (wrap64 ((-1) - a0))).bind fun t481 => (if (t481.length : Int) = (t474.length : Int) then (if 0 ≤ (ji64) then (if (ji64) ≤ (t474.length : Int) then (if (ji64) ≤ (t477.length : Int) then (some (((strOfNums (t474.take ((ji64) : Int).toNat)).toList == (strOfNums (t477.take ((ji64) : Int).toNat)).toList) == (a0 == a1))) else (none)) else (none)) else (none)) else (none))) else (none))) = some r := by first | (rw [hji64] at H; exact H) | (simp only [hji64] at H ⊢; exact H)
        have hji64_ : (if (t477.length : Int) < (t474.length : Int) then (t477.length : Int) else (t474.length : Int)) = ji64 := hji64
        have hji64n_ : (if t477.length < t474.length then ((t477.length : Nat) : Int) else ((t474.length : Nat) : Int)) = ji64 := by have h_ := hji64_; simp only [Int.ofNat_lt] at h_; exact h_
        replace H := Option.bind_eq_some_iff.mp H
        obtain ⟨t480, A650, H⟩ := H
        replace H : (if t480 = true then ((wire_Int.f kj6 (wrap64 ((-1) - a0))).bind fun t481 => (if (t481.length : Int) = (t474.length : Int) then (if 0 ≤ (ji64) then (if (ji64) ≤ (t474.length : Int) then (if (ji64) ≤ (t477.length : Int) then (some (((strOfNums (t474.take ((ji64) : Int).toNat)).toList == (strOfNums (t477.take ((ji64) : Int).toNat)).toList) == (a0 == a1))) else (none)) else (none)) else (none)) else (none))) else (none)) = some r := H
        have A65 := Aside0.mk A650
        clear A650
        by_cases c66 : t480 = true
        · subst c66
          have H1 : ((wire_Int.f kj6 (wrap64 ((-1) - a0))).bind fun t481 => (if (t481.length : Int) = (t474.length : Int) then (if 0 ≤ (ji64) then (if (ji64) ≤ (t474.length : Int) then (if (ji64) ≤ (t477.length : Int) then (some (((strOfNums (t474.take ((ji64) : Int).toNat)).toList == (strOfNums (t477.take ((ji64) : Int).toNat)).toList) == (a0 == a1))) else (none)) else (none)) else (none)) else (none))) = some r := by rw [if_pos rfl] at H; exact H
          clear H
          have H := H1
          clear H1
          replace H := Option.bind_eq_some_iff.mp H
          obtain ⟨t481, A670, H⟩ := H
          replace H : (if (t481.length : Int) = (t474.length : Int) then (if 0 ≤ (ji64) then (if (ji64) ≤ (t474.length : Int) then (if (ji64) ≤ (t477.length : Int) then (some (((strOfNums (t474.take ((ji64) : Int).toNat)).toList == (strOfNums (t477.take ((ji64) : Int).toNat)).toList) == (a0 == a1))) else (none)) else (none)) else (none)) else (none)) = some r := H
          have A67 := Aside0.mk A670
          clear A670
          by_cases c68 : (t481.length : Int) = (t474.length : Int)
          · rw [if_pos c68] at H
            have c68b0 : ((t481.length : Int) == (t474.length : Int)) = true := beq_iff_eq.mpr c68
            have c68b1 : ((t481.length : Int) != (t474.length : Int)) = false := bne_eq_false_iff_eq.mpr c68
            have c68b2 : (t481.length == t474.length) = true := by first | simpa using c68 | (simp at c68 ⊢; omega)
            clear c68
            by_cases c69 : 0 ≤ (ji64)
            · rw [if_pos c69] at H
              have c69b0 := eq_true c69
              have c69b1 : decide (0 ≤ (ji64)) = true := decide_eq_true c69
              clear c69
              by_cases c70 : (ji64) ≤ (t474.length : Int)
              · rw [if_pos c70] at H
                have c70b0 := eq_true c70
                have c70b1 : decide ((ji64) ≤ (t474.length : Int)) = true := decide_eq_true c70
                clear c70
                obtain ⟨y484, hy484⟩ : ∃ y_ : List Int, y_ = (t474.take ((ji64) : Int).toNat) := ⟨_, rfl⟩
                replace H : (if (ji64) ≤ (t477.length : Int) then (some (((strOfNums y484).toList == (strOfNums (t477.take ((ji64) : Int).toNat)).toList) == (a0 == a1))) else (none)) = some r := by first | (rw [hy484]; with_reducible exact H) | (have H2_ := (Option.bind_some _ _).symm.trans H; rw [hy484]; with_reducible exact H2_) | (have H2_ := (Option.bind_some _ _).symm.trans H; with_reducible exact H2_) | with_reducible exact H | (rw [hy484]; exact H) | exact H
                have Ny484 := Aside0.mk hy484
                clear hy484
                have c71b0 := eq_true (of_decide_eq_true (by first | (with_reducible assumption) | assumption) : 0 ≤ (ji64))
                by_cases c72 : (ji64) ≤ (t477.length : Int)
                · rw [if_pos c72] at H
                  have c72b0 := eq_true c72
                  have c72b1 : decide ((ji64) ≤ (t477.length : Int)) = true := decide_eq_true c72
                  clear c72
                  obtain ⟨y488, hy488⟩ : ∃ y_ : List Int, y_ = (t477.take ((ji64) : Int).toNat) := ⟨_, rfl⟩
                  replace H : (some (((strOfNums y484).toList == (strOfNums y488).toList) == (a0 == a1))) = some r := by first | (rw [hy488]; with_reducible exact H) | (have H2_ := (Option.bind_some _ _).symm.trans H; rw [hy488]; with_reducible exact H2_) | (have H2_ := (Option.bind_some _ _).symm.trans H; with_reducible exact H2_) | with_reducible exact H | (rw [hy488]; exact H) | exact H
                  have Ny488 := Aside0.mk hy488
                  clear hy488
                  obtain rfl := Option.some.inj H
                  obtain ⟨Ao73, co73, eo73⟩ := Kd.R_slice HO_5.out
                  subst eo73
                  have le_co73 := (Kd.R_reads' HO_5.out).2.1
                  obtain ⟨Ao74, co74, eo74⟩ := Kd.R_slice HO_6.out
                  subst eo74
                  have le_co74 := (Kd.R_reads' HO_6.out).2.1
                  try go_wp2
                  have n0_ := Aside0.mk (Kd.R_drew HO_5.out)
                  have n1_ := Aside0.mk (Kd.R_drew HO_6.out)
                  have n2_ := Aside0.mk (below_drew1 HB.out)
                  clear HO_5
                  clear HO_6
                  clear HB
                  have HO_5 := n0_
                  have HO_6 := n1_
                  have HB := n2_
                  clear n0_ n1_ n2_
                  refine start_ (n := 26) (S := fun w' => True) (ds := []) #[false, false, false, false, false, false, false, false, false, false, false, false, false, false, false, false, false, false, false, false, false, false, false, false, false, false] (by kernel_rfl) rfl rfl trivial (fun hHeld => ?_); refine with_tabW weirgatelaw01_WireLengths.tab6 weirgatelaw01_WireLengths.bits6 (fun HT_ HW_ => ?_)
                  generalize wc.drew = w75 at HO_5 HO_6 HB hHeld ⊢
                  refine one_ (i := 0) (N := some 72) #[true, false, false, false, false, false, false, false, false, false, false, false, false, false, false, false, false, false, false, false, false, false, false, false, false, false] rfl rfl (one_of HT_.out (by kernel_rfl)) (by decide) (fun K hK => ?_)
                  refine goes_ Try.func12 (by kernel_rfl) rfl #[] (by rfl) rfl rfl (by (try simp only [List.map_toArray, List.map_cons, List.map_nil]); first | done | rfl | (simp only [List.length_drop, List.length_take]; rfl)) ?_
                  with_reducible refine (weirgatelaw01_sanity.calls kj6  true _ A65.out).mono ?_
                  rintro e w76 ⟨rfl, hb⟩
                  refine ⟨_, rfl, ?_⟩
                  have n0_ := Aside0.mk (Kd.R_below (rk HO_5.out) hb)
                  have n1_ := Aside0.mk (Kd.R_below (rk HO_6.out) hb)
                  have n2_ := Aside0.mk (below_step (bk HB.out) hb)
                  clear HO_5
                  clear HO_6
                  clear HB
                  have HO_5 := n0_
                  have HO_6 := n1_
                  have HB := n2_
                  clear n0_ n1_ n2_
                  (try clear hb)
                  (try clear hb2)
                  (try clear hk)
                  (try clear hi)
                  refine hK.out _ _ trivial (fun hHeld => ?_)
                  clear hK K
                  refine norm_ (a' := ?_) ?_ ?_
                  rotate_left
                  · show Act.put _ (some 72) _ = _
                    simp only [Act.put, List.setIfInBounds_toArray, List.set_cons_zero, List.set_cons_succ, i64_w, i32_w]
                    rfl
                  refine pure_ (i := 1) (N := some 73) (v := ?_) (a' := ?_) #[true, true, false, false, false, false, false, false, false, false, false, false, false, false, false, false, false, false, false, false, false, false, false, false, false, false] rfl rfl (any_of HT_.out (by kernel_rfl)) (fun _ _ _ h => h) (Or.inl ⟨by rfl, ?_⟩) ?_ ?_
                  rotate_left
                  · intro w'
                    go_simp
                    with_reducible rfl
                  rotate_left
                  · simp only [Act.put, List.setIfInBounds_toArray, List.set_cons_zero, List.set_cons_succ, i64_w, i32_w]
                    rfl
                  refine pure_ (i := 2) (N := some 74) (v := ?_) (a' := ?_) #[true, true, true, false, false, false, false, false, false, false, false, false, false, false, false, false, false, false, false, false, false, false, false, false, false, false] rfl rfl (any_of HT_.out (by kernel_rfl)) (fun _ _ _ h => h) (Or.inl ⟨by rfl, ?_⟩) ?_ ?_
                  rotate_left
                  · intro w'
                    go_simp
                    with_reducible rfl
                  rotate_left
                  · simp only [Act.put, List.setIfInBounds_toArray, List.set_cons_zero, List.set_cons_succ, i64_w, i32_w]
                    rfl
                  refine pure_ (i := 3) (N := some 75) (v := ?_) (a' := ?_) #[true, true, true, true, false, false, false, false, false, false, false, false, false, false, false, false, false, false, false, false, false, false, false, false, false, false] rfl rfl (any_of HT_.out (by kernel_rfl)) (fun _ _ _ h => h) (Or.inl ⟨by rfl, ?_⟩) ?_ ?_
                  rotate_left
                  · intro w'
                    go_simp
                    with_reducible rfl
                  rotate_left
                  · simp only [Act.put, List.setIfInBounds_toArray, List.set_cons_zero, List.set_cons_succ, i64_w, i32_w]
                    rfl
                  refine pure_ (i := 6) (N := some 78) (v := ?_) (a' := ?_) #[true, true, true, true, false, false, true, false, false, false, false, false, false, false, false, false, false, false, false, false, false, false, false, false, false, false] rfl rfl (any_of HT_.out (by kernel_rfl)) (fun _ _ _ h => h) (Or.inl ⟨by rfl, ?_⟩) ?_ ?_
                  rotate_left
                  · intro w'
                    go_simp
                    with_reducible rfl
                  rotate_left
                  · simp only [Act.put, List.setIfInBounds_toArray, List.set_cons_zero, List.set_cons_succ, i64_w, i32_w]
                    rfl
                  refine pure_ (i := 7) (N := some 79) (v := ?_) (a' := ?_) #[true, true, true, true, false, false, true, true, false, false, false, false, false, false, false, false, false, false, false, false, false, false, false, false, false, false] rfl rfl (any_of HT_.out (by kernel_rfl)) (fun _ _ _ h => h) (Or.inl ⟨by rfl, ?_⟩) ?_ ?_
                  rotate_left
                  · intro w'
                    go_simp
                    with_reducible rfl
                  rotate_left
                  · simp only [Act.put, List.setIfInBounds_toArray, List.set_cons_zero, List.set_cons_succ, i64_w, i32_w]
                    rfl
                  refine one_ (i := 4) (N := some 76) #[true, true, true, true, true, false, true, true, false, false, false, false, false, false, false, false, false, false, false, false, false, false, false, false, false, false] rfl rfl (one_of HT_.out (by kernel_rfl)) (by decide) (fun K hK => ?_)
                  refine goes_ Try.func14 (by kernel_rfl) rfl #[.int .i64 (wrap64 ((-1) - a0))] (by rfl) rfl rfl (by (try simp only [List.map_toArray, List.map_cons, List.map_nil]); first | done | rfl | (simp only [List.length_drop, List.length_take]; rfl)) ?_
                  with_reducible refine (wire_Int.calls kj6 (wrap64 ((-1) - a0)) t481 _ A67.out).mono ?_
                  rintro e w77 ⟨v482, rfl, ho0, hb⟩
                  refine ⟨_, rfl, ?_⟩
                  have n0_ := Aside0.mk (Kd.R_elder' (rk HO_5.out) (Kd.R_base ho0) hb)
                  have n1_ := Aside0.mk (Kd.R_elder' (rk HO_6.out) (Kd.R_base ho0) hb)
                  have n2_ := Aside0.mk (Kd.R_lower (Kd.R_new' (Kd.R_new' ho0 (Kd.R_lt (rk HO_5.out))) (Kd.R_lt (rk HO_6.out))) (below_size (bk HB.out)))
                  have n3_ := Aside0.mk (below_step (bk HB.out) hb)
                  clear HO_5
                  clear HO_6
                  clear HB
                  have HO_5 := n0_
                  have HO_6 := n1_
                  have HO483 := n2_
                  have HB := n3_
                  clear n0_ n1_ n2_ n3_
                  (try clear hb)
                  (try clear hb2)
                  (try clear hk)
                  (try clear hi)
                  (try clear ho0)
                  obtain ⟨Ao78, co78, eo78⟩ := Kd.R_slice HO483.out
                  (first | subst eo78 | (injection eo78 with f1_ f2_ f3_; have f4_ := f1_.symm; have f5_ := f3_.symm; clear f1_ f2_ f3_; subst f4_; subst f5_))
                  have q79 : ((ji64) : Int) ≤ ((t474.length : Int) : Int) := of_decide_eq_true (by first | (with_reducible assumption) | assumption)
                  obtain ⟨i079, hi079, _, hsz79, _⟩ := info_parts info5
                  have hroom79 : t474.length ≤ co73 := (Kd.R_reads' HO_5.out).2.1
                  have hC79 : Kd.C (Kd.int .u8) _ Ao73 t474.length t474 := (Kd.R_reads' HO_5.out).2.2
                  have hcut79 := cut_to (P := Try.prog) 28 5 .i64 Try.underlying28 hi079 Ao73 t474.length co73 (ji64) (of_decide_eq_true (by first | (with_reducible assumption) | assumption)) q79 hroom79
                  have hr79 := Kd.C_take (m := ((ji64) : Int).toNat) hC79 (by omega)
                  have hy79 : y484.length = ((ji64) : Int).toNat := (by rw [Ny484.out, List.length_take]; omega)
                  rw [← Ny484.out] at hr79
                  rw [← hy79] at hcut79
                  have HR487 := Aside0.mk hr79
                  have HC487 := Aside0.mk (show y484.length ≤ co73 from by omega)
                  clear hr79 hC79 hroom79 hi079 hsz79
                  have KY79 := Aside0.mk hy79
                  clear hy79
                  have KL79 := Aside0.mk (show ((ji64) : Int).toNat ≤ t474.length from by omega)
                  replace q79 := eq_true q79
                  have q80 : ((ji64) : Int) ≤ ((t477.length : Int) : Int) := of_decide_eq_true (by first | (with_reducible assumption) | assumption)
                  obtain ⟨i080, hi080, _, hsz80, _⟩ := info_parts info5
                  have hroom80 : t477.length ≤ co74 := (Kd.R_reads' HO_6.out).2.1
                  have hC80 : Kd.C (Kd.int .u8) _ Ao74 t477.length t477 := (Kd.R_reads' HO_6.out).2.2
                  have hcut80 := cut_to (P := Try.prog) 28 5 .i64 Try.underlying28 hi080 Ao74 t477.length co74 (ji64) (of_decide_eq_true (by first | (with_reducible assumption) | assumption)) q80 hroom80
                  have hr80 := Kd.C_take (m := ((ji64) : Int).toNat) hC80 (by omega)
                  have hy80 : y488.length = ((ji64) : Int).toNat := (by rw [Ny488.out, List.length_take]; omega)
                  rw [← Ny488.out] at hr80
                  rw [← hy80] at hcut80
                  have HR491 := Aside0.mk hr80
                  have HC491 := Aside0.mk (show y488.length ≤ co74 from by omega)
                  clear hr80 hC80 hroom80 hi080 hsz80
                  have KY80 := Aside0.mk hy80
                  clear hy80
                  have KL80 := Aside0.mk (show ((ji64) : Int).toNat ≤ t477.length from by omega)
                  replace q80 := eq_true q80
                  refine hK.out _ _ trivial (fun hHeld => ?_)
                  clear hK K
                  refine norm_ (a' := ?_) ?_ ?_
                  rotate_left
                  · show Act.put _ (some 76) _ = _
                    simp only [Act.put, List.setIfInBounds_toArray, List.set_cons_zero, List.set_cons_succ, i64_w, i32_w]
                    rfl
                  refine pure_ (i := 5) (N := some 77) (v := ?_) (a' := ?_) #[true, true, true, true, true, true, true, true, false, false, false, false, false, false, false, false, false, false, false, false, false, false, false, false, false, false] rfl rfl (any_of HT_.out (by kernel_rfl)) (fun _ _ _ h => h) (Or.inl ⟨by rfl, ?_⟩) ?_ ?_
                  rotate_left
                  · intro w'
                    go_simp
                    with_reducible rfl
                  rotate_left
                  · simp only [Act.put, List.setIfInBounds_toArray, List.set_cons_zero, List.set_cons_succ, i64_w, i32_w]
                    rfl
                  refine pure_ (i := 8) (N := some 80) (v := ?_) (a' := ?_) #[true, true, true, true, true, true, true, true, true, false, false, false, false, false, false, false, false, false, false, false, false, false, false, false, false, false] rfl rfl (any_of HT_.out (by kernel_rfl)) (fun _ _ _ h => h) (Or.inl ⟨by rfl, ?_⟩) ?_ ?_
                  rotate_left
                  · intro w'
                    go_simp
                    with_reducible rfl
                  rotate_left
                  · simp only [Act.put, List.setIfInBounds_toArray, List.set_cons_zero, List.set_cons_succ, i64_w, i32_w]
                    rfl
                  refine pure_ (i := 9) (N := some 81) (v := ?_) (a' := ?_) #[true, true, true, true, true, true, true, true, true, true, false, false, false, false, false, false, false, false, false, false, false, false, false, false, false, false] rfl rfl (any_of HT_.out (by kernel_rfl)) (fun _ _ _ h => h) (Or.inl ⟨by rfl, ?_⟩) ?_ ?_
                  rotate_left
                  · intro w'
                    go_simp
                    with_reducible rfl
                  rotate_left
                  · simp only [Act.put, List.setIfInBounds_toArray, List.set_cons_zero, List.set_cons_succ, i64_w, i32_w]
                    rfl
                  refine pure_ (i := 10) (N := some 82) (v := ?_) (a' := ?_) #[true, true, true, true, true, true, true, true, true, true, true, false, false, false, false, false, false, false, false, false, false, false, false, false, false, false] rfl rfl (any_of HT_.out (by kernel_rfl)) (fun _ _ _ h => h) (Or.inl ⟨by rfl, ?_⟩) ?_ ?_
                  rotate_left
                  · intro w'
                    go_simp
                    with_reducible rfl
                  rotate_left
                  · simp only [Act.put, List.setIfInBounds_toArray, List.set_cons_zero, List.set_cons_succ, i64_w, i32_w]
                    rfl
                  refine pure_ (i := 11) (N := some 83) (v := ?_) (a' := ?_) #[true, true, true, true, true, true, true, true, true, true, true, true, false, false, false, false, false, false, false, false, false, false, false, false, false, false] rfl rfl (any_of HT_.out (by kernel_rfl)) (fun _ _ _ h => h) (Or.inl ⟨by rfl, ?_⟩) ?_ ?_
                  rotate_left
                  · intro w'
                    go_simp
                    with_reducible rfl
                  rotate_left
                  · simp only [Act.put, List.setIfInBounds_toArray, List.set_cons_zero, List.set_cons_succ, i64_w, i32_w]
                    rfl
                  refine pure_ (i := 12) (N := some 84) (v := ?_) (a' := ?_) #[true, true, true, true, true, true, true, true, true, true, true, true, true, false, false, false, false, false, false, false, false, false, false, false, false, false] rfl rfl (any_of HT_.out (by kernel_rfl)) (fun _ _ _ h => h) (Or.inl ⟨by rfl, ?_⟩) ?_ ?_
                  rotate_left
                  · intro w'
                    go_simp
                    with_reducible rfl
                  rotate_left
                  · simp only [Act.put, List.setIfInBounds_toArray, List.set_cons_zero, List.set_cons_succ, i64_w, i32_w]
                    rfl
                  refine pure_ (i := 13) (N := some 85) (v := ?_) (a' := ?_) #[true, true, true, true, true, true, true, true, true, true, true, true, true, true, false, false, false, false, false, false, false, false, false, false, false, false] rfl rfl (any_of HT_.out (by kernel_rfl)) (fun _ _ _ h => h) (Or.inl ⟨by rfl, ?_⟩) ?_ ?_
                  rotate_left
                  · intro w'
                    go_simp
                    with_reducible rfl
                  rotate_left
                  · simp only [Act.put, List.setIfInBounds_toArray, List.set_cons_zero, List.set_cons_succ, i64_w, i32_w]
                    rfl
                  refine pure_ (i := 15) (N := some 87) (v := ?_) (a' := ?_) #[true, true, true, true, true, true, true, true, true, true, true, true, true, true, false, true, false, false, false, false, false, false, false, false, false, false] rfl rfl (any_of HT_.out (by kernel_rfl)) (fun _ _ _ h => h) (Or.inl ⟨by rfl, ?_⟩) ?_ ?_
                  rotate_left
                  · intro w'
                    go_simp
                    with_reducible rfl
                  rotate_left
                  · simp only [Act.put, List.setIfInBounds_toArray, List.set_cons_zero, List.set_cons_succ, i64_w, i32_w]
                    rfl
                  refine pure_ (i := 16) (N := some 88) (v := ?_) (a' := ?_) #[true, true, true, true, true, true, true, true, true, true, true, true, true, true, false, true, true, false, false, false, false, false, false, false, false, false] rfl rfl (any_of HT_.out (by kernel_rfl)) (fun _ _ _ h => h) (Or.inl ⟨by rfl, ?_⟩) ?_ ?_
                  rotate_left
                  · intro w'
                    go_simp
                    with_reducible rfl
                  rotate_left
                  · simp only [Act.put, List.setIfInBounds_toArray, List.set_cons_zero, List.set_cons_succ, i64_w, i32_w]
                    rfl
                  refine pure_ (i := 17) (N := some 89) (v := ?_) (a' := ?_) #[true, true, true, true, true, true, true, true, true, true, true, true, true, true, false, true, true, true, false, false, false, false, false, false, false, false] rfl rfl (any_of HT_.out (by kernel_rfl)) (fun _ _ _ h => h) (Or.inl ⟨by rfl, ?_⟩) ?_ ?_
                  rotate_left
                  · intro w'
                    go_simp
                    with_reducible rfl
                  rotate_left
                  · simp only [Act.put, List.setIfInBounds_toArray, List.set_cons_zero, List.set_cons_succ, i64_w, i32_w]
                    rfl
                  refine pure_ (i := 20) (N := some 92) (v := ?_) (a' := ?_) #[true, true, true, true, true, true, true, true, true, true, true, true, true, true, false, true, true, true, false, false, true, false, false, false, false, false] rfl rfl (any_of HT_.out (by kernel_rfl)) (fun _ _ _ h => h) (Or.inl ⟨by rfl, ?_⟩) ?_ ?_
                  rotate_left
                  · intro w'
                    go_simp
                    with_reducible rfl
                  rotate_left
                  · simp only [Act.put, List.setIfInBounds_toArray, List.set_cons_zero, List.set_cons_succ, i64_w, i32_w]
                    rfl
                  refine pure_ (i := 21) (N := some 93) (v := ?_) (a' := ?_) #[true, true, true, true, true, true, true, true, true, true, true, true, true, true, false, true, true, true, false, false, true, true, false, false, false, false] rfl rfl (any_of HT_.out (by kernel_rfl)) (fun _ _ _ h => h) (Or.inl ⟨by rfl, ?_⟩) ?_ ?_
                  rotate_left
                  · intro w'
                    go_simp
                    with_reducible rfl
                  rotate_left
                  · simp only [Act.put, List.setIfInBounds_toArray, List.set_cons_zero, List.set_cons_succ, i64_w, i32_w]
                    rfl
                  refine pure_ (i := 22) (N := some 94) (v := ?_) (a' := ?_) #[true, true, true, true, true, true, true, true, true, true, true, true, true, true, false, true, true, true, false, false, true, true, true, false, false, false] rfl rfl (any_of HT_.out (by kernel_rfl)) (fun _ _ _ h => h) (Or.inl ⟨by rfl, ?_⟩) ?_ ?_
                  rotate_left
                  · intro w'
                    go_simp
                    with_reducible rfl
                  rotate_left
                  · simp only [Act.put, List.setIfInBounds_toArray, List.set_cons_zero, List.set_cons_succ, i64_w, i32_w]
                    rfl
                  refine join_ (σ := Unit) 4 #[true, true, true, true, true, true, true, true, true, true, true, true, true, true, true, true, true, true, true, false, true, true, true, false, false, false] (fun s_ => [(86, .string (strOfNums y484)), (90, .string (strOfNums y488))]) (fun s_ w' => (Kd.R (Kd.int .u8) 5 w' w.heap.size (fun k_ => some k_ ≠ (.slice Ao73 t474.length co73 : Value).ownBlock ∧ some k_ ≠ (.slice Ao74 t477.length co74 : Value).ownBlock) (.slice Ao78 t481.length co78) t481) ∧ (Kd.R (Kd.int .u8) 5 w' w.heap.size (fun k_ => some k_ ≠ (.slice Ao78 t481.length co78 : Value).ownBlock ∧ some k_ ≠ (.slice Ao74 t477.length co74 : Value).ownBlock) (.slice Ao73 t474.length co73) t474) ∧ (Kd.R (Kd.int .u8) 5 w' w.heap.size (fun k_ => some k_ ≠ (.slice Ao78 t481.length co78 : Value).ownBlock ∧ some k_ ≠ (.slice Ao73 t474.length co73 : Value).ownBlock) (.slice Ao74 t477.length co74) t477) ∧ (Below w.heap.size w w')) ?_ ?_
                  rotate_left
                  · intro hCont
                    refine two_ (i := 14) (j := 18) (Ni := some 86) (Nj := some 90) #[true, true, true, true, true, true, true, true, true, true, true, true, true, true, true, true, true, true, false, false, true, true, true, false, false, false] #[true, true, true, true, true, true, true, true, true, true, true, true, true, true, false, true, true, true, true, false, true, true, true, false, false, false] rfl rfl rfl rfl (two_of HT_.out (by kernel_rfl)) (by decide) (by decide) (fun K hK => ?_) (fun K hK => ?_)
                    · skip
                      have hcv81 := Kd.C_string (P := Try.prog) (A := Ao73) (c := co73) Try.underlying28 Try.underlying5 Try.underlying9 (by repeat (first | (with_reducible exact HR487.out) | (with_reducible refine Kd.C_alloc ?_ _) | (with_reducible refine Kd.C_drewN ?_ _) | (with_reducible refine Kd.C_drew ?_) | exact HR487.out))
                      refine value_ (w1 := ?_) (v := ?_) (by rfl) rfl ?_ ?_
                      rotate_left 2
                      · go_simp
                        constructor
                        · rfl
                        · rfl
                      clear hcv81
                      refine hK.out _ _ trivial (fun hHeld => ?_)
                      clear hK K
                      refine norm_ (a' := ?_) ?_ ?_
                      rotate_left
                      · show Act.put _ (some 86) _ = _
                        simp only [Act.put, List.setIfInBounds_toArray, List.set_cons_zero, List.set_cons_succ, i64_w, i32_w]
                        rfl
                      refine one_ (i := 18) (N := some 90) #[true, true, true, true, true, true, true, true, true, true, true, true, true, true, true, true, true, true, true, false, true, true, true, false, false, false] rfl rfl (one_of HT_.out (by kernel_rfl)) (by decide) (fun K hK => ?_)
                      have hcv82 := Kd.C_string (P := Try.prog) (A := Ao74) (c := co74) Try.underlying28 Try.underlying5 Try.underlying9 (by repeat (first | (with_reducible exact HR491.out) | (with_reducible refine Kd.C_alloc ?_ _) | (with_reducible refine Kd.C_drewN ?_ _) | (with_reducible refine Kd.C_drew ?_) | exact HR491.out))
                      refine value_ (w1 := ?_) (v := ?_) (by rfl) rfl ?_ ?_
                      rotate_left 2
                      · go_simp
                        constructor
                        · rfl
                        · rfl
                      clear hcv82
                      refine hK.out _ _ trivial (fun hHeld => ?_)
                      clear hK K
                      refine norm_ (a' := ?_) ?_ ?_
                      rotate_left
                      · show Act.put _ (some 90) _ = _
                        simp only [Act.put, List.setIfInBounds_toArray, List.set_cons_zero, List.set_cons_succ, i64_w, i32_w]
                        rfl
                      exact norm_ (by simp only [putAll, Act.put, List.setIfInBounds_toArray, List.set_cons_zero, List.set_cons_succ]) (hCont () _ ⟨(by (with_reducible repeat (first | apply Kd.R_alloc | apply Kd.R_drewN | apply Kd.R_drew)); exact Kd.R_mono HO483.out (fun _ hk => ⟨hk.1.2, hk.2⟩)), (by (with_reducible repeat (first | apply Kd.R_alloc | apply Kd.R_drewN | apply Kd.R_drew)); exact Kd.R_mono HO_5.out (fun _ hk => ⟨hk.2, hk.1⟩)), (by (with_reducible repeat (first | apply Kd.R_alloc | apply Kd.R_drewN | apply Kd.R_drew)); exact Kd.R_mono HO_6.out (fun _ hk => ⟨hk.2, hk.1⟩)), (bk HB.out)⟩)
                    · skip
                      have hcv81 := Kd.C_string (P := Try.prog) (A := Ao74) (c := co74) Try.underlying28 Try.underlying5 Try.underlying9 (by repeat (first | (with_reducible exact HR491.out) | (with_reducible refine Kd.C_alloc ?_ _) | (with_reducible refine Kd.C_drewN ?_ _) | (with_reducible refine Kd.C_drew ?_) | exact HR491.out))
                      refine value_ (w1 := ?_) (v := ?_) (by rfl) rfl ?_ ?_
                      rotate_left 2
                      · go_simp
                        constructor
                        · rfl
                        · rfl
                      clear hcv81
                      refine hK.out _ _ trivial (fun hHeld => ?_)
                      clear hK K
                      refine norm_ (a' := ?_) ?_ ?_
                      rotate_left
                      · show Act.put _ (some 90) _ = _
                        simp only [Act.put, List.setIfInBounds_toArray, List.set_cons_zero, List.set_cons_succ, i64_w, i32_w]
                        rfl
                      refine one_ (i := 14) (N := some 86) #[true, true, true, true, true, true, true, true, true, true, true, true, true, true, true, true, true, true, true, false, true, true, true, false, false, false] rfl rfl (one_of HT_.out (by kernel_rfl)) (by decide) (fun K hK => ?_)
                      have hcv82 := Kd.C_string (P := Try.prog) (A := Ao73) (c := co73) Try.underlying28 Try.underlying5 Try.underlying9 (by repeat (first | (with_reducible exact HR487.out) | (with_reducible refine Kd.C_alloc ?_ _) | (with_reducible refine Kd.C_drewN ?_ _) | (with_reducible refine Kd.C_drew ?_) | exact HR487.out))
                      refine value_ (w1 := ?_) (v := ?_) (by rfl) rfl ?_ ?_
                      rotate_left 2
                      · go_simp
                        constructor
                        · rfl
                        · rfl
                      clear hcv82
                      refine hK.out _ _ trivial (fun hHeld => ?_)
                      clear hK K
                      refine norm_ (a' := ?_) ?_ ?_
                      rotate_left
                      · show Act.put _ (some 86) _ = _
                        simp only [Act.put, List.setIfInBounds_toArray, List.set_cons_zero, List.set_cons_succ, i64_w, i32_w]
                        rfl
                      exact norm_ (by simp only [putAll, Act.put, List.setIfInBounds_toArray, List.set_cons_zero, List.set_cons_succ]) (hCont () _ ⟨(by (with_reducible repeat (first | apply Kd.R_alloc | apply Kd.R_drewN | apply Kd.R_drew)); exact Kd.R_mono HO483.out (fun _ hk => ⟨hk.1.2, hk.2⟩)), (by (with_reducible repeat (first | apply Kd.R_alloc | apply Kd.R_drewN | apply Kd.R_drew)); exact Kd.R_mono HO_5.out (fun _ hk => ⟨hk.2, hk.1⟩)), (by (with_reducible repeat (first | apply Kd.R_alloc | apply Kd.R_drewN | apply Kd.R_drew)); exact Kd.R_mono HO_6.out (fun _ hk => ⟨hk.2, hk.1⟩)), (bk HB.out)⟩)
                  rintro _ w83 ⟨h0_, h1_, h2_, h3_⟩
                  have n0_ : Aside0 (Kd.R (Kd.int .u8) 5 w83 w.heap.size (fun k_ => some k_ ≠ (.slice Ao73 t474.length co73 : Value).ownBlock ∧ some k_ ≠ (.slice Ao74 t477.length co74 : Value).ownBlock) (.slice Ao78 t481.length co78) t481) := ⟨h0_⟩
                  have n1_ : Aside0 (Kd.R (Kd.int .u8) 5 w83 w.heap.size (fun k_ => some k_ ≠ (.slice Ao78 t481.length co78 : Value).ownBlock ∧ some k_ ≠ (.slice Ao74 t477.length co74 : Value).ownBlock) (.slice Ao73 t474.length co73) t474) := ⟨h1_⟩
                  have n2_ : Aside0 (Kd.R (Kd.int .u8) 5 w83 w.heap.size (fun k_ => some k_ ≠ (.slice Ao78 t481.length co78 : Value).ownBlock ∧ some k_ ≠ (.slice Ao73 t474.length co73 : Value).ownBlock) (.slice Ao74 t477.length co74) t477) := ⟨h2_⟩
                  have n3_ : Aside0 (Below w.heap.size w w83) := ⟨h3_⟩
                  clear HO_5
                  clear HO_6
                  clear HB
                  clear h0_ h1_ h2_ h3_
                  have HO483 := n0_
                  have HO_5 := n1_
                  have HO_6 := n2_
                  have HB := n3_
                  clear n0_ n1_ n2_ n3_
                  have hHeld := trivial
                  refine norm_ (a' := ?_) ?_ ?_
                  rotate_left
                  · simp only [putAll, Act.put, List.setIfInBounds_toArray, List.set_cons_zero, List.set_cons_succ]
                    rfl
                  refine pure_ (i := 19) (N := some 91) (v := ?_) (a' := ?_) #[true, true, true, true, true, true, true, true, true, true, true, true, true, true, true, true, true, true, true, true, true, true, true, false, false, false] rfl rfl (any_of HT_.out (by kernel_rfl)) (fun _ _ _ h => h) (Or.inl ⟨by rfl, ?_⟩) ?_ ?_
                  rotate_left
                  · intro w'
                    go_simp
                    with_reducible rfl
                  rotate_left
                  · simp only [Act.put, List.setIfInBounds_toArray, List.set_cons_zero, List.set_cons_succ, i64_w, i32_w]
                    rfl
                  refine pure_ (i := 23) (N := some 95) (v := ?_) (a' := ?_) #[true, true, true, true, true, true, true, true, true, true, true, true, true, true, true, true, true, true, true, true, true, true, true, true, false, false] rfl rfl (any_of HT_.out (by kernel_rfl)) (fun _ _ _ h => h) (Or.inl ⟨by rfl, ?_⟩) ?_ ?_
                  rotate_left
                  · intro w'
                    go_simp
                    with_reducible rfl
                  rotate_left
                  · simp only [Act.put, List.setIfInBounds_toArray, List.set_cons_zero, List.set_cons_succ, i64_w, i32_w]
                    rfl
                  refine pure_ (i := 24) (N := some 96) (v := ?_) (a' := ?_) #[true, true, true, true, true, true, true, true, true, true, true, true, true, true, true, true, true, true, true, true, true, true, true, true, true, false] rfl rfl (any_of HT_.out (by kernel_rfl)) (fun _ _ _ h => h) (Or.inl ⟨by rfl, ?_⟩) ?_ ?_
                  rotate_left
                  · intro w'
                    go_simp
                    with_reducible rfl
                  rotate_left
                  · simp only [Act.put, List.setIfInBounds_toArray, List.set_cons_zero, List.set_cons_succ, i64_w, i32_w]
                    rfl
                  refine pure_ (i := 25) (N := some 4) (v := ?_) (a' := ?_) #[true, true, true, true, true, true, true, true, true, true, true, true, true, true, true, true, true, true, true, true, true, true, true, true, true, true] rfl rfl (any_of HT_.out (by kernel_rfl)) (fun _ _ _ h => h) (Or.inl ⟨by rfl, ?_⟩) ?_ ?_
                  rotate_left
                  · intro w'
                    go_simp
                    with_reducible rfl
                  rotate_left
                  · simp only [Act.put, List.setIfInBounds_toArray, List.set_cons_zero, List.set_cons_succ, i64_w, i32_w]
                    rfl
                  refine done_ (done_of HT_.out (by kernel_rfl)) ?_
                  try go_wp2
                  go_ret
                  exact ⟨by first | rfl | (simp [errW_none, errW_some] <;> rfl) | (simp only [← hji5, ← hji6, ← hji64]; first | rfl | (simp [errW_none, errW_some] <;> rfl)) | (simp [*, errW_none, errW_some] <;> rfl), bk HB.out⟩
                · rw [if_neg c72] at H
                  exact absurd H (by simp)
              · rw [if_neg c70] at H
                exact absurd H (by simp)
            · rw [if_neg c69] at H
              exact absurd H (by simp)
          · rw [if_neg c68] at H
            exact absurd H (by simp)
        · replace c66 := Bool.eq_false_iff.mpr c66
          subst c66
          have H1 : (none) = some r := by rw [if_neg (show ¬ (false = true) by decide)] at H; exact H
          clear H
          have H := H1
          clear H1
          exact absurd H (by simp)

end Go.Proofs.Ytekbhcciabgnhaa.PP
