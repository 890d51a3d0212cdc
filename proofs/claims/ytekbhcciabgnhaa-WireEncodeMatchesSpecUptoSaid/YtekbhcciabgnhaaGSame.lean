import Derived.Test.YtekbhcciabgnhaaPP0
import Derived.Test.YtekbhcciabgnhaaGDigest
import Derived.Shelf.Abstract
import Derived.Stop.BytesEq
import Derived.Shelf.RegionOpen
import Derived.WalkKit
namespace Go.Proofs.Ytekbhcciabgnhaa.PP
open Go.RowKit Go.Proofs.YtekbhcciabgnhaaW.PrintWords Go.Proofs.YtekbhcciabgnhaaW.PrintLast Go.Proofs.YtekbhcciabgnhaaW.PrintMore
set_option linter.unusedVariables false
attribute [local go_sem] isSome_put
def weirgateref01_SameDigests.f (l0 l1 : List S57) : Option Bool := some (l0.map dl == l1.map dl)

theorem all_range_eq_int : ∀ (xs ys : List Int), xs.length = ys.length → ((List.range xs.length).all fun i => xs.getD i 0 == ys.getD i 0) = (xs == ys)
  | [], [], _ => rfl
  | x :: xs, y :: ys, h => by
    have ih := all_range_eq_int xs ys (by simpa using h)
    rw [List.length_cons, List.range_succ_eq_map, List.all_cons, List.all_map]
    simp only [List.getD_cons_zero, Function.comp_def, List.getD_cons_succ, ih]
    simp [List.cons_beq_cons]
  | [], _ :: _, h => by simp at h
  | _ :: _, [], h => by simp at h
theorem run_equalIn_ints {P : Program} (w : World) (d : Nat) (t e : TypeId) (n : Nat) (ht : P.underlying t = some (.array n e)) (he : P.underlying e = some (.int .u8)) (hsz : ∀ w, (sizeOf e).run P w = .ok 1 w)
    (xs ys : List Int) (hx : xs.length = n) (hy : ys.length = n) :
    (Op.equalIn (d + 2) t (.agg (nums .u8 xs).toArray) (.agg (nums .u8 ys).toArray)).run P w = .ok (xs == ys) w := by
  rw [← all_range_eq_int xs ys (hx.trans hy.symm), hx, List.range_eq_range', Op.equalIn]
  simp only [Sem.run_bind, run_underlying ht, Result.andThen_ok, hsz, Std.Legacy.Range.forIn_eq_forIn_range', Std.Legacy.Range.size, Nat.sub_zero, Nat.add_sub_cancel, Nat.div_one]
  have hl : ∀ i ∈ List.range' 0 n 1, i < n := fun i hi => by simpa using (List.mem_range'_1.1 hi).2
  generalize List.range' 0 n 1 = l at hl ⊢
  induction l with
  | nil => simp
  | cons i l ih =>
    have hi : i < n := hl i (by simp)
    have px : (part e (nums .u8 xs).toArray (i * 1)).run P w = .ok (.int .u8 (xs.getD i 0)) w := by
      simp [part, isAgg, run_underlying he, nums, List.getD, List.getElem?_eq_getElem (show i < xs.length by omega)]
    have py : (part e (nums .u8 ys).toArray (i * 1)).run P w = .ok (.int .u8 (ys.getD i 0)) w := by
      simp [part, isAgg, run_underlying he, nums, List.getD, List.getElem?_eq_getElem (show i < ys.length by omega)]
    have pe : (Op.equalIn (d + 1) e (.int .u8 (xs.getD i 0)) (.int .u8 (ys.getD i 0))).run P w = .ok (xs.getD i 0 == ys.getD i 0) w := by
      rw [run_equalIn_int w d e .u8 .u8 _ _ he]
    simp only [List.forIn_cons, Sem.run_bind, px, py, pe, Result.andThen_ok, List.all_cons]
    cases hb : (xs.getD i 0 == ys.getD i 0)
    · simp
    · simp only [Bool.not_true, Bool.false_eq_true, if_false, Sem.run_pure, Result.andThen_ok, Bool.true_and]
      exact ih fun j hj => hl j (by simp [hj])

theorem wrap_small {x : Int} {n : Nat} (h0 : 0 ≤ x) (h1 : x < (n : Int)) (h2 : n ≤ 9223372036854775807) : wrap64 (x + 1) = x + 1 := by unfold wrap64; omega
theorem size5 (w : World) : (sizeOf 5).run Try.prog w = .ok 1 w := by
  simp [sizeOf]
  kernel_rfl
theorem neq57 (w : World) (x y : S57) : (binOp .neq 57 (.agg #[.int .u8 x.f0, .int .u8 x.f1, .int .u8 x.f2, .int .u8 x.f3, .int .u8 x.f4, .int .u8 x.f5, .int .u8 x.f6, .int .u8 x.f7, .int .u8 x.f8, .int .u8 x.f9, .int .u8 x.f10, .int .u8 x.f11, .int .u8 x.f12, .int .u8 x.f13, .int .u8 x.f14, .int .u8 x.f15]) (.agg #[.int .u8 y.f0, .int .u8 y.f1, .int .u8 y.f2, .int .u8 y.f3, .int .u8 y.f4, .int .u8 y.f5, .int .u8 y.f6, .int .u8 y.f7, .int .u8 y.f8, .int .u8 y.f9, .int .u8 y.f10, .int .u8 y.f11, .int .u8 y.f12, .int .u8 y.f13, .int .u8 y.f14, .int .u8 y.f15])).run Try.prog w = .ok (.bool (!(dl x == dl y))) w := by
  rw [run_neq_struct]
  have h := run_equalIn_ints (P := Try.prog) w 9998 57 5 16 Try.underlying57 Try.underlying5 size5 (dl x) (dl y) rfl rfl
  rw [show (Op.equalIn 10000 57 (.agg #[.int .u8 x.f0, .int .u8 x.f1, .int .u8 x.f2, .int .u8 x.f3, .int .u8 x.f4, .int .u8 x.f5, .int .u8 x.f6, .int .u8 x.f7, .int .u8 x.f8, .int .u8 x.f9, .int .u8 x.f10, .int .u8 x.f11, .int .u8 x.f12, .int .u8 x.f13, .int .u8 x.f14, .int .u8 x.f15]) (.agg #[.int .u8 y.f0, .int .u8 y.f1, .int .u8 y.f2, .int .u8 y.f3, .int .u8 y.f4, .int .u8 y.f5, .int .u8 y.f6, .int .u8 y.f7, .int .u8 y.f8, .int .u8 y.f9, .int .u8 y.f10, .int .u8 y.f11, .int .u8 y.f12, .int .u8 y.f13, .int .u8 y.f14, .int .u8 y.f15])).run Try.prog w = .ok (dl x == dl y) w from h]
  rfl
set_option maxHeartbeats 8000000 in
set_option maxRecDepth 100000 in
theorem weirgateref01_SameDigests.calls (A0 : Option Addr) (c0 : Nat) (l0 : List (S57)) (A1 : Option Addr) (c1 : Nat) (l1 : List (S57)) (r : Bool) (w : World) (hr0 : Kd.C k57 w A0 l0.length l0) (hc0 : l0.length ≤ c0) (hr1 : Kd.C k57 w A1 l1.length l1) (hc1 : l1.length ≤ c1) (h : weirgateref01_SameDigests.f l0 l1 = some r) :
    Calls Try.prog 36 #[.slice A0 l0.length c0, .slice A1 l1.length c1] w fun e w' => e = .returned (.bool r) ∧ Drawn0 w w' := by
  have HR0 := Aside0.mk hr0
  have HR1 := Aside0.mk hr1
  clear hr0 hr1 hc0 hc1
  have H := Aside0.mk (show (l0.map dl == l1.map dl) = r from Option.some.inj h)
  clear h
  by_cases c3 : (l0.length : Int) = (l1.length : Int)
  · have c3b0 : ((l0.length : Int) == (l1.length : Int)) = true := beq_iff_eq.mpr c3
    have c3b1 : ((l0.length : Int) != (l1.length : Int)) = false := bne_eq_false_iff_eq.mpr c3
    have c3b2 : (l0.length == l1.length) = true := by first | simpa using c3 | (simp at c3 ⊢; omega)
    have LE := Aside0.mk c3
    clear c3
    have q57 := neq57
    go_enter Try.func36, Try.ntmps36
    go_wp2
    repeat (go_quiet (fail); try go_wp2)
    go_loopg [5] (l0.length + 1) (fun kq v5 w' => ∃ (x : Int), v5 = .int .i64 x ∧ Aside0 (0 ≤ x ∧ kq + x.toNat = l0.length + 1 ∧ x ≤ (l0.length : Int) ∧ ((l0.drop x.toNat).map dl == (l1.drop x.toNat).map dl) = r) ∧ Drawn0 w w')
    case atStart => exact ⟨0, rfl, ⟨Int.le_refl _, rfl, Int.natCast_nonneg _, by simpa using H.out⟩, by repeat (first | exact Drawn0.refl _ | apply Drawn0.step)⟩
    case round =>
      obtain ⟨x, rfl, HA, ⟨m1, rfl⟩⟩ := hrel
      obtain ⟨ha0, ha1, ha2, ha3⟩ := HA.out
      have LE' := LE.out
      by_cases d1 : x < (l0.length : Int)
      · have d2 : x < (l1.length : Int) := by omega
        have hni : decide (x < (l0.length : Int)) = true := decide_eq_true d1
        have d0 : 0 ≤ x := ha0
        obtain ⟨ad0, e0, x0_0, x0_1, x0_2, x0_3, x0_4, x0_5, x0_6, x0_7, x0_8, x0_9, x0_10, x0_11, x0_12, x0_13, x0_14, x0_15⟩ := at_T57 HR0.out x d0 d1
        cases e0
        obtain ⟨ad1, e1, x1_0, x1_1, x1_2, x1_3, x1_4, x1_5, x1_6, x1_7, x1_8, x1_9, x1_10, x1_11, x1_12, x1_13, x1_14, x1_15⟩ := at_T57 HR1.out x d0 d2
        cases e1
        have hn : x.toNat < l0.length := by omega
        have hn1 : x.toNat < l1.length := by omega
        have g0 : l0.drop x.toNat = rd_T57 l0 x :: l0.drop (x.toNat + 1) := by rw [List.drop_eq_getElem_cons hn]; unfold rd_T57; simp [List.getD, List.getElem?_eq_getElem hn]
        have g1 : l1.drop x.toNat = rd_T57 l1 x :: l1.drop (x.toNat + 1) := by rw [List.drop_eq_getElem_cons hn1]; unfold rd_T57; simp [List.getD, List.getElem?_eq_getElem hn1]
        rw [g0, g1, List.map_cons, List.map_cons, List.cons_beq_cons] at ha3
        cases hq : dl (rd_T57 l0 x) == dl (rd_T57 l1 x) with
        | true =>
          rw [hq, Bool.true_and] at ha3
          have A3 := Aside0.mk ha3
          have A1 := Aside0.mk ha1
          have D1 := Aside0.mk d1
          have D0 := Aside0.mk d0
          have w1 : wrap64 (x + 1) = x + 1 := wrap_small ha0 d1 (Kd.C_max HR0.out)
          have W1 := Aside0.mk w1
          clear ha3 ha1 HA g0 g1 hn hn1 ha2 LE' ha0 w1
          replace d0 := eq_true d0
          replace d1 := eq_true d1
          replace d2 := eq_true d2
          go_wp2
          repeat (go_quiet (fail); try go_wp2)
          obtain ⟨kq, rfl⟩ : ∃ q, gk = q + 1 := ⟨gk - 1, by have := A1.out; have := D1.out; omega⟩
          go_roundg kq
          case measure => omega
          case rel => exact ⟨x + 1, by rw [W1.out], ⟨by have := D0.out; omega, by have := A1.out; have := D0.out; omega, by have := D1.out; omega, by rw [show (x + 1).toNat = x.toNat + 1 by have := D0.out; omega]; exact A3.out⟩, by repeat (first | exact Drawn0.refl _ | apply Drawn0.step)⟩
        | false =>
          rw [hq, Bool.false_and] at ha3
          subst ha3
          clear ha1 HA g0 g1 hn hn1 ha2 LE' ha0
          replace d0 := eq_true d0
          replace d1 := eq_true d1
          replace d2 := eq_true d2
          go_wp2
          repeat (go_quiet (fail); try go_wp2)
          go_ret
          exact ⟨rfl, by repeat (first | exact Drawn0.refl _ | apply Drawn0.step)⟩
      · have hni : decide (x < (l0.length : Int)) = false := decide_eq_false d1
        obtain rfl : r = true := by
          rw [← ha3, List.drop_eq_nil_of_le (by omega), List.drop_eq_nil_of_le (by omega)]
          rfl
        clear ha3 ha1 HA d1 ha2 LE' ha0
        go_wp2
        repeat (go_quiet (fail); try go_wp2)
        go_ret
        exact ⟨rfl, by repeat (first | exact Drawn0.refl _ | apply Drawn0.step)⟩
  · have c3b0 : ((l0.length : Int) == (l1.length : Int)) = false := beq_eq_false_iff_ne.mpr c3
    have c3b1 : ((l0.length : Int) != (l1.length : Int)) = true := bne_iff_ne.mpr c3
    have c3b2 : (l0.length == l1.length) = false := by first | simpa using c3 | (simp at c3 ⊢; omega)
    obtain rfl : r = false := by
      rw [← H.out, beq_eq_false_iff_ne]
      intro e
      have := congrArg List.length e
      simp at this
      omega
    go_enter Try.func36, Try.ntmps36
    go_wp2
    repeat (go_quiet (fail); try go_wp2)
    go_ret
    exact ⟨rfl, by repeat (first | exact Drawn0.refl _ | apply Drawn0.step)⟩
end Go.Proofs.Ytekbhcciabgnhaa.PP
