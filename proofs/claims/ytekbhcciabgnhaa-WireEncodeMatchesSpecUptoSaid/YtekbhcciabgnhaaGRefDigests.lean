import Derived.Test.YtekbhcciabgnhaaPP0
import Derived.Test.YtekbhcciabgnhaaPP7
import Derived.Test.YtekbhcciabgnhaaGSame
import Derived.Shelf.Abstract
import Derived.Lib.SliceRun
import Derived.Laws.Cover3
import Derived.Shelf.RegionOpen
import Derived.WalkKit
import Derived.OwnWalkIn
import Derived.TacticsInMore
import Derived.LoopNIn
namespace Go.Proofs.Ytekbhcciabgnhaa.PP
open Go.RowKit Go.Proofs.YtekbhcciabgnhaaW.PrintWords Go.Proofs.YtekbhcciabgnhaaW.PrintLast Go.Proofs.YtekbhcciabgnhaaW.PrintMore
set_option linter.unusedVariables false
attribute [local go_sem] isSome_put
def weirgateref01_Digests.f (k : Nat) (l0 : List S57) : Option (List Int) := (weirgateref01_Int.f k (l0.length : Int)).bind fun t => if t.length + 16 * l0.length < 140737488355328 then some (t ++ l0.flatMap dl) else none
theorem weirgateref01_Digests.mono : ∀ l0 k, LeO (weirgateref01_Digests.f k l0) (weirgateref01_Digests.f (k + 1) l0) := fun l0 k => LeO.bind (weirgateref01_Int.mono _ _) fun _ => LeO.refl _
theorem dl_reads {w : World} {A : Option Addr} {n : Nat} {xs : List S57} (h : Kd.C k57 w A n xs) (i : Int) (h0 : 0 ≤ i) (h1 : i < n) : ∃ ad, A = some ad ∧ Kd.C (Kd.int .u8) w (some (ad.add (i.toNat * 16))) 16 (dl (rd_T57 xs i)) := by
  obtain ⟨ad, c, e, _, hK, hc0⟩ := Kd.C_get h z57 i h0 h1
  have hc : ∀ j u, c[j]? = some u → w.cell? (ad.add (i.toNat * 16 + j)) = some u := hc0
  obtain rfl := k57_open hK
  refine ⟨ad, e, Kd.C_of_reads (h1 := fun _ => rfl) (d := (0 : Int)) ⟨rfl, by decide, fun _ => ⟨_, rfl, fun j hj => ?_⟩⟩⟩
  rw [Addr.add_add]
  refine hc j _ ?_
  show (nums .u8 (dl (rd_T57 xs i)))[j]? = _
  have hl : j < (dl (rd_T57 xs i)).length := hj
  simp [nums, List.getElem?_eq_getElem hl]
set_option maxHeartbeats 8000000 in
set_option maxRecDepth 100000 in
theorem weirgateref01_Digests.calls (k : Nat) (A0 : Option Addr) (c0 : Nat) (l0 : List (S57)) (r : List Int) (w : World) (hr0 : Kd.C k57 w A0 l0.length l0) (hc0 : l0.length ≤ c0) (h : weirgateref01_Digests.f k l0 = some r) :
    Calls Try.prog 23 #[.slice A0 l0.length c0] w fun e w' => ∃ v0_ : Value, e = .returned (v0_) ∧ Kd.R (Kd.int .u8) 5 w' w.heap.size (fun _ => True) v0_ r ∧ Below w.heap.size w w' := by
  have HR0 := Aside0.mk hr0
  have HC0 := Aside0.mk hc0
  clear hr0 hc0
  have HB := Aside0.mk (Below.refl w.heap.size w)
  replace h := Option.bind_eq_some_iff.mp h
  obtain ⟨t, A20, H⟩ := h
  have A2 := Aside0.mk A20
  clear A20
  by_cases cl : t.length + 16 * l0.length < 140737488355328
  · rw [if_pos cl] at H
    have H' := Aside0.mk (Option.some.inj H)
    have LM := Aside0.mk cl
    clear H cl
    go_enter Try.func23, Try.ntmps23
    go_wp2_with (first | ((with_reducible refine gate_callee (f := 15) rfl ?_); refine goesL_ (some 7) rfl rfl Try.func15 (by kernel_rfl) rfl #[.int .i64 (l0.length : Int)] rfl (by (try simp only [List.map_toArray, List.map_cons, List.map_nil]); first | done | rfl) ?_; (with_reducible refine (weirgateref01_Int.calls k (l0.length : Int) t _ A2.out).mono ?_); rintro e w3 ⟨v141, rfl, ho0, hb⟩; refine ⟨_, rfl, ?_⟩; have n0_ := Aside0.mk (Kd.R_lower ho0 (below_size (bk HB.out))); have n1_ := Aside0.mk (below_step (bk HB.out) hb); clear HB; have HO := n0_; have HB := n1_; clear n0_ n1_ hb ho0))
    go_loopg [3, 4] (l0.length + 1) (fun kq v3 v4 w' => ∃ (x3 : List Int) (x : Int), v4 = .int .i64 x ∧ Aside0 (0 ≤ x ∧ kq + x.toNat = l0.length + 1 ∧ x ≤ (l0.length : Int) ∧ x3 ++ (l0.drop x.toNat).flatMap dl = r ∧ x3.length + 16 * (l0.length - x.toNat) < 140737488355328) ∧ Aside0 (Kd.R (Kd.int .u8) 5 w' w.heap.size (fun _ => True) v3 x3) ∧ Aside0 (Below w.heap.size w w'))
    case atStart => exact ⟨t, 0, rfl, ⟨Int.le_refl _, rfl, Int.natCast_nonneg _, by simpa using H'.out, by simpa using LM.out⟩, ⟨rk HO.out⟩, ⟨bk HB.out⟩⟩
    case round =>
      clear H' LM A2
      obtain ⟨x3, x, rfl, HA, HO, HB⟩ := hrel
      obtain ⟨ha0, ha1, ha2, ha3, ha4⟩ := HA.out
      by_cases d1 : x < (l0.length : Int)
      · have hni : decide (x < (l0.length : Int)) = true := decide_eq_true d1
        have d0 : 0 ≤ x := ha0
        obtain ⟨ad, e0, hrow⟩ := dl_reads HR0.out x d0 d1
        cases e0
        have HW := Aside0.mk hrow
        have hn : x.toNat < l0.length := by omega
        have g0 : l0.drop x.toNat = rd_T57 l0 x :: l0.drop (x.toNat + 1) := by rw [List.drop_eq_getElem_cons hn]; unfold rd_T57; simp [List.getD, List.getElem?_eq_getElem hn]
        rw [g0, List.flatMap_cons, ← List.append_assoc] at ha3
        have hd16 : (dl (rd_T57 l0 x)).length = 16 := rfl
        have A3 := Aside0.mk ha3
        have A1 := Aside0.mk ha1
        have A4 := Aside0.mk (show x3.length + 16 + 16 * (l0.length - (x + 1).toNat) < 140737488355328 by omega)
        have A5 := Aside0.mk (show (x3 ++ dl (rd_T57 l0 x)).length + 16 * (l0.length - (x + 1).toNat) < 140737488355328 by rw [List.length_append, hd16]; omega)
        have D1 := Aside0.mk d1
        have D0 := Aside0.mk d0
        have w1 : wrap64 (x + 1) = x + 1 := wrap_small ha0 d1 (Kd.C_max HR0.out)
        have W1 := Aside0.mk w1
        clear ha3 ha1 HA g0 hn ha2 ha0 w1 ha4 hrow hd16
        have hu57 := Try.underlying57
        replace d0 := eq_true d0
        replace d1 := eq_true d1
        go_wp2_with (first | ((with_reducible refine gate_builtin (b := .append) (xs := #[.tmp 14, .tmp 18]) rfl ?_); at_builtin; refine Kd.R_append_rows (Kd.int .u8) (w0 := w) w.heap.size rfl (.tmp 14) (.tmp 18) 28 5 (.int .u8 0) 1 rfl Try.underlying28 info5 rfl (by decide) (by omega) _ x3 (dl (rd_T57 l0 x)) _ _ _ (fun _ => True) (fun _ => False) rfl rfl ?aO ?aR (fun _ _ h => h) (fun _ h => h.elim) ?aF ?aB ?aS ?aL ?_; (case aR => repeat (first | exact (Kd.C_below HW.out (bk HB.out)) | (with_reducible refine Kd.C_alloc ?_ _) | (with_reducible refine Kd.C_drewN ?_ _) | (with_reducible refine Kd.C_drew ?_))); (case aB => exact (bk HB.out)); (case aF => exact (fun _ _ => trivial)); (case aO => exact (rk HO.out)); (case aS => exact (below_size (bk HB.out))); (case aL => have := A4.out; omega); intro v148 w9 ho hb hg hat; have n0_ := Aside0.mk ho; have n1_ := Aside0.mk hb; clear HB HO; have HB := n1_; have HO := n0_; clear n0_ n1_; clear ho hb hg hat))
        obtain ⟨kq, rfl⟩ : ∃ q, gk = q + 1 := ⟨gk - 1, by have := A1.out; have := D1.out; omega⟩
        go_roundg kq
        case measure => omega
        case rel => exact ⟨_, x + 1, by rw [W1.out], ⟨by have := D0.out; omega, by have := A1.out; have := D0.out; omega, by have := D1.out; omega, by rw [show (x + 1).toNat = x.toNat + 1 by have := D0.out; omega]; exact A3.out, A5.out⟩, ⟨rk HO.out⟩, ⟨bk HB.out⟩⟩
      · have hni : decide (x < (l0.length : Int)) = false := decide_eq_false d1
        obtain rfl : x3 = r := by
          rw [← ha3, List.drop_eq_nil_of_le (by omega)]
          simp
        clear ha3 ha1 HA d1 ha2 ha0 ha4
        go_wp2
        go_ret
        exact ⟨_, rfl, rk HO.out, bk HB.out⟩
  · rw [if_neg cl] at H
    cases H
end Go.Proofs.Ytekbhcciabgnhaa.PP
