import Derived.Test.YtekbhcciabgnhaaPP0
import Derived.Test.YtekbhcciabgnhaaPP9
import Derived.Test.YtekbhcciabgnhaaGSame
import Derived.Shelf.Abstract
import Derived.Lib.SliceRun
import Derived.Laws.Cover3
import Derived.Shelf.RegionOpen
import Derived.WalkKit
import Derived.OwnWalkIn
import Derived.TacticsInMore
import Derived.LoopNIn
namespace Go.Proofs.Ytekbhcciabgnhaa.PP
open Go.RowKit Go.Proofs.YtekbhcciabgnhaaW.PrintWords Go.Proofs.YtekbhcciabgnhaaW.PrintLast Go.Proofs.YtekbhcciabgnhaaW.PrintMore
set_option linter.unusedVariables false
attribute [local go_sem] isSome_put
def weirgateref01_GetDigests.f (k : Nat) (l0 : List Int) : Option (List S57 × Int × Int) := (weirgateref01_length.f k l0 16).bind fun t => if t.2.2 = 0 then (if 0 ≤ t.2.1 ∧ 0 ≤ t.1 ∧ t.2.1 + 16 * t.1 ≤ (l0.length : Int) ∧ (l0.length : Int) < 17592186044416 then some ((List.range t.1.toNat).map (fun i : Nat => dAt l0 (t.2.1 + 16 * (i : Int))), t.2.1 + 16 * t.1, 0) else none) else some ([], 0, t.2.2)
theorem weirgateref01_GetDigests.mono : ∀ l0 k, LeO (weirgateref01_GetDigests.f k l0) (weirgateref01_GetDigests.f (k + 1) l0) := fun l0 k => LeO.bind (weirgateref01_length.mono _ _ _) fun _ => LeO.refl _
/-- The bytes so far, from a place on. -/
def part16 (l : List Int) (at_ : Int) (i : Nat) : List Int := (List.range 16).map fun j => if j < i then rd l (at_ + j) else 0
theorem part16_len (l : List Int) (at_ : Int) (i : Nat) : (part16 l at_ i).length = 16 := by simp [part16]
theorem part16_set (l : List Int) (at_ : Int) (i : Nat) : (nums .u8 (part16 l at_ i)).toArray.setIfInBounds i (.int .u8 (rd l (at_ + i))) = (nums .u8 (part16 l at_ (i + 1))).toArray := by
  rw [List.setIfInBounds_toArray]
  congr 1
  apply List.ext_getElem?
  intro j
  simp only [nums, part16, List.map_map, List.getElem?_set, List.length_map, List.length_range, List.getElem?_map]
  by_cases hj : j < 16
  · rw [List.getElem?_eq_getElem (show j < (List.range 16).length by simpa using hj)]
    by_cases e : i = j
    · subst e
      simp [hj]
    · by_cases h1 : j < i
      · simp [e, h1, show j < i + 1 by omega]
      · simp [e, h1, show ¬ j < i + 1 by omega]
  · rw [List.getElem?_eq_none (show (List.range 16).length ≤ j by simpa using hj)]
    simp
    omega
theorem part16_full (l : List Int) (at_ : Int) : nums .u8 (part16 l at_ 16) = nums .u8 (dl (dAt l at_)) := by
  simp [part16, dl, dAt, nums, List.range_succ]
theorem part16_get (l : List Int) (at_ : Int) (i : Nat) (h : i < 16) : (nums .u8 (part16 l at_ i)).toArray[i]? = some (.int .u8 0) := by simp [nums, part16, h]
theorem part16_zero (l : List Int) (at_ : Int) : (nums .u8 (part16 l at_ 0)).toArray = #[.int .u8 0, .int .u8 0, .int .u8 0, .int .u8 0, .int .u8 0, .int .u8 0, .int .u8 0, .int .u8 0, .int .u8 0, .int .u8 0, .int .u8 0, .int .u8 0, .int .u8 0, .int .u8 0, .int .u8 0, .int .u8 0] := by
  simp [part16, nums, List.range_succ]
set_option maxHeartbeats 8000000 in
set_option maxRecDepth 100000 in
theorem weirgateref01_GetDigests.calls (k : Nat) (A0 : Option Addr) (c0 : Nat) (l0 : List Int) (r1 : List (S57)) (r2 : Int) (r3 : Int) (w : World) (hr0 : Kd.C (Kd.int .u8) w A0 l0.length l0) (hc0 : l0.length ≤ c0) (h : weirgateref01_GetDigests.f k l0 = some (r1, r2, r3)) :
    Calls Try.prog 35 #[.slice A0 l0.length c0] w fun e w' => ∃ v0_ : Value, e = .returned (.tuple #[v0_, .int .i64 r2, .int .i64 r3]) ∧ Kd.R k57 57 w' w.heap.size (fun _ => True) v0_ r1 ∧ Below w.heap.size w w' := by
  have HR0 := Aside0.mk hr0
  have HC0 := Aside0.mk hc0
  clear hr0 hc0
  have HB := Aside0.mk (Below.refl w.heap.size w)
  replace h := Option.bind_eq_some_iff.mp h
  obtain ⟨⟨n, at_, e⟩, A20, H⟩ := h
  replace H : (if e = 0 then (if 0 ≤ at_ ∧ 0 ≤ n ∧ at_ + 16 * n ≤ (l0.length : Int) ∧ (l0.length : Int) < 17592186044416 then some ((List.range n.toNat).map (fun i : Nat => dAt l0 (at_ + 16 * (i : Int))), at_ + 16 * n, 0) else none) else some ([], 0, e)) = some (r1, r2, r3) := H
  have A2 := Aside0.mk A20
  clear A20
  by_cases c3 : e = 0
  · rw [if_pos c3] at H
    have c3b0 : (e == 0) = true := beq_iff_eq.mpr c3
    have c3b1 : (e != 0) = false := bne_eq_false_iff_eq.mpr c3
    clear c3
    by_cases cl : 0 ≤ at_ ∧ 0 ≤ n ∧ at_ + 16 * n ≤ (l0.length : Int) ∧ (l0.length : Int) < 17592186044416
    · rw [if_pos cl] at H
      have H := Option.some.inj H
      simp only [Prod.mk.injEq] at H
      obtain ⟨rfl, rfl, rfl⟩ := H
      have LM := Aside0.mk cl
      clear cl
      go_enter Try.func35, Try.ntmps35
      go_wp2_with (first | ((with_reducible refine gate_callee (f := 44) rfl ?_); refine goesL_ (some 14) rfl rfl Try.func44 (by kernel_rfl) rfl #[.slice A0 l0.length c0, .int .i64 16] rfl (by (try simp only [List.map_toArray, List.map_cons, List.map_nil]); first | done | rfl) ?_; (with_reducible refine (weirgateref01_length.calls k _ _ l0 16 n at_ e _ ?side1 ?side2 A2.out).mono ?_); (case side1 => repeat (first | exact HR0.out | (with_reducible refine Kd.C_alloc ?_ _) | (with_reducible refine Kd.C_drewN ?_ _) | (with_reducible refine Kd.C_drew ?_))); (case side2 => exact HC0.out); rintro e w' ⟨rfl, ⟨nd, rfl⟩⟩; refine ⟨_, rfl, ?_⟩))
      go_loopg [6, 8, 9] (n.toNat + 1) (fun kq v6 v8 v9 w' => ∃ (x6 : Int) (x8 : List S57) (x : Int), v6 = .int .i64 x6 ∧ v9 = .int .i64 x ∧ Aside0 (0 ≤ x ∧ kq + x.toNat = n.toNat + 1 ∧ x ≤ n ∧ x6 = at_ + 16 * x ∧ x8 = (List.range x.toNat).map (fun i : Nat => dAt l0 (at_ + 16 * (i : Int)))) ∧ Aside0 (Kd.R k57 57 w' w.heap.size (fun _ => True) v8 x8) ∧ Aside0 (Below w.heap.size w w'))
      case atStart => exact ⟨at_, [], 0, rfl, rfl, ⟨Int.le_refl _, rfl, LM.out.2.1, by omega, rfl⟩, ⟨Kd.R_nil _ _ _ _ _⟩, ⟨bk HB.out⟩⟩
      case round =>
        obtain ⟨x6, x8, x, rfl, rfl, HA, HO, HB⟩ := hrel
        obtain ⟨ha0, ha1, ha2, ha3, ha4⟩ := HA.out
        obtain ⟨lm0, lm1, lm2, lm3⟩ := LM.out
        subst ha3
        by_cases d1 : x < n
        · have hni : decide (x < n) = true := decide_eq_true d1
          obtain ⟨ko, rfl⟩ : ∃ q, gk = q + 1 := ⟨gk - 1, by omega⟩
          have A1 := Aside0.mk ha1
          have A4 := Aside0.mk ha4
          have D1 := Aside0.mk (show 0 ≤ x ∧ x < n from ⟨ha0, d1⟩)
          clear ha0 ha1 ha2 ha4 lm0 lm1 lm2 lm3 HA d1 A2
          go_wp2_with (first | ((with_reducible refine gate_dst (N := 10) rfl ?_); refine box_event ?hg (N := 10) ?hd (cs := #[.int .u8 0, .int .u8 0, .int .u8 0, .int .u8 0, .int .u8 0, .int .u8 0, .int .u8 0, .int .u8 0, .int .u8 0, .int .u8 0, .int .u8 0, .int .u8 0, .int .u8 0, .int .u8 0, .int .u8 0, .int .u8 0]) (t := 57) ?hr ?_; (case hd => rfl); (case hg => rfl); (case hr => first | (go_simp; done) | (go_simp; rfl)); intro g hg w3 hbox hb; have BX := Aside0.mk hbox; have n0_ := Aside0.mk (Kd.R_below (Kd.R_elderB (rk HO.out) g (Nat.le_of_eq hg.symm)) hb); have GW := Aside0.mk (show w.heap.size ≤ g by rw [hg]; exact below_size (bk HB.out)); have n1_ := Aside0.mk (below_step (bk HB.out) hb); clear HB HO; have HB := n1_; have HO := n0_; clear n0_ n1_ hbox hb hg))
          go_loopg [11] 17 (fun kq v11 w' => ∃ (y : Int), v11 = .int .i64 y ∧ Aside0 (0 ≤ y ∧ kq + y.toNat = 17 ∧ y ≤ 16) ∧ Aside0 (w'.heap[g]? = some (.cells (nums .u8 (part16 l0 (at_ + 16 * x) y.toNat)).toArray 57 (0, 0))) ∧ Aside0 (Kd.R k57 57 w' w.heap.size (fun k_ => True ∧ k_ ≠ g) u8 x8) ∧ Aside0 (Below w.heap.size w w'))
          case atStart => exact ⟨0, rfl, ⟨Int.le_refl _, rfl, by omega⟩, ⟨by rw [show (0 : Int).toNat = 0 from rfl, part16_zero]; exact pk BX.out⟩, ⟨rk HO.out⟩, ⟨bk HB.out⟩⟩
          case round =>
            clear BX HO HB
            obtain ⟨y, rfl, HY, B16, HO, HB⟩ := hrel
            obtain ⟨hy0, hy1, hy2⟩ := HY.out
            by_cases d2 : y < 16
            · have hyi : decide (y < 16) = true := decide_eq_true d2
              obtain ⟨lm0, lm1, lm2, lm3⟩ := LM.out
              obtain ⟨dx0, dx1⟩ := D1.out
              have p0 : 0 ≤ at_ + 16 * x + y := by omega
              have q0 : at_ + 16 * x + y < (l0.length : Int) := by omega
              have ww : wrap64 (at_ + 16 * x + y) = at_ + 16 * x + y := by unfold wrap64; omega
              have wy : wrap64 (y + 1) = y + 1 := by unfold wrap64; omega
              obtain ⟨ad, e0, hx0⟩ := Kd.at_int HR0.out (at_ + 16 * x + y) p0 q0
              cases e0
              have hx1 := cell_below1 HB.out hx0
              have hyn : y.toNat < 16 := by omega
              have hcell : wr.cell? ⟨g, y.toNat, none⟩ = some (.int .u8 0) := by
                rw [blk_cell B16.out]
                exact part16_get _ _ _ hyn
              have hfz := blk_frozen B16.out y.toNat
              have hget : (at_ + 16 * x) + ((y.toNat : Nat) : Int) = at_ + 16 * x + y := by omega
              have G1 := Aside0.mk hget
              have Y1 := Aside0.mk (show 0 ≤ y ∧ y < 16 from ⟨hy0, d2⟩)
              have Y2 := Aside0.mk hy1
              have WY := Aside0.mk wy
              have d0 : 0 ≤ y := hy0
              have hu57 := Try.underlying57
              clear hx0 hyn hget hy0 hy1 hy2 HY dx0 dx1 lm0 lm1 lm2 lm3 wy
              replace p0 := eq_true p0
              replace q0 := eq_true q0
              replace d0 := eq_true d0
              replace d2 := eq_true d2
              go_wp2
              obtain ⟨kq, rfl⟩ : ∃ q, gk = q + 1 := ⟨gk - 1, by have := Y2.out; have := Y1.out; omega⟩
              go_roundg kq
              case measure => omega
              case rel => exact ⟨y + 1, by rw [WY.out], ⟨by have := Y1.out; omega, by have := Y2.out; have := Y1.out; omega, by have := Y1.out; omega⟩, ⟨by rw [show (y + 1).toNat = y.toNat + 1 by have := Y1.out; omega, ← part16_set, G1.out]; exact blk_set (pk B16.out) _ _⟩, ⟨Kd.R_far (rk HO.out) (fun k hk => hk.2) _⟩, ⟨bk HB.out⟩⟩
            · have hyi : decide (y < 16) = false := decide_eq_false d2
              obtain rfl : y = 16 := by omega
              have B17 : Aside0 (wr.heap[g]? = some (.cells #[.int .u8 (rd l0 (at_ + 16 * x)), .int .u8 (rd l0 (at_ + 16 * x + 1)), .int .u8 (rd l0 (at_ + 16 * x + 2)), .int .u8 (rd l0 (at_ + 16 * x + 3)), .int .u8 (rd l0 (at_ + 16 * x + 4)), .int .u8 (rd l0 (at_ + 16 * x + 5)), .int .u8 (rd l0 (at_ + 16 * x + 6)), .int .u8 (rd l0 (at_ + 16 * x + 7)), .int .u8 (rd l0 (at_ + 16 * x + 8)), .int .u8 (rd l0 (at_ + 16 * x + 9)), .int .u8 (rd l0 (at_ + 16 * x + 10)), .int .u8 (rd l0 (at_ + 16 * x + 11)), .int .u8 (rd l0 (at_ + 16 * x + 12)), .int .u8 (rd l0 (at_ + 16 * x + 13)), .int .u8 (rd l0 (at_ + 16 * x + 14)), .int .u8 (rd l0 (at_ + 16 * x + 15))] 57 (0, 0))) := ⟨by have h_ := B16.out; rw [show (16 : Int).toNat = 16 from rfl, part16_full] at h_; exact h_⟩
              have hcz0 : wr.cell? ⟨g, 0, none⟩ = some (.int .u8 (rd l0 (at_ + 16 * x))) := (blk_cell B17.out 0).trans rfl
              have hcz1 : wr.cell? ⟨g, 1, none⟩ = some (.int .u8 (rd l0 (at_ + 16 * x + 1))) := (blk_cell B17.out 1).trans rfl
              have hcz2 : wr.cell? ⟨g, 2, none⟩ = some (.int .u8 (rd l0 (at_ + 16 * x + 2))) := (blk_cell B17.out 2).trans rfl
              have hcz3 : wr.cell? ⟨g, 3, none⟩ = some (.int .u8 (rd l0 (at_ + 16 * x + 3))) := (blk_cell B17.out 3).trans rfl
              have hcz4 : wr.cell? ⟨g, 4, none⟩ = some (.int .u8 (rd l0 (at_ + 16 * x + 4))) := (blk_cell B17.out 4).trans rfl
              have hcz5 : wr.cell? ⟨g, 5, none⟩ = some (.int .u8 (rd l0 (at_ + 16 * x + 5))) := (blk_cell B17.out 5).trans rfl
              have hcz6 : wr.cell? ⟨g, 6, none⟩ = some (.int .u8 (rd l0 (at_ + 16 * x + 6))) := (blk_cell B17.out 6).trans rfl
              have hcz7 : wr.cell? ⟨g, 7, none⟩ = some (.int .u8 (rd l0 (at_ + 16 * x + 7))) := (blk_cell B17.out 7).trans rfl
              have hcz8 : wr.cell? ⟨g, 8, none⟩ = some (.int .u8 (rd l0 (at_ + 16 * x + 8))) := (blk_cell B17.out 8).trans rfl
              have hcz9 : wr.cell? ⟨g, 9, none⟩ = some (.int .u8 (rd l0 (at_ + 16 * x + 9))) := (blk_cell B17.out 9).trans rfl
              have hcz10 : wr.cell? ⟨g, 10, none⟩ = some (.int .u8 (rd l0 (at_ + 16 * x + 10))) := (blk_cell B17.out 10).trans rfl
              have hcz11 : wr.cell? ⟨g, 11, none⟩ = some (.int .u8 (rd l0 (at_ + 16 * x + 11))) := (blk_cell B17.out 11).trans rfl
              have hcz12 : wr.cell? ⟨g, 12, none⟩ = some (.int .u8 (rd l0 (at_ + 16 * x + 12))) := (blk_cell B17.out 12).trans rfl
              have hcz13 : wr.cell? ⟨g, 13, none⟩ = some (.int .u8 (rd l0 (at_ + 16 * x + 13))) := (blk_cell B17.out 13).trans rfl
              have hcz14 : wr.cell? ⟨g, 14, none⟩ = some (.int .u8 (rd l0 (at_ + 16 * x + 14))) := (blk_cell B17.out 14).trans rfl
              have hcz15 : wr.cell? ⟨g, 15, none⟩ = some (.int .u8 (rd l0 (at_ + 16 * x + 15))) := (blk_cell B17.out 15).trans rfl
              have hu57 := Try.underlying57
              have A5 := Aside0.mk (show x8.length < 1099511627776 ∧ wrap64 (at_ + 16 * x + 16) = at_ + 16 * x + 16 ∧ wrap64 (x + 1) = x + 1 by
                obtain ⟨lm0, lm1, lm2, lm3⟩ := LM.out
                obtain ⟨dx0, dx1⟩ := D1.out
                refine ⟨by rw [A4.out, List.length_map, List.length_range]; omega, by unfold wrap64; omega, by unfold wrap64; omega⟩)
              clear hy0 hy1 hy2 HY d2 B16
              go_wp2_with (first | ((with_reducible refine gate_builtin (b := .append) (xs := #[.tmp 38, .tmp 40]) rfl ?_); at_builtin; refine Kd.R_append k57 (w0 := w) w.heap.size rfl (.tmp 38) (.tmp 40) 24 57 (.agg #[(.int .u8 0), (.int .u8 0), (.int .u8 0), (.int .u8 0), (.int .u8 0), (.int .u8 0), (.int .u8 0), (.int .u8 0), (.int .u8 0), (.int .u8 0), (.int .u8 0), (.int .u8 0), (.int .u8 0), (.int .u8 0), (.int .u8 0), (.int .u8 0)]) 16 rfl Try.underlying24 info57 rfl (by decide) (by omega) u8 x8 (dAt l0 (at_ + 16 * x)) [.int .u8 (rd l0 (at_ + 16 * x)), .int .u8 (rd l0 (at_ + 16 * x + 1)), .int .u8 (rd l0 (at_ + 16 * x + 2)), .int .u8 (rd l0 (at_ + 16 * x + 3)), .int .u8 (rd l0 (at_ + 16 * x + 4)), .int .u8 (rd l0 (at_ + 16 * x + 5)), .int .u8 (rd l0 (at_ + 16 * x + 6)), .int .u8 (rd l0 (at_ + 16 * x + 7)), .int .u8 (rd l0 (at_ + 16 * x + 8)), .int .u8 (rd l0 (at_ + 16 * x + 9)), .int .u8 (rd l0 (at_ + 16 * x + 10)), .int .u8 (rd l0 (at_ + 16 * x + 11)), .int .u8 (rd l0 (at_ + 16 * x + 12)), .int .u8 (rd l0 (at_ + 16 * x + 13)), .int .u8 (rd l0 (at_ + 16 * x + 14)), .int .u8 (rd l0 (at_ + 16 * x + 15))] (fun k_ => True ∧ k_ ≠ g) (fun _ => False) rfl (by first | (go_simp; done) | (go_simp; rfl)) ?aP (fun _ hk => hk.elim) ?aF ?aO ?aB ?aS ?aL ?_; (case aP => exact k57_mkM _ _ _ (dAt l0 (at_ + 16 * x))); (case aB => exact (bk HB.out)); (case aF => exact (fun k_ hk => ⟨trivial, Kd.freshB (pk B17.out) k_ hk⟩)); (case aO => exact (rk HO.out)); (case aS => exact (below_size (bk HB.out))); (case aL => have := A5.out.1; omega); intro v148 w9 ho hb hg hat; have n0_ := Aside0.mk ho; have n1_ := Aside0.mk hb; clear HB HO; have HB := n1_; have HO := n0_; clear n0_ n1_; clear ho hb hg hat))
              go_roundg ko
              case measure => omega
              case rel => exact ⟨_, _, x + 1, by rw [A5.out.2.1], by rw [A5.out.2.2], ⟨by have := D1.out; omega, by have := A1.out; have := D1.out; omega, by have := D1.out; omega, by omega, by rw [show (x + 1).toNat = x.toNat + 1 by have := D1.out; omega, List.range_succ, List.map_append, ← A4.out, List.map_cons, List.map_nil, show ((x.toNat : Nat) : Int) = x by have := D1.out; omega]⟩, ⟨Kd.R_mono (rk HO.out) (fun _ _ => trivial)⟩, ⟨bk HB.out⟩⟩
        · have hni : decide (x < n) = false := decide_eq_false d1
          obtain rfl : x = n := by omega
          subst ha4
          clear ha0 ha1 ha2 lm0 lm1 lm2 lm3 HA d1 A2
          go_wp2
          go_ret3
          exact ⟨_, rfl, rk HO.out, bk HB.out⟩
    · rw [if_neg cl] at H
      cases H
  · rw [if_neg c3] at H
    have c3b0 : (e == 0) = false := beq_eq_false_iff_ne.mpr c3
    have c3b1 : (e != 0) = true := bne_iff_ne.mpr c3
    simp only [Option.some.injEq, Prod.mk.injEq] at H
    obtain ⟨rfl, rfl, rfl⟩ := H
    go_enter Try.func35, Try.ntmps35
    go_wp2_with (first | ((with_reducible refine gate_callee (f := 44) rfl ?_); refine goesL_ (some 14) rfl rfl Try.func44 (by kernel_rfl) rfl #[.slice A0 l0.length c0, .int .i64 16] rfl (by (try simp only [List.map_toArray, List.map_cons, List.map_nil]); first | done | rfl) ?_; (with_reducible refine (weirgateref01_length.calls k _ _ l0 16 n at_ e _ ?side1 ?side2 A2.out).mono ?_); (case side1 => repeat (first | exact HR0.out | (with_reducible refine Kd.C_alloc ?_ _) | (with_reducible refine Kd.C_drewN ?_ _) | (with_reducible refine Kd.C_drew ?_))); (case side2 => exact HC0.out); rintro e w' ⟨rfl, ⟨nd, rfl⟩⟩; refine ⟨_, rfl, ?_⟩))
    go_ret3
    exact ⟨_, rfl, Kd.R_nil _ _ _ _ _, bk HB.out⟩
end Go.Proofs.Ytekbhcciabgnhaa.PP
