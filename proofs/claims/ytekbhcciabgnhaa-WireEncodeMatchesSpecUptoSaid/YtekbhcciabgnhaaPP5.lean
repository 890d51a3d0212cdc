-- laid by a program of this session (wip/xprint), out of the translation
import Derived.Test.YtekbhcciabgnhaaPP0
import Derived.Test.YtekbhcciabgnhaaPP3
import Derived.Test.YtekbhcciabgnhaaGDigest
namespace Go.Proofs.Ytekbhcciabgnhaa.PP
open Go.RowKit Go.Proofs.YtekbhcciabgnhaaW.PrintWords Go.Proofs.YtekbhcciabgnhaaW.PrintLast Go.Proofs.YtekbhcciabgnhaaW.PrintMore
attribute [local go_sem] max2_int min2_int max_two min_two max_three min_three max_four min_four   -- for this text's walks alone
set_option linter.unusedVariables false
set_option linter.unusedSimpArgs false

attribute [local go_sem] isSome_put
/-! ### api_Digest_46: function 46 -/
def api_Digest_46.l0 : Nat → List Int → Int → List (S57) → Int → Int → Option ((List (S57)) × Int × Int)
  | 0, _, _, _, _, _ => none
  | k + 1, x0, x10, x12, x26, x27 => if x27 < x26 then (if 0 ≤ x10 then (if x10 ≤ (x0.length : Int) then ((wire_getDigest.f (x0.drop (x10 : Int).toNat)).bind fun bt200 => (if bt200.2.2.2.2.2.2.2.2.2.2.2.2.2.2.2.2.2 = 0 then (if x12.length < 8796093022208 then (api_Digest_46.l0 k x0 (wrap64 (x10 + bt200.2.2.2.2.2.2.2.2.2.2.2.2.2.2.2.2.1)) (x12 ++ [(⟨bt200.1, bt200.2.1, bt200.2.2.1, bt200.2.2.2.1, bt200.2.2.2.2.1, bt200.2.2.2.2.2.1, bt200.2.2.2.2.2.2.1, bt200.2.2.2.2.2.2.2.1, bt200.2.2.2.2.2.2.2.2.1, bt200.2.2.2.2.2.2.2.2.2.1, bt200.2.2.2.2.2.2.2.2.2.2.1, bt200.2.2.2.2.2.2.2.2.2.2.2.1, bt200.2.2.2.2.2.2.2.2.2.2.2.2.1, bt200.2.2.2.2.2.2.2.2.2.2.2.2.2.1, bt200.2.2.2.2.2.2.2.2.2.2.2.2.2.2.1, bt200.2.2.2.2.2.2.2.2.2.2.2.2.2.2.2.1⟩ : S57)]) x26 (wrap64 (x27 + 1))) else (none)) else (some (([] : List (S57)), 0, bt200.2.2.2.2.2.2.2.2.2.2.2.2.2.2.2.2.2)))) else (none)) else (none)) else (some (x12, x10, 0))
def api_Digest_46.f (k : Nat) (l0 : List Int) (a1 : Int)  : Option ((List (S57)) × Int × Int) := (wire_length.f k l0 a1).bind fun bt196 => (if bt196.2.2 = 0 then (api_Digest_46.l0 k l0 bt196.2.1 ([] : List (S57)) bt196.1 0) else (some (([] : List (S57)), 0, bt196.2.2)))
theorem api_Digest_46.mono_l : ∀ k, (∀ y0 y1 y2 y3 y4, LeO (api_Digest_46.l0 k y0 y1 y2 y3 y4) (api_Digest_46.l0 (k + 1) y0 y1 y2 y3 y4))
  | 0 => fun _ _ _ _ _ r h => by simp [api_Digest_46.l0] at h
  | k + 1 => by
    have ih0 := api_Digest_46.mono_l k
    · intro y0 y1 y2 y3 y4
      unfold api_Digest_46.l0
      repeat' first
      | (with_reducible exact ih0 _ _ _ _ _)
      | (with_reducible exact wire_length.mono _ _ _)
      | (with_reducible exact LeO.refl _)
      | (with_reducible exact LeO.none _)
      | (with_reducible refine LeO.ite ?_ ?_)
      | (with_reducible refine LeO.bind ?_ (fun _ => ?_))
      | exact ih0 _ _ _ _ _
      | exact wire_length.mono _ _ _
      | exact LeO.none _
      | refine LeO.ite ?_ ?_
      | refine LeO.bind ?_ (fun _ => ?_)
theorem api_Digest_46.mono : ∀ a0 a1 k, LeO (api_Digest_46.f k a0 a1) (api_Digest_46.f (k + 1) a0 a1) := by
  intro a0 a1 k
  have ih0 := api_Digest_46.mono_l k
  unfold api_Digest_46.f
  repeat' first
      | (with_reducible exact ih0 _ _ _ _ _)
      | (with_reducible exact wire_length.mono _ _ _)
      | (with_reducible exact LeO.refl _)
      | (with_reducible exact LeO.none _)
      | (with_reducible refine LeO.ite ?_ ?_)
      | (with_reducible refine LeO.bind ?_ (fun _ => ?_))
      | exact ih0 _ _ _ _ _
      | exact wire_length.mono _ _ _
      | exact LeO.none _
      | refine LeO.ite ?_ ?_
      | refine LeO.bind ?_ (fun _ => ?_)
set_option maxHeartbeats 8000000 in
set_option maxRecDepth 100000 in
theorem api_Digest_46.calls (k : Nat) (A0 : Option Addr) (c0 : Nat) (l0 : List Int) (a1 : Int)  (r1 : List (S57)) (r2 : Int) (r3 : Int) (w : World) (hr0 : Kd.C (Kd.int .u8) w A0 l0.length l0) (hc0 : l0.length ≤ c0) (h : api_Digest_46.f k l0 a1 = some (r1, r2, r3)) :
    Calls Try.prog 46 #[.slice A0 l0.length c0, .int .i64 a1, .func (.func 47) #[] #[]] w fun e w' => ∃ v0_ : Value, e = .returned (.tuple #[v0_, .int .i64 r2, .int .i64 r3]) ∧ Kd.R k57 57 w' w.heap.size (fun _ => True) v0_ r1 ∧ Below w.heap.size w w' := by
  have hu57 := Try.underlying57
  have HR0 := Aside0.mk hr0
  have HC0 := Aside0.mk hc0
  clear hr0 hc0
  have HB := Aside0.mk (Below.refl w.heap.size w)
  have H : ((wire_length.f k l0 a1).bind fun bt196 => (if bt196.2.2 = 0 then (api_Digest_46.l0 k l0 bt196.2.1 ([] : List (S57)) bt196.1 0) else (some (([] : List (S57)), 0, bt196.2.2)))) = some (r1, r2, r3) := h
  clear h
  replace H := Option.bind_eq_some_iff.mp H
  obtain ⟨⟨t196, t197, t198⟩, A40, H⟩ := H
  replace H : (if t198 = 0 then (api_Digest_46.l0 k l0 t197 ([] : List (S57)) t196 0) else (some (([] : List (S57)), 0, t198))) = some (r1, r2, r3) := H
  have A4 := Aside0.mk A40
  clear A40
  by_cases c5 : t198 = 0
  · rw [if_pos c5] at H
    have c5b0 : (t198 == 0) = true := beq_iff_eq.mpr c5
    have c5b1 : (t198 != 0) = false := bne_eq_false_iff_eq.mpr c5
    clear c5
    have H' := Aside0.mk H
    clear H
    go_enter Try.func46, Try.ntmps46
    go_wp2_with (first | ((with_reducible refine gate_callee (f := 42) rfl ?_); refine goesL_ (some 19) rfl rfl Try.func42 (by kernel_rfl) rfl #[.slice A0 l0.length c0, .int .i64 a1] rfl (by (try simp only [List.map_toArray, List.map_cons, List.map_nil]); first | done | rfl | (simp only [List.length_drop, List.length_take]; rfl)) ?_; (with_reducible refine (wire_length.calls k _ _ l0 a1 t196 t197 t198 _ ?side1 ?side2 A4.out).mono ?_); (case side1 => repeat (first | exact HR0.out | (with_reducible refine Kd.C_alloc ?_ _) | (with_reducible refine Kd.C_drewN ?_ _) | (with_reducible refine Kd.C_drew ?_))); (case side2 => exact HC0.out); rintro e w' ⟨rfl, ⟨nd, rfl⟩⟩; refine ⟨_, rfl, ?_⟩))
    go_loopg [10, 12, 27] k (fun kq v10 v12 v27 w' => ∃ (x10_1 : Int) (x12_1 : List (S57)) (x27_1 : Int), v10 = .int .i64 x10_1 ∧ v27 = .int .i64 x27_1 ∧ Aside0 (api_Digest_46.l0 kq l0 x10_1 x12_1 t196 x27_1 = some (r1, r2, r3)) ∧ Aside0 (kq ≤ k) ∧ Aside0 (Kd.R k57 57 w' w.heap.size (fun _ => True) v12 x12_1) ∧ Aside0 (Below w.heap.size w w'))
    case atStart => exact ⟨(t197), (([] : List (S57))), (0), (by first | rfl | (simp; done) | (simp [*]; done) | (simp only [show ∀ p : Prop, Aside0 p = p from fun p => propext ⟨Aside0.out, Aside0.mk⟩] at *; simp_all; done)), (by first | rfl | (simp; done) | (simp [*]; done) | (simp only [show ∀ p : Prop, Aside0 p = p from fun p => propext ⟨Aside0.out, Aside0.mk⟩] at *; simp_all; done)), H', ⟨Nat.le_refl _⟩, ⟨by first | exact Kd.R_nil _ _ _ _ _ | exact Kd.N_nil _ _ _ _ _ | exact Kd.V_nil _ _ _ _ _ | exact Kd.Q_nil _ _ _ _ _ | exact Kd.S_nil _ _ _ _ _⟩, ⟨bk HB.out⟩⟩
    case round =>
      clear H'
      try clear p2
      try clear c4
      try clear c5
      try clear c5b0
      try clear c5b1
      obtain ⟨x10_1, x12_1, x27_1, rfl, rfl, HA, HK1, HO_12, HB⟩ := hrel
      cases gk with
      | zero => exact absurd HA.out (by simp [api_Digest_46.l0])
      | succ k1 =>
        have H := HA.out
        clear HA
        simp only [api_Digest_46.l0] at H
        by_cases c6 : x27_1 < t196
        · rw [if_pos c6] at H
          have c6b0 : decide (x27_1 < t196) = true := decide_eq_true c6
          clear c6
          by_cases c7 : 0 ≤ x10_1
          · rw [if_pos c7] at H
            have c7b0 := eq_true c7
            have c7b1 : decide (0 ≤ x10_1) = true := decide_eq_true c7
            clear c7
            by_cases c8 : x10_1 ≤ (l0.length : Int)
            · rw [if_pos c8] at H
              have c8b0 := eq_true c8
              have c8b1 : decide (x10_1 ≤ (l0.length : Int)) = true := decide_eq_true c8
              clear c8
              replace H := Option.bind_eq_some_iff.mp H
              obtain ⟨⟨t200, t201, t202, t203, t204, t205, t206, t207, t208, t209, t210, t211, t212, t213, t214, t215, t216, t217⟩, A90, H⟩ := H
              replace H : (if t217 = 0 then (if x12_1.length < 8796093022208 then (api_Digest_46.l0 k1 l0 (wrap64 (x10_1 + t216)) (x12_1 ++ [(⟨t200, t201, t202, t203, t204, t205, t206, t207, t208, t209, t210, t211, t212, t213, t214, t215⟩ : S57)]) t196 (wrap64 (x27_1 + 1))) else (none)) else (some (([] : List (S57)), 0, t217))) = some (r1, r2, r3) := H
              have A9 := Aside0.mk A90
              clear A90
              by_cases c10 : t217 = 0
              · rw [if_pos c10] at H
                have c10b0 : (t217 == 0) = true := beq_iff_eq.mpr c10
                have c10b1 : (t217 != 0) = false := bne_eq_false_iff_eq.mpr c10
                clear c10
                by_cases c11 : x12_1.length < 8796093022208
                · rw [if_pos c11] at H
                  have LMc11 := Aside0.mk c11
                  clear c11
                  obtain ⟨y219, hy219⟩ : ∃ y_ : List (S57), y_ = (x12_1 ++ [(⟨t200, t201, t202, t203, t204, t205, t206, t207, t208, t209, t210, t211, t212, t213, t214, t215⟩ : S57)]) := ⟨_, rfl⟩
                  replace H : (api_Digest_46.l0 k1 l0 (wrap64 (x10_1 + t216)) y219 t196 (wrap64 (x27_1 + 1))) = some (r1, r2, r3) := by first | (rw [hy219]; with_reducible exact H) | (have H2_ := (Option.bind_some _ _).symm.trans H; rw [hy219]; with_reducible exact H2_) | (have H2_ := (Option.bind_some _ _).symm.trans H; with_reducible exact H2_) | with_reducible exact H | (rw [hy219]; exact H) | exact H
                  have Ny219 := Aside0.mk hy219
                  clear hy219
                  have H' := Aside0.mk H
                  clear H
                  obtain ⟨i012, hi012, _, hsz12, _⟩ := info_parts info5
                  obtain ⟨A12, hcut12, hA12, hC12⟩ := print_drop_of (P := Try.prog) (Value.int .u8) 0 28 5 .i64 Try.underlying28 hi012 hsz12 A0 c0 l0 x10_1 (of_decide_eq_true (by first | (with_reducible assumption) | assumption)) (of_decide_eq_true (by first | (with_reducible assumption) | assumption)) HC0.out
                  have HR199 := Aside0.mk (Kd.C_of_reads (h1 := fun _ => rfl) (hA12 _ (Kd.reads_of_C HR0.out)))
                  have HC199 := Aside0.mk hC12
                  clear hA12 hC12 hi012 hsz12
                  go_wp2_with (first | ((with_reducible refine gate_callee_t (t := 30) rfl ?_); refine goesLT_ (t := 30) (f := 47) (some 34) rfl rfl rfl Try.func47 (by kernel_rfl) rfl #[.slice A12 (l0.drop (x10_1 : Int).toNat).length (c0 - x10_1.toNat)] rfl (by (try simp only [List.map_toArray, List.map_cons, List.map_nil]); first | done | (rw [show (l0.drop (x10_1 : Int).toNat).length = (l0.length - x10_1.toNat) from List.length_drop] <;> rfl) | rfl | (simp only [List.length_drop, List.length_take]; rfl)) ?_; (with_reducible refine (wire_getDigest.calls _ _ (l0.drop (x10_1 : Int).toNat) t200 t201 t202 t203 t204 t205 t206 t207 t208 t209 t210 t211 t212 t213 t214 t215 t216 t217 _ ?side1 ?side2 A9.out).mono ?_); (case side1 => repeat (first | exact (Kd.C_below HR199.out HB.out) | exact HR199.out | (with_reducible refine Kd.C_alloc ?_ _) | (with_reducible refine Kd.C_drewN ?_ _) | (with_reducible refine Kd.C_drew ?_))); (case side2 => exact HC199.out); rintro e w13 ⟨rfl, hb⟩; refine ⟨_, rfl, ?_⟩; have n0_ := Aside0.mk (Kd.R_below (rk HO_12.out) hb); have n1_ := Aside0.mk (below_step (bk HB.out) hb); clear HO_12 HB; have HO_12 := n0_; have HB := n1_; clear n0_ n1_; (try clear hb); (try clear hb2); (try clear hk); (try clear hi)) | ((with_reducible refine gate_dst (N := 13) rfl ?_); refine box_event ?hg (N := 13) ?hd (cs := #[.int .u8 0, .int .u8 0, .int .u8 0, .int .u8 0, .int .u8 0, .int .u8 0, .int .u8 0, .int .u8 0, .int .u8 0, .int .u8 0, .int .u8 0, .int .u8 0, .int .u8 0, .int .u8 0, .int .u8 0, .int .u8 0]) (t := 57) ?hr ?_; (case hd => rfl); (case hg => rfl); (case hr => first | (go_simp; done) | (go_simp; rfl)); intro gb218 hg w14 hbox hb; have n0_ := Aside0.mk (Kd.R_below (Kd.R_elderB (rk HO_12.out) gb218 (Nat.le_of_eq hg.symm)) hb); have n1_ := Aside0.mk (below_step (bk HB.out) hb); have n2_ := Aside0.mk (hbox); have n3_ := Aside0.mk ((by rw [hg]; exact (below_size (bk HB.out)) : w.heap.size ≤ gb218)); have n4_ := Aside0.mk ((by rw [hg]; exact (below_size (bk HB.out)) : w.heap.size ≤ gb218)); clear HO_12 HB; have HO_12 := n0_; have HB := n1_; have BK218 := n2_; have GW218 := n3_; have GE218 := n4_; clear n0_ n1_ n2_ n3_ n4_; clear hb hbox hg; have hcz15_0 : w14.cell? ⟨gb218, 0, none⟩ = some (.int .u8 0) := (blk_cell BK218.out 0).trans rfl; have hcz15_1 : w14.cell? ⟨gb218, 1, none⟩ = some (.int .u8 0) := (blk_cell BK218.out 1).trans rfl; have hcz15_2 : w14.cell? ⟨gb218, 2, none⟩ = some (.int .u8 0) := (blk_cell BK218.out 2).trans rfl; have hcz15_3 : w14.cell? ⟨gb218, 3, none⟩ = some (.int .u8 0) := (blk_cell BK218.out 3).trans rfl; have hcz15_4 : w14.cell? ⟨gb218, 4, none⟩ = some (.int .u8 0) := (blk_cell BK218.out 4).trans rfl; have hcz15_5 : w14.cell? ⟨gb218, 5, none⟩ = some (.int .u8 0) := (blk_cell BK218.out 5).trans rfl; have hcz15_6 : w14.cell? ⟨gb218, 6, none⟩ = some (.int .u8 0) := (blk_cell BK218.out 6).trans rfl; have hcz15_7 : w14.cell? ⟨gb218, 7, none⟩ = some (.int .u8 0) := (blk_cell BK218.out 7).trans rfl; have hcz15_8 : w14.cell? ⟨gb218, 8, none⟩ = some (.int .u8 0) := (blk_cell BK218.out 8).trans rfl; have hcz15_9 : w14.cell? ⟨gb218, 9, none⟩ = some (.int .u8 0) := (blk_cell BK218.out 9).trans rfl; have hcz15_10 : w14.cell? ⟨gb218, 10, none⟩ = some (.int .u8 0) := (blk_cell BK218.out 10).trans rfl; have hcz15_11 : w14.cell? ⟨gb218, 11, none⟩ = some (.int .u8 0) := (blk_cell BK218.out 11).trans rfl; have hcz15_12 : w14.cell? ⟨gb218, 12, none⟩ = some (.int .u8 0) := (blk_cell BK218.out 12).trans rfl; have hcz15_13 : w14.cell? ⟨gb218, 13, none⟩ = some (.int .u8 0) := (blk_cell BK218.out 13).trans rfl; have hcz15_14 : w14.cell? ⟨gb218, 14, none⟩ = some (.int .u8 0) := (blk_cell BK218.out 14).trans rfl; have hcz15_15 : w14.cell? ⟨gb218, 15, none⟩ = some (.int .u8 0) := (blk_cell BK218.out 15).trans rfl; have hfz15_0 := blk_frozen BK218.out 0; have hfz15_1 := blk_frozen BK218.out 1; have hfz15_2 := blk_frozen BK218.out 2; have hfz15_3 := blk_frozen BK218.out 3; have hfz15_4 := blk_frozen BK218.out 4; have hfz15_5 := blk_frozen BK218.out 5; have hfz15_6 := blk_frozen BK218.out 6; have hfz15_7 := blk_frozen BK218.out 7; have hfz15_8 := blk_frozen BK218.out 8; have hfz15_9 := blk_frozen BK218.out 9; have hfz15_10 := blk_frozen BK218.out 10; have hfz15_11 := blk_frozen BK218.out 11; have hfz15_12 := blk_frozen BK218.out 12; have hfz15_13 := blk_frozen BK218.out 13; have hfz15_14 := blk_frozen BK218.out 14; have hfz15_15 := blk_frozen BK218.out 15) | ((with_reducible refine gate_builtin (b := .append) (xs := #[.tmp 41, .tmp 43]) rfl ?_); at_builtin; refine Kd.R_append k57 (w0 := w) w.heap.size rfl (.tmp 41) (.tmp 43) 24 57 (.agg #[(.int .u8 0), (.int .u8 0), (.int .u8 0), (.int .u8 0), (.int .u8 0), (.int .u8 0), (.int .u8 0), (.int .u8 0), (.int .u8 0), (.int .u8 0), (.int .u8 0), (.int .u8 0), (.int .u8 0), (.int .u8 0), (.int .u8 0), (.int .u8 0)]) 16 rfl Try.underlying24 info57 rfl (by decide) (by omega) u12 x12_1 (⟨t200, t201, t202, t203, t204, t205, t206, t207, t208, t209, t210, t211, t212, t213, t214, t215⟩ : S57) [.int .u8 t200, .int .u8 t201, .int .u8 t202, .int .u8 t203, .int .u8 t204, .int .u8 t205, .int .u8 t206, .int .u8 t207, .int .u8 t208, .int .u8 t209, .int .u8 t210, .int .u8 t211, .int .u8 t212, .int .u8 t213, .int .u8 t214, .int .u8 t215] (fun k_ => k_ ≠ gb218) (fun _ => False) rfl (by first | (go_simp; done) | (go_simp; rfl)) ?aP (fun _ hk => hk.elim) ?aF ?aO ?aB ?aS ?aL ?_; (case aP => exact k57_mkM _ _ _ (⟨t200, t201, t202, t203, t204, t205, t206, t207, t208, t209, t210, t211, t212, t213, t214, t215⟩ : S57)); (case aB => exact (bk HB.out)); (case aF => exact (fun k_ hk => Kd.freshB (g := gb218) (o := .cells #[.int .u8 t200, .int .u8 t201, .int .u8 t202, .int .u8 t203, .int .u8 t204, .int .u8 t205, .int .u8 t206, .int .u8 t207, .int .u8 t208, .int .u8 t209, .int .u8 t210, .int .u8 t211, .int .u8 t212, .int .u8 t213, .int .u8 t214, .int .u8 t215] 57 (0, 0)) (by refine pk ?_; refine blk_put (cs := #[.int .u8 t200, .int .u8 t201, .int .u8 t202, .int .u8 t203, .int .u8 t204, .int .u8 t205, .int .u8 t206, .int .u8 t207, .int .u8 t208, .int .u8 t209, .int .u8 t210, .int .u8 t211, .int .u8 t212, .int .u8 t213, .int .u8 t214, .int .u8 0]) ?_ 15 _ rfl; refine pk ?_; refine blk_put (cs := #[.int .u8 t200, .int .u8 t201, .int .u8 t202, .int .u8 t203, .int .u8 t204, .int .u8 t205, .int .u8 t206, .int .u8 t207, .int .u8 t208, .int .u8 t209, .int .u8 t210, .int .u8 t211, .int .u8 t212, .int .u8 t213, .int .u8 0, .int .u8 0]) ?_ 14 _ rfl; refine pk ?_; refine blk_put (cs := #[.int .u8 t200, .int .u8 t201, .int .u8 t202, .int .u8 t203, .int .u8 t204, .int .u8 t205, .int .u8 t206, .int .u8 t207, .int .u8 t208, .int .u8 t209, .int .u8 t210, .int .u8 t211, .int .u8 t212, .int .u8 0, .int .u8 0, .int .u8 0]) ?_ 13 _ rfl; refine pk ?_; refine blk_put (cs := #[.int .u8 t200, .int .u8 t201, .int .u8 t202, .int .u8 t203, .int .u8 t204, .int .u8 t205, .int .u8 t206, .int .u8 t207, .int .u8 t208, .int .u8 t209, .int .u8 t210, .int .u8 t211, .int .u8 0, .int .u8 0, .int .u8 0, .int .u8 0]) ?_ 12 _ rfl; refine pk ?_; refine blk_put (cs := #[.int .u8 t200, .int .u8 t201, .int .u8 t202, .int .u8 t203, .int .u8 t204, .int .u8 t205, .int .u8 t206, .int .u8 t207, .int .u8 t208, .int .u8 t209, .int .u8 t210, .int .u8 0, .int .u8 0, .int .u8 0, .int .u8 0, .int .u8 0]) ?_ 11 _ rfl; refine pk ?_; refine blk_put (cs := #[.int .u8 t200, .int .u8 t201, .int .u8 t202, .int .u8 t203, .int .u8 t204, .int .u8 t205, .int .u8 t206, .int .u8 t207, .int .u8 t208, .int .u8 t209, .int .u8 0, .int .u8 0, .int .u8 0, .int .u8 0, .int .u8 0, .int .u8 0]) ?_ 10 _ rfl; refine pk ?_; refine blk_put (cs := #[.int .u8 t200, .int .u8 t201, .int .u8 t202, .int .u8 t203, .int .u8 t204, .int .u8 t205, .int .u8 t206, .int .u8 t207, .int .u8 t208, .int .u8 0, .int .u8 0, .int .u8 0, .int .u8 0, .int .u8 0, .int .u8 0, .int .u8 0]) ?_ 9 _ rfl; refine pk ?_; refine blk_put (cs := #[.int .u8 t200, .int .u8 t201, .int .u8 t202, .int .u8 t203, .int .u8 t204, .int .u8 t205, .int .u8 t206, .int .u8 t207, .int .u8 0, .int .u8 0, .int .u8 0, .int .u8 0, .int .u8 0, .int .u8 0, .int .u8 0, .int .u8 0]) ?_ 8 _ rfl; refine pk ?_; refine blk_put (cs := #[.int .u8 t200, .int .u8 t201, .int .u8 t202, .int .u8 t203, .int .u8 t204, .int .u8 t205, .int .u8 t206, .int .u8 0, .int .u8 0, .int .u8 0, .int .u8 0, .int .u8 0, .int .u8 0, .int .u8 0, .int .u8 0, .int .u8 0]) ?_ 7 _ rfl; refine pk ?_; refine blk_put (cs := #[.int .u8 t200, .int .u8 t201, .int .u8 t202, .int .u8 t203, .int .u8 t204, .int .u8 t205, .int .u8 0, .int .u8 0, .int .u8 0, .int .u8 0, .int .u8 0, .int .u8 0, .int .u8 0, .int .u8 0, .int .u8 0, .int .u8 0]) ?_ 6 _ rfl; refine pk ?_; refine blk_put (cs := #[.int .u8 t200, .int .u8 t201, .int .u8 t202, .int .u8 t203, .int .u8 t204, .int .u8 0, .int .u8 0, .int .u8 0, .int .u8 0, .int .u8 0, .int .u8 0, .int .u8 0, .int .u8 0, .int .u8 0, .int .u8 0, .int .u8 0]) ?_ 5 _ rfl; refine pk ?_; refine blk_put (cs := #[.int .u8 t200, .int .u8 t201, .int .u8 t202, .int .u8 t203, .int .u8 0, .int .u8 0, .int .u8 0, .int .u8 0, .int .u8 0, .int .u8 0, .int .u8 0, .int .u8 0, .int .u8 0, .int .u8 0, .int .u8 0, .int .u8 0]) ?_ 4 _ rfl; refine pk ?_; refine blk_put (cs := #[.int .u8 t200, .int .u8 t201, .int .u8 t202, .int .u8 0, .int .u8 0, .int .u8 0, .int .u8 0, .int .u8 0, .int .u8 0, .int .u8 0, .int .u8 0, .int .u8 0, .int .u8 0, .int .u8 0, .int .u8 0, .int .u8 0]) ?_ 3 _ rfl; refine pk ?_; refine blk_put (cs := #[.int .u8 t200, .int .u8 t201, .int .u8 0, .int .u8 0, .int .u8 0, .int .u8 0, .int .u8 0, .int .u8 0, .int .u8 0, .int .u8 0, .int .u8 0, .int .u8 0, .int .u8 0, .int .u8 0, .int .u8 0, .int .u8 0]) ?_ 2 _ rfl; refine pk ?_; refine blk_put (cs := #[.int .u8 t200, .int .u8 0, .int .u8 0, .int .u8 0, .int .u8 0, .int .u8 0, .int .u8 0, .int .u8 0, .int .u8 0, .int .u8 0, .int .u8 0, .int .u8 0, .int .u8 0, .int .u8 0, .int .u8 0, .int .u8 0]) ?_ 1 _ rfl; refine pk ?_; refine blk_put (cs := #[.int .u8 0, .int .u8 0, .int .u8 0, .int .u8 0, .int .u8 0, .int .u8 0, .int .u8 0, .int .u8 0, .int .u8 0, .int .u8 0, .int .u8 0, .int .u8 0, .int .u8 0, .int .u8 0, .int .u8 0, .int .u8 0]) ?_ 0 _ rfl; refine pk ?_; exact BK218.out) k_ hk)); (case aO => exact (by (with_reducible repeat (first | apply Kd.R_alloc | apply Kd.R_drewN | apply Kd.R_drew)); exact Kd.R_mono (Kd.R_far (p := ⟨gb218, 15, none⟩) (Kd.R_far (p := ⟨gb218, 14, none⟩) (Kd.R_far (p := ⟨gb218, 13, none⟩) (Kd.R_far (p := ⟨gb218, 12, none⟩) (Kd.R_far (p := ⟨gb218, 11, none⟩) (Kd.R_far (p := ⟨gb218, 10, none⟩) (Kd.R_far (p := ⟨gb218, 9, none⟩) (Kd.R_far (p := ⟨gb218, 8, none⟩) (Kd.R_far (p := ⟨gb218, 7, none⟩) (Kd.R_far (p := ⟨gb218, 6, none⟩) (Kd.R_far (p := ⟨gb218, 5, none⟩) (Kd.R_far (p := ⟨gb218, 4, none⟩) (Kd.R_far (p := ⟨gb218, 3, none⟩) (Kd.R_far (p := ⟨gb218, 2, none⟩) (Kd.R_far (p := ⟨gb218, 1, none⟩) (Kd.R_far (p := ⟨gb218, 0, none⟩) (Kd.R_mono HO_12.out (fun k_ hk => (⟨hk, hk.2⟩ : _ ∧ k_ ≠ gb218))) (fun _ hk => hk.2) (.int .u8 t200)) (fun _ hk => hk.2) (.int .u8 t201)) (fun _ hk => hk.2) (.int .u8 t202)) (fun _ hk => hk.2) (.int .u8 t203)) (fun _ hk => hk.2) (.int .u8 t204)) (fun _ hk => hk.2) (.int .u8 t205)) (fun _ hk => hk.2) (.int .u8 t206)) (fun _ hk => hk.2) (.int .u8 t207)) (fun _ hk => hk.2) (.int .u8 t208)) (fun _ hk => hk.2) (.int .u8 t209)) (fun _ hk => hk.2) (.int .u8 t210)) (fun _ hk => hk.2) (.int .u8 t211)) (fun _ hk => hk.2) (.int .u8 t212)) (fun _ hk => hk.2) (.int .u8 t213)) (fun _ hk => hk.2) (.int .u8 t214)) (fun _ hk => hk.2) (.int .u8 t215)) (fun _ hk => hk.1.2))); (case aS => exact (below_size (bk HB.out))); (case aL => have := LMc11.out; omega); intro v220 w16 ho hb hg hat; rw [← Ny219.out] at ho; have n0_ := Aside0.mk (blk_grown (g := gb218) (o := .cells #[.int .u8 t200, .int .u8 t201, .int .u8 t202, .int .u8 t203, .int .u8 t204, .int .u8 t205, .int .u8 t206, .int .u8 t207, .int .u8 t208, .int .u8 t209, .int .u8 t210, .int .u8 t211, .int .u8 t212, .int .u8 t213, .int .u8 t214, .int .u8 t215] 57 (0, 0)) (by refine pk ?_; refine blk_put (cs := #[.int .u8 t200, .int .u8 t201, .int .u8 t202, .int .u8 t203, .int .u8 t204, .int .u8 t205, .int .u8 t206, .int .u8 t207, .int .u8 t208, .int .u8 t209, .int .u8 t210, .int .u8 t211, .int .u8 t212, .int .u8 t213, .int .u8 t214, .int .u8 0]) ?_ 15 _ rfl; refine pk ?_; refine blk_put (cs := #[.int .u8 t200, .int .u8 t201, .int .u8 t202, .int .u8 t203, .int .u8 t204, .int .u8 t205, .int .u8 t206, .int .u8 t207, .int .u8 t208, .int .u8 t209, .int .u8 t210, .int .u8 t211, .int .u8 t212, .int .u8 t213, .int .u8 0, .int .u8 0]) ?_ 14 _ rfl; refine pk ?_; refine blk_put (cs := #[.int .u8 t200, .int .u8 t201, .int .u8 t202, .int .u8 t203, .int .u8 t204, .int .u8 t205, .int .u8 t206, .int .u8 t207, .int .u8 t208, .int .u8 t209, .int .u8 t210, .int .u8 t211, .int .u8 t212, .int .u8 0, .int .u8 0, .int .u8 0]) ?_ 13 _ rfl; refine pk ?_; refine blk_put (cs := #[.int .u8 t200, .int .u8 t201, .int .u8 t202, .int .u8 t203, .int .u8 t204, .int .u8 t205, .int .u8 t206, .int .u8 t207, .int .u8 t208, .int .u8 t209, .int .u8 t210, .int .u8 t211, .int .u8 0, .int .u8 0, .int .u8 0, .int .u8 0]) ?_ 12 _ rfl; refine pk ?_; refine blk_put (cs := #[.int .u8 t200, .int .u8 t201, .int .u8 t202, .int .u8 t203, .int .u8 t204, .int .u8 t205, .int .u8 t206, .int .u8 t207, .int .u8 t208, .int .u8 t209, .int .u8 t210, .int .u8 0, .int .u8 0, .int .u8 0, .int .u8 0, .int .u8 0]) ?_ 11 _ rfl; refine pk ?_; refine blk_put (cs := #[.int .u8 t200, .int .u8 t201, .int .u8 t202, .int .u8 t203, .int .u8 t204, .int .u8 t205, .int .u8 t206, .int .u8 t207, .int .u8 t208, .int .u8 t209, .int .u8 0, .int .u8 0, .int .u8 0, .int .u8 0, .int .u8 0, .int .u8 0]) ?_ 10 _ rfl; refine pk ?_; refine blk_put (cs := #[.int .u8 t200, .int .u8 t201, .int .u8 t202, .int .u8 t203, .int .u8 t204, .int .u8 t205, .int .u8 t206, .int .u8 t207, .int .u8 t208, .int .u8 0, .int .u8 0, .int .u8 0, .int .u8 0, .int .u8 0, .int .u8 0, .int .u8 0]) ?_ 9 _ rfl; refine pk ?_; refine blk_put (cs := #[.int .u8 t200, .int .u8 t201, .int .u8 t202, .int .u8 t203, .int .u8 t204, .int .u8 t205, .int .u8 t206, .int .u8 t207, .int .u8 0, .int .u8 0, .int .u8 0, .int .u8 0, .int .u8 0, .int .u8 0, .int .u8 0, .int .u8 0]) ?_ 8 _ rfl; refine pk ?_; refine blk_put (cs := #[.int .u8 t200, .int .u8 t201, .int .u8 t202, .int .u8 t203, .int .u8 t204, .int .u8 t205, .int .u8 t206, .int .u8 0, .int .u8 0, .int .u8 0, .int .u8 0, .int .u8 0, .int .u8 0, .int .u8 0, .int .u8 0, .int .u8 0]) ?_ 7 _ rfl; refine pk ?_; refine blk_put (cs := #[.int .u8 t200, .int .u8 t201, .int .u8 t202, .int .u8 t203, .int .u8 t204, .int .u8 t205, .int .u8 0, .int .u8 0, .int .u8 0, .int .u8 0, .int .u8 0, .int .u8 0, .int .u8 0, .int .u8 0, .int .u8 0, .int .u8 0]) ?_ 6 _ rfl; refine pk ?_; refine blk_put (cs := #[.int .u8 t200, .int .u8 t201, .int .u8 t202, .int .u8 t203, .int .u8 t204, .int .u8 0, .int .u8 0, .int .u8 0, .int .u8 0, .int .u8 0, .int .u8 0, .int .u8 0, .int .u8 0, .int .u8 0, .int .u8 0, .int .u8 0]) ?_ 5 _ rfl; refine pk ?_; refine blk_put (cs := #[.int .u8 t200, .int .u8 t201, .int .u8 t202, .int .u8 t203, .int .u8 0, .int .u8 0, .int .u8 0, .int .u8 0, .int .u8 0, .int .u8 0, .int .u8 0, .int .u8 0, .int .u8 0, .int .u8 0, .int .u8 0, .int .u8 0]) ?_ 4 _ rfl; refine pk ?_; refine blk_put (cs := #[.int .u8 t200, .int .u8 t201, .int .u8 t202, .int .u8 0, .int .u8 0, .int .u8 0, .int .u8 0, .int .u8 0, .int .u8 0, .int .u8 0, .int .u8 0, .int .u8 0, .int .u8 0, .int .u8 0, .int .u8 0, .int .u8 0]) ?_ 3 _ rfl; refine pk ?_; refine blk_put (cs := #[.int .u8 t200, .int .u8 t201, .int .u8 0, .int .u8 0, .int .u8 0, .int .u8 0, .int .u8 0, .int .u8 0, .int .u8 0, .int .u8 0, .int .u8 0, .int .u8 0, .int .u8 0, .int .u8 0, .int .u8 0, .int .u8 0]) ?_ 2 _ rfl; refine pk ?_; refine blk_put (cs := #[.int .u8 t200, .int .u8 0, .int .u8 0, .int .u8 0, .int .u8 0, .int .u8 0, .int .u8 0, .int .u8 0, .int .u8 0, .int .u8 0, .int .u8 0, .int .u8 0, .int .u8 0, .int .u8 0, .int .u8 0, .int .u8 0]) ?_ 1 _ rfl; refine pk ?_; refine blk_put (cs := #[.int .u8 0, .int .u8 0, .int .u8 0, .int .u8 0, .int .u8 0, .int .u8 0, .int .u8 0, .int .u8 0, .int .u8 0, .int .u8 0, .int .u8 0, .int .u8 0, .int .u8 0, .int .u8 0, .int .u8 0, .int .u8 0]) ?_ 0 _ rfl; refine pk ?_; exact BK218.out) hg (Kd.R_away HO_12.out (fun _ hk => hk.2))); have n1_ := Aside0.mk (hb); have n2_ := Aside0.mk (ho); clear BK218 HB HO_12; have BK218 := n0_; have HB := n1_; have HO221 := n2_; clear n0_ n1_ n2_; clear ho hb hg hat))
                  go_roundg k1
                  case measure => have := HK1.out; omega
                  case rel => exact ⟨(wrap64 (x10_1 + t216)), (y219), (wrap64 (x27_1 + 1)), (by first | rfl | (simp; done) | (simp [*]; done) | (simp only [show ∀ p : Prop, Aside0 p = p from fun p => propext ⟨Aside0.out, Aside0.mk⟩] at *; simp_all; done)), (by first | rfl | (simp; done) | (simp [*]; done) | (simp only [show ∀ p : Prop, Aside0 p = p from fun p => propext ⟨Aside0.out, Aside0.mk⟩] at *; simp_all; done)), H', ⟨by have := HK1.out; omega⟩, ⟨by (with_reducible repeat (first | apply Kd.R_alloc | apply Kd.R_drewN | apply Kd.R_drew)); exact Kd.R_mono HO221.out (fun _ hk => trivial)⟩, ⟨bk HB.out⟩⟩
                · rw [if_neg c11] at H
                  exact absurd H (by simp)
              · rw [if_neg c10] at H
                have c10b0 : (t217 == 0) = false := beq_eq_false_iff_ne.mpr c10
                have c10b1 : (t217 != 0) = true := bne_iff_ne.mpr c10
                simp only [Option.some.injEq, Prod.mk.injEq] at H
                obtain ⟨rfl, rfl, rfl⟩ := H
                obtain ⟨i017, hi017, _, hsz17, _⟩ := info_parts info5
                obtain ⟨A17, hcut17, hA17, hC17⟩ := print_drop_of (P := Try.prog) (Value.int .u8) 0 28 5 .i64 Try.underlying28 hi017 hsz17 A0 c0 l0 x10_1 (of_decide_eq_true (by first | (with_reducible assumption) | assumption)) (of_decide_eq_true (by first | (with_reducible assumption) | assumption)) HC0.out
                have HR199 := Aside0.mk (Kd.C_of_reads (h1 := fun _ => rfl) (hA17 _ (Kd.reads_of_C HR0.out)))
                have HC199 := Aside0.mk hC17
                clear hA17 hC17 hi017 hsz17
                go_wp2_with (first | ((with_reducible refine gate_callee_t (t := 30) rfl ?_); refine goesLT_ (t := 30) (f := 47) (some 34) rfl rfl rfl Try.func47 (by kernel_rfl) rfl #[.slice A17 (l0.drop (x10_1 : Int).toNat).length (c0 - x10_1.toNat)] rfl (by (try simp only [List.map_toArray, List.map_cons, List.map_nil]); first | done | (rw [show (l0.drop (x10_1 : Int).toNat).length = (l0.length - x10_1.toNat) from List.length_drop] <;> rfl) | rfl | (simp only [List.length_drop, List.length_take]; rfl)) ?_; (with_reducible refine (wire_getDigest.calls _ _ (l0.drop (x10_1 : Int).toNat) t200 t201 t202 t203 t204 t205 t206 t207 t208 t209 t210 t211 t212 t213 t214 t215 t216 t217 _ ?side1 ?side2 A9.out).mono ?_); (case side1 => repeat (first | exact (Kd.C_below HR199.out HB.out) | exact HR199.out | (with_reducible refine Kd.C_alloc ?_ _) | (with_reducible refine Kd.C_drewN ?_ _) | (with_reducible refine Kd.C_drew ?_))); (case side2 => exact HC199.out); rintro e w18 ⟨rfl, hb⟩; refine ⟨_, rfl, ?_⟩; have n0_ := Aside0.mk (Kd.R_below (rk HO_12.out) hb); have n1_ := Aside0.mk (below_step (bk HB.out) hb); clear HO_12 HB; have HO_12 := n0_; have HB := n1_; clear n0_ n1_; (try clear hb); (try clear hb2); (try clear hk); (try clear hi)) | ((with_reducible refine gate_dst (N := 13) rfl ?_); refine box_event ?hg (N := 13) ?hd (cs := #[.int .u8 0, .int .u8 0, .int .u8 0, .int .u8 0, .int .u8 0, .int .u8 0, .int .u8 0, .int .u8 0, .int .u8 0, .int .u8 0, .int .u8 0, .int .u8 0, .int .u8 0, .int .u8 0, .int .u8 0, .int .u8 0]) (t := 57) ?hr ?_; (case hd => rfl); (case hg => rfl); (case hr => first | (go_simp; done) | (go_simp; rfl)); intro gb218 hg w19 hbox hb; have n0_ := Aside0.mk (Kd.R_below (Kd.R_elderB (rk HO_12.out) gb218 (Nat.le_of_eq hg.symm)) hb); have n1_ := Aside0.mk (below_step (bk HB.out) hb); have n2_ := Aside0.mk (hbox); have n3_ := Aside0.mk ((by rw [hg]; exact (below_size (bk HB.out)) : w.heap.size ≤ gb218)); have n4_ := Aside0.mk ((by rw [hg]; exact (below_size (bk HB.out)) : w.heap.size ≤ gb218)); clear HO_12 HB; have HO_12 := n0_; have HB := n1_; have BK218 := n2_; have GW218 := n3_; have GE218 := n4_; clear n0_ n1_ n2_ n3_ n4_; clear hb hbox hg; have hcz20_0 : w19.cell? ⟨gb218, 0, none⟩ = some (.int .u8 0) := (blk_cell BK218.out 0).trans rfl; have hcz20_1 : w19.cell? ⟨gb218, 1, none⟩ = some (.int .u8 0) := (blk_cell BK218.out 1).trans rfl; have hcz20_2 : w19.cell? ⟨gb218, 2, none⟩ = some (.int .u8 0) := (blk_cell BK218.out 2).trans rfl; have hcz20_3 : w19.cell? ⟨gb218, 3, none⟩ = some (.int .u8 0) := (blk_cell BK218.out 3).trans rfl; have hcz20_4 : w19.cell? ⟨gb218, 4, none⟩ = some (.int .u8 0) := (blk_cell BK218.out 4).trans rfl; have hcz20_5 : w19.cell? ⟨gb218, 5, none⟩ = some (.int .u8 0) := (blk_cell BK218.out 5).trans rfl; have hcz20_6 : w19.cell? ⟨gb218, 6, none⟩ = some (.int .u8 0) := (blk_cell BK218.out 6).trans rfl; have hcz20_7 : w19.cell? ⟨gb218, 7, none⟩ = some (.int .u8 0) := (blk_cell BK218.out 7).trans rfl; have hcz20_8 : w19.cell? ⟨gb218, 8, none⟩ = some (.int .u8 0) := (blk_cell BK218.out 8).trans rfl; have hcz20_9 : w19.cell? ⟨gb218, 9, none⟩ = some (.int .u8 0) := (blk_cell BK218.out 9).trans rfl; have hcz20_10 : w19.cell? ⟨gb218, 10, none⟩ = some (.int .u8 0) := (blk_cell BK218.out 10).trans rfl; have hcz20_11 : w19.cell? ⟨gb218, 11, none⟩ = some (.int .u8 0) := (blk_cell BK218.out 11).trans rfl; have hcz20_12 : w19.cell? ⟨gb218, 12, none⟩ = some (.int .u8 0) := (blk_cell BK218.out 12).trans rfl; have hcz20_13 : w19.cell? ⟨gb218, 13, none⟩ = some (.int .u8 0) := (blk_cell BK218.out 13).trans rfl; have hcz20_14 : w19.cell? ⟨gb218, 14, none⟩ = some (.int .u8 0) := (blk_cell BK218.out 14).trans rfl; have hcz20_15 : w19.cell? ⟨gb218, 15, none⟩ = some (.int .u8 0) := (blk_cell BK218.out 15).trans rfl; have hfz20_0 := blk_frozen BK218.out 0; have hfz20_1 := blk_frozen BK218.out 1; have hfz20_2 := blk_frozen BK218.out 2; have hfz20_3 := blk_frozen BK218.out 3; have hfz20_4 := blk_frozen BK218.out 4; have hfz20_5 := blk_frozen BK218.out 5; have hfz20_6 := blk_frozen BK218.out 6; have hfz20_7 := blk_frozen BK218.out 7; have hfz20_8 := blk_frozen BK218.out 8; have hfz20_9 := blk_frozen BK218.out 9; have hfz20_10 := blk_frozen BK218.out 10; have hfz20_11 := blk_frozen BK218.out 11; have hfz20_12 := blk_frozen BK218.out 12; have hfz20_13 := blk_frozen BK218.out 13; have hfz20_14 := blk_frozen BK218.out 14; have hfz20_15 := blk_frozen BK218.out 15))
                go_ret3
                exact ⟨_, by first | rfl | (simp [errW_none, errW_some] <;> rfl) | (simp [*, errW_none, errW_some] <;> rfl), by first | exact Kd.R_nil _ _ _ _ _ | exact Kd.N_nil _ _ _ _ _ | exact Kd.V_nil _ _ _ _ _ | exact Kd.Q_nil _ _ _ _ _ | exact Kd.S_nil _ _ _ _ _, bk HB.out⟩
            · rw [if_neg c8] at H
              exact absurd H (by simp)
          · rw [if_neg c7] at H
            exact absurd H (by simp)
        · rw [if_neg c6] at H
          have c6b0 : decide (x27_1 < t196) = false := decide_eq_false c6
          clear c6
          simp only [Option.some.injEq, Prod.mk.injEq] at H
          obtain ⟨rfl, rfl, rfl⟩ := H
          go_wp2
          go_ret3
          exact ⟨_, by first | rfl | (simp [errW_none, errW_some] <;> rfl) | (simp [*, errW_none, errW_some] <;> rfl), rk HO_12.out, bk HB.out⟩
  · rw [if_neg c5] at H
    have c5b0 : (t198 == 0) = false := beq_eq_false_iff_ne.mpr c5
    have c5b1 : (t198 != 0) = true := bne_iff_ne.mpr c5
    simp only [Option.some.injEq, Prod.mk.injEq] at H
    obtain ⟨rfl, rfl, rfl⟩ := H
    go_enter Try.func46, Try.ntmps46
    go_wp2_with (first | ((with_reducible refine gate_callee (f := 42) rfl ?_); refine goesL_ (some 19) rfl rfl Try.func42 (by kernel_rfl) rfl #[.slice A0 l0.length c0, .int .i64 a1] rfl (by (try simp only [List.map_toArray, List.map_cons, List.map_nil]); first | done | rfl | (simp only [List.length_drop, List.length_take]; rfl)) ?_; (with_reducible refine (wire_length.calls k _ _ l0 a1 t196 t197 t198 _ ?side1 ?side2 A4.out).mono ?_); (case side1 => repeat (first | exact HR0.out | (with_reducible refine Kd.C_alloc ?_ _) | (with_reducible refine Kd.C_drewN ?_ _) | (with_reducible refine Kd.C_drew ?_))); (case side2 => exact HC0.out); rintro e w' ⟨rfl, ⟨nd, rfl⟩⟩; refine ⟨_, rfl, ?_⟩))
    go_ret3
    exact ⟨_, by first | rfl | (simp [errW_none, errW_some] <;> rfl) | (simp [*, errW_none, errW_some] <;> rfl), by first | exact Kd.R_nil _ _ _ _ _ | exact Kd.N_nil _ _ _ _ _ | exact Kd.V_nil _ _ _ _ _ | exact Kd.Q_nil _ _ _ _ _ | exact Kd.S_nil _ _ _ _ _, bk HB.out⟩

/-! ### wire_GetDigests: function 34 -/
def wire_GetDigests.f (k : Nat) (l0 : List Int) : Option ((List (S57)) × Int × Int) := (api_Digest_46.f k l0 16).bind fun bt222 => (some (bt222.1, bt222.2.1, bt222.2.2))
theorem wire_GetDigests.mono : ∀ a0 k, LeO (wire_GetDigests.f k a0) (wire_GetDigests.f (k + 1) a0) := by
  intro a0 k
  unfold wire_GetDigests.f
  repeat' first
      | (with_reducible exact api_Digest_46.mono _ _ _)
      | (with_reducible exact LeO.refl _)
      | (with_reducible exact LeO.none _)
      | (with_reducible refine LeO.ite ?_ ?_)
      | (with_reducible refine LeO.bind ?_ (fun _ => ?_))
      | exact api_Digest_46.mono _ _ _
      | exact LeO.none _
      | refine LeO.ite ?_ ?_
      | refine LeO.bind ?_ (fun _ => ?_)
set_option maxHeartbeats 8000000 in
set_option maxRecDepth 100000 in
theorem wire_GetDigests.calls (k : Nat) (A0 : Option Addr) (c0 : Nat) (l0 : List Int) (r1 : List (S57)) (r2 : Int) (r3 : Int) (w : World) (hr0 : Kd.C (Kd.int .u8) w A0 l0.length l0) (hc0 : l0.length ≤ c0) (h : wire_GetDigests.f k l0 = some (r1, r2, r3)) :
    Calls Try.prog 34 #[.slice A0 l0.length c0] w fun e w' => ∃ v0_ : Value, e = .returned (.tuple #[v0_, .int .i64 r2, .int .i64 r3]) ∧ Kd.R k57 57 w' w.heap.size (fun _ => True) v0_ r1 ∧ Below w.heap.size w w' := by
  have HR0 := Aside0.mk hr0
  have HC0 := Aside0.mk hc0
  clear hr0 hc0
  have HB := Aside0.mk (Below.refl w.heap.size w)
  have H : ((api_Digest_46.f k l0 16).bind fun bt222 => (some (bt222.1, bt222.2.1, bt222.2.2))) = some (r1, r2, r3) := h
  clear h
  replace H := Option.bind_eq_some_iff.mp H
  obtain ⟨⟨t222, t225, t226⟩, A20, H⟩ := H
  replace H : (some (t222, t225, t226)) = some (r1, r2, r3) := H
  have A2 := Aside0.mk A20
  clear A20
  simp only [Option.some.injEq, Prod.mk.injEq] at H
  obtain ⟨rfl, rfl, rfl⟩ := H
  go_enter Try.func34, Try.ntmps34
  go_wp2_with (first | ((with_reducible refine gate_callee (f := 46) rfl ?_); refine goesL_ (some 6) rfl rfl Try.func46 (by kernel_rfl) rfl #[.slice A0 l0.length c0, .int .i64 16, .func (.func 47) #[] #[]] rfl (by (try simp only [List.map_toArray, List.map_cons, List.map_nil]); first | done | rfl | (simp only [List.length_drop, List.length_take]; rfl)) ?_; (with_reducible refine (api_Digest_46.calls k _ _ l0 16  t222 t225 t226 _ ?side1 ?side2 A2.out).mono ?_); (case side1 => repeat (first | exact HR0.out | (with_reducible refine Kd.C_alloc ?_ _) | (with_reducible refine Kd.C_drewN ?_ _) | (with_reducible refine Kd.C_drew ?_))); (case side2 => exact HC0.out); rintro e w3 ⟨v223, rfl, ho0, hb⟩; refine ⟨_, rfl, ?_⟩; have n0_ := Aside0.mk (Kd.R_lower ho0 (below_size (bk HB.out))); have n1_ := Aside0.mk (below_step (bk HB.out) hb); clear HB; have HO224 := n0_; have HB := n1_; clear n0_ n1_; (try clear hb); (try clear hb2); (try clear hk); (try clear hi); (try clear ho0)))
  go_ret3
  exact ⟨_, by first | rfl | (simp [errW_none, errW_some] <;> rfl) | (simp [*, errW_none, errW_some] <;> rfl), rk HO224.out, bk HB.out⟩

end Go.Proofs.Ytekbhcciabgnhaa.PP
