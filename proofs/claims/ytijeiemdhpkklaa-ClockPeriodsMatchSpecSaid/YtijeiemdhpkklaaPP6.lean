-- laid by a program of this session (wip/xprint), out of the translation
import Derived.Test.YtijeiemdhpkklaaPP0
import Derived.Test.YtijeiemdhpkklaaPP1
import Derived.Test.YtijeiemdhpkklaaPP2
import Derived.Test.YtijeiemdhpkklaaPP3
import Derived.Test.YtijeiemdhpkklaaPP4
import Derived.Test.YtijeiemdhpkklaaGShow
import Derived.Test.YtijeiemdhpkklaaGUntil
namespace Go.Proofs.Ytijeiemdhpkklaa.PP
open Go.RowKit Go.Proofs.YtijeiemdhpkklaaW.PrintWords Go.Proofs.YtijeiemdhpkklaaW.PrintLast Go.Proofs.YtijeiemdhpkklaaW.PrintMore
attribute [local go_sem] max2_int min2_int max_two min_two max_three min_three max_four min_four   -- for this text's walks alone
set_option linter.unusedVariables false
set_option linter.unusedSimpArgs false

attribute [local go_sem high] eqA23 eqA25
attribute [local go_sem] isSome_put
/-! ### weirgatelaw05_sanity: function 13 -/
mutual
def weirgatelaw05_sanity.j0 : Nat → Bool → Int → Int → Int → Int → Int → Int → Int → Int → Int → Int → Option (Bool)
  | 0, _, _, _, _, _, _, _, _, _, _, _ => none
  | k + 1, x61, x141000, x141001, x141002, x141003, x145000, x145001, x149000, x149001, x153000, x153001 => if x61 = true then (some false) else (if (x145000 == 5000 && (x145001 == 5011)) = true then (if (x149000 == 5009 && (x149001 == 5022)) = true then (weirgatelaw05_sanity.j1 k (x153000 == 6000 && (x153001 == 6234)) x141000 x141001 x141002 x141003) else (weirgatelaw05_sanity.j1 k false x141000 x141001 x141002 x141003)) else (weirgatelaw05_sanity.j1 k false x141000 x141001 x141002 x141003))
def weirgatelaw05_sanity.j1 : Nat → Bool → Int → Int → Int → Int → Option (Bool)
  | 0, _, _, _, _, _ => none
  | k + 1, x11, x141000, x141001, x141002, x141003 => (clock_Sync.f k x141000 x141001 x141002 x141003 1010 5020 5040).bind fun bt157 => ((clock_Sync.f k x141000 x141001 x141002 x141003 1010 5030 5040).bind fun bt163 => (if bt157.2.2.2.2 = 0 then (if bt163.2.2.2.2 = 9 then (weirgatelaw05_sanity.j2 k x11 (bt157.1 == 1010 && ((bt157.2.1 == 5020 && (bt157.2.2.1 == 5022)) && (bt157.2.2.2.1 == 100000))) x141000 x141001 x141002 x141003) else (weirgatelaw05_sanity.j2 k x11 false x141000 x141001 x141002 x141003)) else (weirgatelaw05_sanity.j2 k x11 false x141000 x141001 x141002 x141003)))
def weirgatelaw05_sanity.j2 : Nat → Bool → Bool → Int → Int → Int → Int → Option (Bool)
  | 0, _, _, _, _, _, _ => none
  | k + 1, x11, x16, x141000, x141001, x141002, x141003 => (clock_Show.f 7 (([(⟨100, 100000⟩ : S70), (⟨50, (-100000)⟩ : S70)] : List (S70))) 120).bind fun bt172 => (if x11 = true then (if x16 = true then ((clock_Until.f x141000 x141001 x141002 x141003 5023).bind fun t174 => (if t174 = 1010 then ((clock_Until.f x141000 x141001 x141002 x141003 5011).bind fun t175 => (if t175 = (-1) then ((clock_Worth.f x141000 x141001 x141002 x141003 1005 5023).bind fun t176 => (if t176 = 6 then (if bt172.1 = 135 then (some (bt172.2 == 0)) else (some false)) else (some false))) else (some false))) else (some false))) else (some false)) else (some false))
end
def weirgatelaw05_sanity.f (k : Nat)  : Option (Bool) := (clock_New.f 1000 5000 5010 100000).bind fun bt135 => ((clock_Read.f k bt135.1 bt135.2.1 bt135.2.2.1 bt135.2.2.2.1 1000).bind fun bt141 => ((clock_Read.f k bt135.1 bt135.2.1 bt135.2.2.1 bt135.2.2.2.1 1010).bind fun bt145 => ((clock_Read.f k bt135.1 bt135.2.1 bt135.2.2.1 bt135.2.2.2.1 2101).bind fun bt149 => ((clock_Read.f k bt135.1 bt135.2.1 bt135.2.2.1 bt135.2.2.2.1 999).bind fun bt153 => (if bt135.2.2.2.2 = 0 then (if bt141.2.2 = 0 then (if bt145.2.2 = 0 then (if bt149.2.2 = 0 then (weirgatelaw05_sanity.j0 k (bt153.2.2 != 9) bt135.1 bt135.2.1 bt135.2.2.1 bt135.2.2.2.1 bt141.1 bt141.2.1 bt145.1 bt145.2.1 bt149.1 bt149.2.1) else (weirgatelaw05_sanity.j0 k true bt135.1 bt135.2.1 bt135.2.2.1 bt135.2.2.2.1 bt141.1 bt141.2.1 bt145.1 bt145.2.1 bt149.1 bt149.2.1)) else (weirgatelaw05_sanity.j0 k true bt135.1 bt135.2.1 bt135.2.2.1 bt135.2.2.2.1 bt141.1 bt141.2.1 bt145.1 bt145.2.1 bt149.1 bt149.2.1)) else (weirgatelaw05_sanity.j0 k true bt135.1 bt135.2.1 bt135.2.2.1 bt135.2.2.2.1 bt141.1 bt141.2.1 bt145.1 bt145.2.1 bt149.1 bt149.2.1)) else (weirgatelaw05_sanity.j0 k true bt135.1 bt135.2.1 bt135.2.2.1 bt135.2.2.2.1 bt141.1 bt141.2.1 bt145.1 bt145.2.1 bt149.1 bt149.2.1))))))
theorem weirgatelaw05_sanity.mono_l : ∀ k, (∀ y0 y1 y2 y3 y4 y5 y6 y7 y8 y9 y10, LeO (weirgatelaw05_sanity.j0 k y0 y1 y2 y3 y4 y5 y6 y7 y8 y9 y10) (weirgatelaw05_sanity.j0 (k + 1) y0 y1 y2 y3 y4 y5 y6 y7 y8 y9 y10)) ∧ (∀ y0 y1 y2 y3 y4, LeO (weirgatelaw05_sanity.j1 k y0 y1 y2 y3 y4) (weirgatelaw05_sanity.j1 (k + 1) y0 y1 y2 y3 y4)) ∧ (∀ y0 y1 y2 y3 y4 y5, LeO (weirgatelaw05_sanity.j2 k y0 y1 y2 y3 y4 y5) (weirgatelaw05_sanity.j2 (k + 1) y0 y1 y2 y3 y4 y5))
  | 0 => ⟨fun _ _ _ _ _ _ _ _ _ _ _ r h => by simp [weirgatelaw05_sanity.j0] at h, fun _ _ _ _ _ r h => by simp [weirgatelaw05_sanity.j1] at h, fun _ _ _ _ _ _ r h => by simp [weirgatelaw05_sanity.j2] at h⟩
  | k + 1 => by
    obtain ⟨ih0, ih1, ih2⟩ := weirgatelaw05_sanity.mono_l k
    refine ⟨?_, ?_, ?_⟩
    · intro y0 y1 y2 y3 y4 y5 y6 y7 y8 y9 y10
      unfold weirgatelaw05_sanity.j0
      repeat' first
      | (with_reducible exact ih0 _ _ _ _ _ _ _ _ _ _ _)
      | (with_reducible exact ih1 _ _ _ _ _)
      | (with_reducible exact ih2 _ _ _ _ _ _)
      | (with_reducible exact clock_Read.mono _ _ _ _ _ _)
      | (with_reducible exact clock_Sync.mono _ _ _ _ _ _ _ _)
      | (with_reducible exact LeO.refl _)
      | (with_reducible exact LeO.none _)
      | (with_reducible refine LeO.ite ?_ ?_)
      | (with_reducible refine LeO.bind ?_ (fun _ => ?_))
      | exact ih0 _ _ _ _ _ _ _ _ _ _ _
      | exact ih1 _ _ _ _ _
      | exact ih2 _ _ _ _ _ _
      | exact clock_Read.mono _ _ _ _ _ _
      | exact clock_Sync.mono _ _ _ _ _ _ _ _
      | exact LeO.none _
      | refine LeO.ite ?_ ?_
      | refine LeO.bind ?_ (fun _ => ?_)
    · intro y0 y1 y2 y3 y4
      unfold weirgatelaw05_sanity.j1
      repeat' first
      | (with_reducible exact ih0 _ _ _ _ _ _ _ _ _ _ _)
      | (with_reducible exact ih1 _ _ _ _ _)
      | (with_reducible exact ih2 _ _ _ _ _ _)
      | (with_reducible exact clock_Read.mono _ _ _ _ _ _)
      | (with_reducible exact clock_Sync.mono _ _ _ _ _ _ _ _)
      | (with_reducible exact LeO.refl _)
      | (with_reducible exact LeO.none _)
      | (with_reducible refine LeO.ite ?_ ?_)
      | (with_reducible refine LeO.bind ?_ (fun _ => ?_))
      | exact ih0 _ _ _ _ _ _ _ _ _ _ _
      | exact ih1 _ _ _ _ _
      | exact ih2 _ _ _ _ _ _
      | exact clock_Read.mono _ _ _ _ _ _
      | exact clock_Sync.mono _ _ _ _ _ _ _ _
      | exact LeO.none _
      | refine LeO.ite ?_ ?_
      | refine LeO.bind ?_ (fun _ => ?_)
    · intro y0 y1 y2 y3 y4 y5
      unfold weirgatelaw05_sanity.j2
      repeat' first
      | (with_reducible exact ih0 _ _ _ _ _ _ _ _ _ _ _)
      | (with_reducible exact ih1 _ _ _ _ _)
      | (with_reducible exact ih2 _ _ _ _ _ _)
      | (with_reducible exact clock_Read.mono _ _ _ _ _ _)
      | (with_reducible exact clock_Sync.mono _ _ _ _ _ _ _ _)
      | (with_reducible exact LeO.refl _)
      | (with_reducible exact LeO.none _)
      | (with_reducible refine LeO.ite ?_ ?_)
      | (with_reducible refine LeO.bind ?_ (fun _ => ?_))
      | exact ih0 _ _ _ _ _ _ _ _ _ _ _
      | exact ih1 _ _ _ _ _
      | exact ih2 _ _ _ _ _ _
      | exact clock_Read.mono _ _ _ _ _ _
      | exact clock_Sync.mono _ _ _ _ _ _ _ _
      | exact LeO.none _
      | refine LeO.ite ?_ ?_
      | refine LeO.bind ?_ (fun _ => ?_)
theorem weirgatelaw05_sanity.mono : ∀ k, LeO (weirgatelaw05_sanity.f k ) (weirgatelaw05_sanity.f (k + 1) ) := by
  intro  k
  obtain ⟨ih0, ih1, ih2⟩ := weirgatelaw05_sanity.mono_l k
  unfold weirgatelaw05_sanity.f
  repeat' first
      | (with_reducible exact ih0 _ _ _ _ _ _ _ _ _ _ _)
      | (with_reducible exact ih1 _ _ _ _ _)
      | (with_reducible exact ih2 _ _ _ _ _ _)
      | (with_reducible exact clock_Read.mono _ _ _ _ _ _)
      | (with_reducible exact clock_Sync.mono _ _ _ _ _ _ _ _)
      | (with_reducible exact LeO.refl _)
      | (with_reducible exact LeO.none _)
      | (with_reducible refine LeO.ite ?_ ?_)
      | (with_reducible refine LeO.bind ?_ (fun _ => ?_))
      | exact ih0 _ _ _ _ _ _ _ _ _ _ _
      | exact ih1 _ _ _ _ _
      | exact ih2 _ _ _ _ _ _
      | exact clock_Read.mono _ _ _ _ _ _
      | exact clock_Sync.mono _ _ _ _ _ _ _ _
      | exact LeO.none _
      | refine LeO.ite ?_ ?_
      | refine LeO.bind ?_ (fun _ => ?_)
set_option maxHeartbeats 8000000 in
set_option maxRecDepth 100000 in
theorem weirgatelaw05_sanity.calls (k : Nat)  (r : Bool) (w : World) (h : weirgatelaw05_sanity.f k  = some r) :
    Calls Try.prog 13 #[] w fun e w' => e = .returned (.bool r) ∧ Below w.heap.size w w' := by
  have hu23 := Try.underlying23
  have hu25 := Try.underlying25
  have hu70 := Try.underlying70
  have HB := Aside0.mk (Below.refl w.heap.size w)
  have H : ((clock_New.f 1000 5000 5010 100000).bind fun bt135 => ((clock_Read.f k bt135.1 bt135.2.1 bt135.2.2.1 bt135.2.2.2.1 1000).bind fun bt141 => ((clock_Read.f k bt135.1 bt135.2.1 bt135.2.2.1 bt135.2.2.2.1 1010).bind fun bt145 => ((clock_Read.f k bt135.1 bt135.2.1 bt135.2.2.1 bt135.2.2.2.1 2101).bind fun bt149 => ((clock_Read.f k bt135.1 bt135.2.1 bt135.2.2.1 bt135.2.2.2.1 999).bind fun bt153 => (if bt135.2.2.2.2 = 0 then (if bt141.2.2 = 0 then (if bt145.2.2 = 0 then (if bt149.2.2 = 0 then (weirgatelaw05_sanity.j0 k (bt153.2.2 != 9) bt135.1 bt135.2.1 bt135.2.2.1 bt135.2.2.2.1 bt141.1 bt141.2.1 bt145.1 bt145.2.1 bt149.1 bt149.2.1) else (weirgatelaw05_sanity.j0 k true bt135.1 bt135.2.1 bt135.2.2.1 bt135.2.2.2.1 bt141.1 bt141.2.1 bt145.1 bt145.2.1 bt149.1 bt149.2.1)) else (weirgatelaw05_sanity.j0 k true bt135.1 bt135.2.1 bt135.2.2.1 bt135.2.2.2.1 bt141.1 bt141.2.1 bt145.1 bt145.2.1 bt149.1 bt149.2.1)) else (weirgatelaw05_sanity.j0 k true bt135.1 bt135.2.1 bt135.2.2.1 bt135.2.2.2.1 bt141.1 bt141.2.1 bt145.1 bt145.2.1 bt149.1 bt149.2.1)) else (weirgatelaw05_sanity.j0 k true bt135.1 bt135.2.1 bt135.2.2.1 bt135.2.2.2.1 bt141.1 bt141.2.1 bt145.1 bt145.2.1 bt149.1 bt149.2.1))))))) = some r := h
  clear h
  replace H := Option.bind_eq_some_iff.mp H
  obtain ⟨⟨t135, t136, t137, t138, t139⟩, A10, H⟩ := H
  replace H : ((clock_Read.f k t135 t136 t137 t138 1000).bind fun bt141 => ((clock_Read.f k t135 t136 t137 t138 1010).bind fun bt145 => ((clock_Read.f k t135 t136 t137 t138 2101).bind fun bt149 => ((clock_Read.f k t135 t136 t137 t138 999).bind fun bt153 => (if t139 = 0 then (if bt141.2.2 = 0 then (if bt145.2.2 = 0 then (if bt149.2.2 = 0 then (weirgatelaw05_sanity.j0 k (bt153.2.2 != 9) t135 t136 t137 t138 bt141.1 bt141.2.1 bt145.1 bt145.2.1 bt149.1 bt149.2.1) else (weirgatelaw05_sanity.j0 k true t135 t136 t137 t138 bt141.1 bt141.2.1 bt145.1 bt145.2.1 bt149.1 bt149.2.1)) else (weirgatelaw05_sanity.j0 k true t135 t136 t137 t138 bt141.1 bt141.2.1 bt145.1 bt145.2.1 bt149.1 bt149.2.1)) else (weirgatelaw05_sanity.j0 k true t135 t136 t137 t138 bt141.1 bt141.2.1 bt145.1 bt145.2.1 bt149.1 bt149.2.1)) else (weirgatelaw05_sanity.j0 k true t135 t136 t137 t138 bt141.1 bt141.2.1 bt145.1 bt145.2.1 bt149.1 bt149.2.1)))))) = some r := H
  have A1 := Aside0.mk A10
  clear A10
  replace H := Option.bind_eq_some_iff.mp H
  obtain ⟨⟨t141, t142, t143⟩, A20, H⟩ := H
  replace H : ((clock_Read.f k t135 t136 t137 t138 1010).bind fun bt145 => ((clock_Read.f k t135 t136 t137 t138 2101).bind fun bt149 => ((clock_Read.f k t135 t136 t137 t138 999).bind fun bt153 => (if t139 = 0 then (if t143 = 0 then (if bt145.2.2 = 0 then (if bt149.2.2 = 0 then (weirgatelaw05_sanity.j0 k (bt153.2.2 != 9) t135 t136 t137 t138 t141 t142 bt145.1 bt145.2.1 bt149.1 bt149.2.1) else (weirgatelaw05_sanity.j0 k true t135 t136 t137 t138 t141 t142 bt145.1 bt145.2.1 bt149.1 bt149.2.1)) else (weirgatelaw05_sanity.j0 k true t135 t136 t137 t138 t141 t142 bt145.1 bt145.2.1 bt149.1 bt149.2.1)) else (weirgatelaw05_sanity.j0 k true t135 t136 t137 t138 t141 t142 bt145.1 bt145.2.1 bt149.1 bt149.2.1)) else (weirgatelaw05_sanity.j0 k true t135 t136 t137 t138 t141 t142 bt145.1 bt145.2.1 bt149.1 bt149.2.1))))) = some r := H
  have A2 := Aside0.mk A20
  clear A20
  replace H := Option.bind_eq_some_iff.mp H
  obtain ⟨⟨t145, t146, t147⟩, A30, H⟩ := H
  replace H : ((clock_Read.f k t135 t136 t137 t138 2101).bind fun bt149 => ((clock_Read.f k t135 t136 t137 t138 999).bind fun bt153 => (if t139 = 0 then (if t143 = 0 then (if t147 = 0 then (if bt149.2.2 = 0 then (weirgatelaw05_sanity.j0 k (bt153.2.2 != 9) t135 t136 t137 t138 t141 t142 t145 t146 bt149.1 bt149.2.1) else (weirgatelaw05_sanity.j0 k true t135 t136 t137 t138 t141 t142 t145 t146 bt149.1 bt149.2.1)) else (weirgatelaw05_sanity.j0 k true t135 t136 t137 t138 t141 t142 t145 t146 bt149.1 bt149.2.1)) else (weirgatelaw05_sanity.j0 k true t135 t136 t137 t138 t141 t142 t145 t146 bt149.1 bt149.2.1)) else (weirgatelaw05_sanity.j0 k true t135 t136 t137 t138 t141 t142 t145 t146 bt149.1 bt149.2.1)))) = some r := H
  have A3 := Aside0.mk A30
  clear A30
  replace H := Option.bind_eq_some_iff.mp H
  obtain ⟨⟨t149, t150, t151⟩, A40, H⟩ := H
  replace H : ((clock_Read.f k t135 t136 t137 t138 999).bind fun bt153 => (if t139 = 0 then (if t143 = 0 then (if t147 = 0 then (if t151 = 0 then (weirgatelaw05_sanity.j0 k (bt153.2.2 != 9) t135 t136 t137 t138 t141 t142 t145 t146 t149 t150) else (weirgatelaw05_sanity.j0 k true t135 t136 t137 t138 t141 t142 t145 t146 t149 t150)) else (weirgatelaw05_sanity.j0 k true t135 t136 t137 t138 t141 t142 t145 t146 t149 t150)) else (weirgatelaw05_sanity.j0 k true t135 t136 t137 t138 t141 t142 t145 t146 t149 t150)) else (weirgatelaw05_sanity.j0 k true t135 t136 t137 t138 t141 t142 t145 t146 t149 t150))) = some r := H
  have A4 := Aside0.mk A40
  clear A40
  replace H := Option.bind_eq_some_iff.mp H
  obtain ⟨⟨t153, t154, t155⟩, A50, H⟩ := H
  replace H : (if t139 = 0 then (if t143 = 0 then (if t147 = 0 then (if t151 = 0 then (weirgatelaw05_sanity.j0 k (t155 != 9) t135 t136 t137 t138 t141 t142 t145 t146 t149 t150) else (weirgatelaw05_sanity.j0 k true t135 t136 t137 t138 t141 t142 t145 t146 t149 t150)) else (weirgatelaw05_sanity.j0 k true t135 t136 t137 t138 t141 t142 t145 t146 t149 t150)) else (weirgatelaw05_sanity.j0 k true t135 t136 t137 t138 t141 t142 t145 t146 t149 t150)) else (weirgatelaw05_sanity.j0 k true t135 t136 t137 t138 t141 t142 t145 t146 t149 t150)) = some r := H
  have A5 := Aside0.mk A50
  clear A50
  have HC6 := Aside0.mk H
  clear H
  go_enter Try.func13, Try.ntmps13
  go_upto_region 6 with (first | ((with_reducible refine gate_callee (f := 10) rfl ?_); refine goesL_ (some 21) rfl rfl Try.func10 (by kernel_rfl) rfl #[.int .i64 1000, .agg #[.int .i64 5000, .int .i64 5010], .int .i64 100000] rfl (by (try simp only [List.map_toArray, List.map_cons, List.map_nil]); first | done | rfl | (simp only [List.length_drop, List.length_take]; rfl)) ?_; (with_reducible refine (clock_New.calls 1000 5000 5010 100000 t135 t136 t137 t138 t139 _ A1.out).mono ?_); rintro e w7 ⟨rfl, hb⟩; refine ⟨_, rfl, ?_⟩; have n0_ := Aside0.mk (below_step (bk HB.out) hb); clear HB; have HB := n0_; clear n0_; (try clear hb); (try clear hb2); (try clear hk); (try clear hi)) | ((with_reducible refine gate_dst (N := 1) rfl ?_); refine box_event ?hg (N := 1) ?hd (cs := #[.int .i64 0, .int .i64 0, .int .i64 0, .int .i64 0]) (t := 25) ?hr ?_; (case hd => rfl); (case hg => rfl); (case hr => first | (go_simp; done) | (go_simp; rfl)); intro gb140 hg w8 hbox hb; have n0_ := Aside0.mk (below_step (bk HB.out) hb); have n1_ := Aside0.mk (hbox); have n2_ := Aside0.mk ((by rw [hg]; exact (below_size (bk HB.out)) : w.heap.size ≤ gb140)); have n3_ := Aside0.mk ((by rw [hg]; exact (below_size (bk HB.out)) : w.heap.size ≤ gb140)); clear HB; have HB := n0_; have BK140 := n1_; have GW140 := n2_; have GE140 := n3_; clear n0_ n1_ n2_ n3_; clear hb hbox hg; have hcz9_0 : w8.cell? ⟨gb140, 0, none⟩ = some (.int .i64 0) := (blk_cell BK140.out 0).trans rfl; have hcz9_1 : w8.cell? ⟨gb140, 1, none⟩ = some (.int .i64 0) := (blk_cell BK140.out 1).trans rfl; have hcz9_2 : w8.cell? ⟨gb140, 2, none⟩ = some (.int .i64 0) := (blk_cell BK140.out 2).trans rfl; have hcz9_3 : w8.cell? ⟨gb140, 3, none⟩ = some (.int .i64 0) := (blk_cell BK140.out 3).trans rfl; have hfz9_0 := blk_frozen BK140.out 0; have hfz9_1 := blk_frozen BK140.out 1; have hfz9_2 := blk_frozen BK140.out 2; have hfz9_3 := blk_frozen BK140.out 3) | ((with_reducible refine gate_callee (f := 14) rfl ?_); refine goesL_ (some 26) rfl rfl Try.func14 (by kernel_rfl) rfl #[.agg #[.int .i64 t135, .int .i64 t136, .int .i64 t137, .int .i64 t138], .int .i64 1000] rfl (by (try simp only [List.map_toArray, List.map_cons, List.map_nil]); first | done | rfl | (simp only [List.length_drop, List.length_take]; rfl)) ?_; (with_reducible refine (clock_Read.calls k t135 t136 t137 t138 1000 t141 t142 t143 _ A2.out).mono ?_); rintro e w10 ⟨rfl, hb⟩; refine ⟨_, rfl, ?_⟩; have n0_ := Aside0.mk (blk_below (g := gb140) (o := .cells #[.int .i64 t135, .int .i64 t136, .int .i64 t137, .int .i64 t138] 25 (0, 0)) (by refine pk ?_; refine blk_put (cs := #[.int .i64 t135, .int .i64 t136, .int .i64 t137, .int .i64 0]) ?_ 3 _ rfl; refine pk ?_; refine blk_put (cs := #[.int .i64 t135, .int .i64 t136, .int .i64 0, .int .i64 0]) ?_ 2 _ rfl; refine pk ?_; refine blk_put (cs := #[.int .i64 t135, .int .i64 0, .int .i64 0, .int .i64 0]) ?_ 1 _ rfl; refine pk ?_; refine blk_put (cs := #[.int .i64 0, .int .i64 0, .int .i64 0, .int .i64 0]) ?_ 0 _ rfl; refine pk ?_; exact BK140.out) hb); have n1_ := Aside0.mk (below_step (bk HB.out) hb); clear BK140 HB; have BK140 := n0_; have HB := n1_; clear n0_ n1_; (try clear hb); (try clear hb2); (try clear hk); (try clear hi)) | ((with_reducible refine gate_dst (N := 3) rfl ?_); refine box_event ?hg (N := 3) ?hd (cs := #[.int .i64 0, .int .i64 0]) (t := 23) ?hr ?_; (case hd => rfl); (case hg => rfl); (case hr => first | (go_simp; done) | (go_simp; rfl)); intro gb144 hg w11 hbox hb; have n0_ := Aside0.mk (blk_below (pk BK140.out) hb); have n1_ := Aside0.mk (below_step (bk HB.out) hb); have n2_ := Aside0.mk (hbox); have n3_ := Aside0.mk ((by rw [hg]; exact (below_size (bk HB.out)) : w.heap.size ≤ gb144)); have n4_ := Aside0.mk ((by rw [hg]; exact (below_size (bk HB.out)) : w.heap.size ≤ gb144)); have n5_ := Aside0.mk ((by rw [hg]; exact Nat.ne_of_lt (blk_lt (g := gb140) (o := .cells #[.int .i64 t135, .int .i64 t136, .int .i64 t137, .int .i64 t138] 25 (0, 0)) (pk BK140.out)) : gb140 ≠ gb144)); have n6_ := Aside0.mk ((by rw [hg]; exact Nat.ne_of_gt (blk_lt (g := gb140) (o := .cells #[.int .i64 t135, .int .i64 t136, .int .i64 t137, .int .i64 t138] 25 (0, 0)) (pk BK140.out)) : gb144 ≠ gb140)); clear BK140 HB; have BK140 := n0_; have HB := n1_; have BK144 := n2_; have GW144 := n3_; have GE144 := n4_; have NB140_144 := n5_; have NB144_140 := n6_; clear n0_ n1_ n2_ n3_ n4_ n5_ n6_; clear hb hbox hg; have hnb12 := NB144_140.out; have hnc12 := NB140_144.out; have hcz13_0 : w11.cell? ⟨gb144, 0, none⟩ = some (.int .i64 0) := (blk_cell BK144.out 0).trans rfl; have hcz13_1 : w11.cell? ⟨gb144, 1, none⟩ = some (.int .i64 0) := (blk_cell BK144.out 1).trans rfl; have hfz13_0 := blk_frozen BK144.out 0; have hfz13_1 := blk_frozen BK144.out 1; have hcz14_0 : w11.cell? ⟨gb140, 0, none⟩ = some (.int .i64 t135) := (blk_cell BK140.out 0).trans rfl; have hcz14_1 : w11.cell? ⟨gb140, 1, none⟩ = some (.int .i64 t136) := (blk_cell BK140.out 1).trans rfl; have hcz14_2 : w11.cell? ⟨gb140, 2, none⟩ = some (.int .i64 t137) := (blk_cell BK140.out 2).trans rfl; have hcz14_3 : w11.cell? ⟨gb140, 3, none⟩ = some (.int .i64 t138) := (blk_cell BK140.out 3).trans rfl; have hfz14_0 := blk_frozen BK140.out 0; have hfz14_1 := blk_frozen BK140.out 1; have hfz14_2 := blk_frozen BK140.out 2; have hfz14_3 := blk_frozen BK140.out 3) | ((with_reducible refine gate_callee (f := 14) rfl ?_); refine goesL_ (some 31) rfl rfl Try.func14 (by kernel_rfl) rfl #[.agg #[.int .i64 t135, .int .i64 t136, .int .i64 t137, .int .i64 t138], .int .i64 1010] rfl (by (try simp only [List.map_toArray, List.map_cons, List.map_nil]); first | done | rfl | (simp only [List.length_drop, List.length_take]; rfl)) ?_; (with_reducible refine (clock_Read.calls k t135 t136 t137 t138 1010 t145 t146 t147 _ A3.out).mono ?_); rintro e w15 ⟨rfl, hb⟩; refine ⟨_, rfl, ?_⟩; have n0_ := Aside0.mk (blk_below (g := gb140) (o := .cells #[.int .i64 t135, .int .i64 t136, .int .i64 t137, .int .i64 t138] 25 (0, 0)) (by refine pk ?_; refine blk_far ?_ NB140_144.out _; refine pk ?_; refine blk_far ?_ NB140_144.out _; refine pk ?_; exact BK140.out) hb); have n1_ := Aside0.mk (blk_below (g := gb144) (o := .cells #[.int .i64 t141, .int .i64 t142] 23 (0, 0)) (by refine pk ?_; refine blk_put (cs := #[.int .i64 t141, .int .i64 0]) ?_ 1 _ rfl; refine pk ?_; refine blk_put (cs := #[.int .i64 0, .int .i64 0]) ?_ 0 _ rfl; refine pk ?_; exact BK144.out) hb); have n2_ := Aside0.mk (below_step (bk HB.out) hb); clear BK140 BK144 HB; have BK140 := n0_; have BK144 := n1_; have HB := n2_; clear n0_ n1_ n2_; (try clear hb); (try clear hb2); (try clear hk); (try clear hi)) | ((with_reducible refine gate_dst (N := 5) rfl ?_); refine box_event ?hg (N := 5) ?hd (cs := #[.int .i64 0, .int .i64 0]) (t := 23) ?hr ?_; (case hd => rfl); (case hg => rfl); (case hr => first | (go_simp; done) | (go_simp; rfl)); intro gb148 hg w16 hbox hb; have n0_ := Aside0.mk (blk_below (pk BK140.out) hb); have n1_ := Aside0.mk (blk_below (pk BK144.out) hb); have n2_ := Aside0.mk (below_step (bk HB.out) hb); have n3_ := Aside0.mk (hbox); have n4_ := Aside0.mk ((by rw [hg]; exact (below_size (bk HB.out)) : w.heap.size ≤ gb148)); have n5_ := Aside0.mk ((by rw [hg]; exact (below_size (bk HB.out)) : w.heap.size ≤ gb148)); have n6_ := Aside0.mk ((by rw [hg]; exact Nat.ne_of_lt (blk_lt (g := gb140) (o := .cells #[.int .i64 t135, .int .i64 t136, .int .i64 t137, .int .i64 t138] 25 (0, 0)) (pk BK140.out)) : gb140 ≠ gb148)); have n7_ := Aside0.mk ((by rw [hg]; exact Nat.ne_of_gt (blk_lt (g := gb140) (o := .cells #[.int .i64 t135, .int .i64 t136, .int .i64 t137, .int .i64 t138] 25 (0, 0)) (pk BK140.out)) : gb148 ≠ gb140)); have n8_ := Aside0.mk ((by rw [hg]; exact Nat.ne_of_lt (blk_lt (g := gb144) (o := .cells #[.int .i64 t141, .int .i64 t142] 23 (0, 0)) (pk BK144.out)) : gb144 ≠ gb148)); have n9_ := Aside0.mk ((by rw [hg]; exact Nat.ne_of_gt (blk_lt (g := gb144) (o := .cells #[.int .i64 t141, .int .i64 t142] 23 (0, 0)) (pk BK144.out)) : gb148 ≠ gb144)); clear BK140 BK144 HB; have BK140 := n0_; have BK144 := n1_; have HB := n2_; have BK148 := n3_; have GW148 := n4_; have GE148 := n5_; have NB140_148 := n6_; have NB148_140 := n7_; have NB144_148 := n8_; have NB148_144 := n9_; clear n0_ n1_ n2_ n3_ n4_ n5_ n6_ n7_ n8_ n9_; clear hb hbox hg; have hnb17 := NB148_140.out; have hnc17 := NB140_148.out; have hnb18 := NB148_144.out; have hnc18 := NB144_148.out; have hcz19_0 : w16.cell? ⟨gb148, 0, none⟩ = some (.int .i64 0) := (blk_cell BK148.out 0).trans rfl; have hcz19_1 : w16.cell? ⟨gb148, 1, none⟩ = some (.int .i64 0) := (blk_cell BK148.out 1).trans rfl; have hfz19_0 := blk_frozen BK148.out 0; have hfz19_1 := blk_frozen BK148.out 1; have hcz20_0 : w16.cell? ⟨gb140, 0, none⟩ = some (.int .i64 t135) := (blk_cell BK140.out 0).trans rfl; have hcz20_1 : w16.cell? ⟨gb140, 1, none⟩ = some (.int .i64 t136) := (blk_cell BK140.out 1).trans rfl; have hcz20_2 : w16.cell? ⟨gb140, 2, none⟩ = some (.int .i64 t137) := (blk_cell BK140.out 2).trans rfl; have hcz20_3 : w16.cell? ⟨gb140, 3, none⟩ = some (.int .i64 t138) := (blk_cell BK140.out 3).trans rfl; have hfz20_0 := blk_frozen BK140.out 0; have hfz20_1 := blk_frozen BK140.out 1; have hfz20_2 := blk_frozen BK140.out 2; have hfz20_3 := blk_frozen BK140.out 3) | ((with_reducible refine gate_callee (f := 14) rfl ?_); refine goesL_ (some 36) rfl rfl Try.func14 (by kernel_rfl) rfl #[.agg #[.int .i64 t135, .int .i64 t136, .int .i64 t137, .int .i64 t138], .int .i64 2101] rfl (by (try simp only [List.map_toArray, List.map_cons, List.map_nil]); first | done | rfl | (simp only [List.length_drop, List.length_take]; rfl)) ?_; (with_reducible refine (clock_Read.calls k t135 t136 t137 t138 2101 t149 t150 t151 _ A4.out).mono ?_); rintro e w21 ⟨rfl, hb⟩; refine ⟨_, rfl, ?_⟩; have n0_ := Aside0.mk (blk_below (g := gb140) (o := .cells #[.int .i64 t135, .int .i64 t136, .int .i64 t137, .int .i64 t138] 25 (0, 0)) (by refine pk ?_; refine blk_far ?_ NB140_148.out _; refine pk ?_; refine blk_far ?_ NB140_148.out _; refine pk ?_; exact BK140.out) hb); have n1_ := Aside0.mk (blk_below (g := gb144) (o := .cells #[.int .i64 t141, .int .i64 t142] 23 (0, 0)) (by refine pk ?_; refine blk_far ?_ NB144_148.out _; refine pk ?_; refine blk_far ?_ NB144_148.out _; refine pk ?_; exact BK144.out) hb); have n2_ := Aside0.mk (blk_below (g := gb148) (o := .cells #[.int .i64 t145, .int .i64 t146] 23 (0, 0)) (by refine pk ?_; refine blk_put (cs := #[.int .i64 t145, .int .i64 0]) ?_ 1 _ rfl; refine pk ?_; refine blk_put (cs := #[.int .i64 0, .int .i64 0]) ?_ 0 _ rfl; refine pk ?_; exact BK148.out) hb); have n3_ := Aside0.mk (below_step (bk HB.out) hb); clear BK140 BK144; clear BK148 HB; have BK140 := n0_; have BK144 := n1_; have BK148 := n2_; have HB := n3_; clear n0_ n1_ n2_ n3_; (try clear hb); (try clear hb2); (try clear hk); (try clear hi)) | ((with_reducible refine gate_dst (N := 7) rfl ?_); refine box_event ?hg (N := 7) ?hd (cs := #[.int .i64 0, .int .i64 0]) (t := 23) ?hr ?_; (case hd => rfl); (case hg => rfl); (case hr => first | (go_simp; done) | (go_simp; rfl)); intro gb152 hg w22 hbox hb; have n0_ := Aside0.mk (blk_below (pk BK140.out) hb); have n1_ := Aside0.mk (blk_below (pk BK144.out) hb); have n2_ := Aside0.mk (blk_below (pk BK148.out) hb); have n3_ := Aside0.mk (below_step (bk HB.out) hb); have n4_ := Aside0.mk (hbox); have n5_ := Aside0.mk ((by rw [hg]; exact (below_size (bk HB.out)) : w.heap.size ≤ gb152)); have n6_ := Aside0.mk ((by rw [hg]; exact (below_size (bk HB.out)) : w.heap.size ≤ gb152)); have n7_ := Aside0.mk ((by rw [hg]; exact Nat.ne_of_lt (blk_lt (g := gb140) (o := .cells #[.int .i64 t135, .int .i64 t136, .int .i64 t137, .int .i64 t138] 25 (0, 0)) (pk BK140.out)) : gb140 ≠ gb152)); have n8_ := Aside0.mk ((by rw [hg]; exact Nat.ne_of_gt (blk_lt (g := gb140) (o := .cells #[.int .i64 t135, .int .i64 t136, .int .i64 t137, .int .i64 t138] 25 (0, 0)) (pk BK140.out)) : gb152 ≠ gb140)); have n9_ := Aside0.mk ((by rw [hg]; exact Nat.ne_of_lt (blk_lt (g := gb144) (o := .cells #[.int .i64 t141, .int .i64 t142] 23 (0, 0)) (pk BK144.out)) : gb144 ≠ gb152)); have n10_ := Aside0.mk ((by rw [hg]; exact Nat.ne_of_gt (blk_lt (g := gb144) (o := .cells #[.int .i64 t141, .int .i64 t142] 23 (0, 0)) (pk BK144.out)) : gb152 ≠ gb144)); have n11_ := Aside0.mk ((by rw [hg]; exact Nat.ne_of_lt (blk_lt (g := gb148) (o := .cells #[.int .i64 t145, .int .i64 t146] 23 (0, 0)) (pk BK148.out)) : gb148 ≠ gb152)); have n12_ := Aside0.mk ((by rw [hg]; exact Nat.ne_of_gt (blk_lt (g := gb148) (o := .cells #[.int .i64 t145, .int .i64 t146] 23 (0, 0)) (pk BK148.out)) : gb152 ≠ gb148)); clear BK140 BK144; clear BK148 HB; have BK140 := n0_; have BK144 := n1_; have BK148 := n2_; have HB := n3_; have BK152 := n4_; have GW152 := n5_; have GE152 := n6_; have NB140_152 := n7_; have NB152_140 := n8_; have NB144_152 := n9_; have NB152_144 := n10_; have NB148_152 := n11_; have NB152_148 := n12_; clear n0_ n1_ n2_ n3_ n4_ n5_ n6_ n7_ n8_ n9_ n10_ n11_ n12_; clear hb hbox hg; have hnb23 := NB152_140.out; have hnc23 := NB140_152.out; have hnb24 := NB152_144.out; have hnc24 := NB144_152.out; have hnb25 := NB152_148.out; have hnc25 := NB148_152.out; have hcz26_0 : w22.cell? ⟨gb152, 0, none⟩ = some (.int .i64 0) := (blk_cell BK152.out 0).trans rfl; have hcz26_1 : w22.cell? ⟨gb152, 1, none⟩ = some (.int .i64 0) := (blk_cell BK152.out 1).trans rfl; have hfz26_0 := blk_frozen BK152.out 0; have hfz26_1 := blk_frozen BK152.out 1; have hcz27_0 : w22.cell? ⟨gb140, 0, none⟩ = some (.int .i64 t135) := (blk_cell BK140.out 0).trans rfl; have hcz27_1 : w22.cell? ⟨gb140, 1, none⟩ = some (.int .i64 t136) := (blk_cell BK140.out 1).trans rfl; have hcz27_2 : w22.cell? ⟨gb140, 2, none⟩ = some (.int .i64 t137) := (blk_cell BK140.out 2).trans rfl; have hcz27_3 : w22.cell? ⟨gb140, 3, none⟩ = some (.int .i64 t138) := (blk_cell BK140.out 3).trans rfl; have hfz27_0 := blk_frozen BK140.out 0; have hfz27_1 := blk_frozen BK140.out 1; have hfz27_2 := blk_frozen BK140.out 2; have hfz27_3 := blk_frozen BK140.out 3) | ((with_reducible refine gate_callee (f := 14) rfl ?_); refine goesL_ (some 41) rfl rfl Try.func14 (by kernel_rfl) rfl #[.agg #[.int .i64 t135, .int .i64 t136, .int .i64 t137, .int .i64 t138], .int .i64 999] rfl (by (try simp only [List.map_toArray, List.map_cons, List.map_nil]); first | done | rfl | (simp only [List.length_drop, List.length_take]; rfl)) ?_; (with_reducible refine (clock_Read.calls k t135 t136 t137 t138 999 t153 t154 t155 _ A5.out).mono ?_); rintro e w28 ⟨rfl, hb⟩; refine ⟨_, rfl, ?_⟩; have n0_ := Aside0.mk (blk_below (g := gb140) (o := .cells #[.int .i64 t135, .int .i64 t136, .int .i64 t137, .int .i64 t138] 25 (0, 0)) (by refine pk ?_; refine blk_far ?_ NB140_152.out _; refine pk ?_; refine blk_far ?_ NB140_152.out _; refine pk ?_; exact BK140.out) hb); have n1_ := Aside0.mk (blk_below (g := gb144) (o := .cells #[.int .i64 t141, .int .i64 t142] 23 (0, 0)) (by refine pk ?_; refine blk_far ?_ NB144_152.out _; refine pk ?_; refine blk_far ?_ NB144_152.out _; refine pk ?_; exact BK144.out) hb); have n2_ := Aside0.mk (blk_below (g := gb148) (o := .cells #[.int .i64 t145, .int .i64 t146] 23 (0, 0)) (by refine pk ?_; refine blk_far ?_ NB148_152.out _; refine pk ?_; refine blk_far ?_ NB148_152.out _; refine pk ?_; exact BK148.out) hb); have n3_ := Aside0.mk (blk_below (g := gb152) (o := .cells #[.int .i64 t149, .int .i64 t150] 23 (0, 0)) (by refine pk ?_; refine blk_put (cs := #[.int .i64 t149, .int .i64 0]) ?_ 1 _ rfl; refine pk ?_; refine blk_put (cs := #[.int .i64 0, .int .i64 0]) ?_ 0 _ rfl; refine pk ?_; exact BK152.out) hb); have n4_ := Aside0.mk (below_step (bk HB.out) hb); clear BK140 BK144; clear BK148 BK152 HB; have BK140 := n0_; have BK144 := n1_; have BK148 := n2_; have BK152 := n3_; have HB := n4_; clear n0_ n1_ n2_ n3_ n4_; (try clear hb); (try clear hb2); (try clear hk); (try clear hi)) | ((with_reducible refine gate_dst (N := 9) rfl ?_); refine box_event ?hg (N := 9) ?hd (cs := #[.int .i64 0, .int .i64 0]) (t := 23) ?hr ?_; (case hd => rfl); (case hg => rfl); (case hr => first | (go_simp; done) | (go_simp; rfl)); intro gb156 hg w29 hbox hb; have n0_ := Aside0.mk (blk_below (pk BK140.out) hb); have n1_ := Aside0.mk (blk_below (pk BK144.out) hb); have n2_ := Aside0.mk (blk_below (pk BK148.out) hb); have n3_ := Aside0.mk (blk_below (pk BK152.out) hb); have n4_ := Aside0.mk (below_step (bk HB.out) hb); have n5_ := Aside0.mk (hbox); have n6_ := Aside0.mk ((by rw [hg]; exact (below_size (bk HB.out)) : w.heap.size ≤ gb156)); have n7_ := Aside0.mk ((by rw [hg]; exact (below_size (bk HB.out)) : w.heap.size ≤ gb156)); have n8_ := Aside0.mk ((by rw [hg]; exact Nat.ne_of_lt (blk_lt (g := gb140) (o := .cells #[.int .i64 t135, .int .i64 t136, .int .i64 t137, .int .i64 t138] 25 (0, 0)) (pk BK140.out)) : gb140 ≠ gb156)); have n9_ := Aside0.mk ((by rw [hg]; exact Nat.ne_of_gt (blk_lt (g := gb140) (o := .cells #[.int .i64 t135, .int .i64 t136, .int .i64 t137, .int .i64 t138] 25 (0, 0)) (pk BK140.out)) : gb156 ≠ gb140)); have n10_ := Aside0.mk ((by rw [hg]; exact Nat.ne_of_lt (blk_lt (g := gb144) (o := .cells #[.int .i64 t141, .int .i64 t142] 23 (0, 0)) (pk BK144.out)) : gb144 ≠ gb156)); have n11_ := Aside0.mk ((by rw [hg]; exact Nat.ne_of_gt (blk_lt (g := gb144) (o := .cells #[.int .i64 t141, .int .i64 t142] 23 (0, 0)) (pk BK144.out)) : gb156 ≠ gb144)); have n12_ := Aside0.mk ((by rw [hg]; exact Nat.ne_of_lt (blk_lt (g := gb148) (o := .cells #[.int .i64 t145, .int .i64 t146] 23 (0, 0)) (pk BK148.out)) : gb148 ≠ gb156)); have n13_ := Aside0.mk ((by rw [hg]; exact Nat.ne_of_gt (blk_lt (g := gb148) (o := .cells #[.int .i64 t145, .int .i64 t146] 23 (0, 0)) (pk BK148.out)) : gb156 ≠ gb148)); have n14_ := Aside0.mk ((by rw [hg]; exact Nat.ne_of_lt (blk_lt (g := gb152) (o := .cells #[.int .i64 t149, .int .i64 t150] 23 (0, 0)) (pk BK152.out)) : gb152 ≠ gb156)); have n15_ := Aside0.mk ((by rw [hg]; exact Nat.ne_of_gt (blk_lt (g := gb152) (o := .cells #[.int .i64 t149, .int .i64 t150] 23 (0, 0)) (pk BK152.out)) : gb156 ≠ gb152)); clear BK140 BK144; clear BK148 BK152 HB; have BK140 := n0_; have BK144 := n1_; have BK148 := n2_; have BK152 := n3_; have HB := n4_; have BK156 := n5_; have GW156 := n6_; have GE156 := n7_; have NB140_156 := n8_; have NB156_140 := n9_; have NB144_156 := n10_; have NB156_144 := n11_; have NB148_156 := n12_; have NB156_148 := n13_; have NB152_156 := n14_; have NB156_152 := n15_; clear n0_ n1_ n2_ n3_ n4_ n5_ n6_ n7_ n8_ n9_ n10_ n11_ n12_ n13_ n14_ n15_; clear hb hbox hg; have hnb30 := NB156_140.out; have hnc30 := NB140_156.out; have hnb31 := NB156_144.out; have hnc31 := NB144_156.out; have hnb32 := NB156_148.out; have hnc32 := NB148_156.out; have hnb33 := NB156_152.out; have hnc33 := NB152_156.out; have hcz34_0 : w29.cell? ⟨gb156, 0, none⟩ = some (.int .i64 0) := (blk_cell BK156.out 0).trans rfl; have hcz34_1 : w29.cell? ⟨gb156, 1, none⟩ = some (.int .i64 0) := (blk_cell BK156.out 1).trans rfl; have hfz34_0 := blk_frozen BK156.out 0; have hfz34_1 := blk_frozen BK156.out 1))
  (try simp only [Act.put, List.setIfInBounds_toArray, List.set_cons_zero, List.set_cons_succ])
  go_cut [61] (fun v61 wc => ∃ (kq : Nat) (x61_5 : Bool), v61 = .bool x61_5 ∧ Aside0 (weirgatelaw05_sanity.j0 kq x61_5 t135 t136 t137 t138 t141 t142 t145 t146 t149 t150 = some r) ∧ Aside0 (kq ≤ k) ∧ Aside0 (wc.heap[gb140]? = some (.cells #[.int .i64 t135, .int .i64 t136, .int .i64 t137, .int .i64 t138] 25 (0, 0))) ∧ Aside0 (wc.heap[gb144]? = some (.cells #[.int .i64 t141, .int .i64 t142] 23 (0, 0))) ∧ Aside0 (wc.heap[gb148]? = some (.cells #[.int .i64 t145, .int .i64 t146] 23 (0, 0))) ∧ Aside0 (wc.heap[gb152]? = some (.cells #[.int .i64 t149, .int .i64 t150] 23 (0, 0))) ∧ Aside0 (wc.heap[gb156]? = some (.cells #[.int .i64 t153, .int .i64 t154] 23 (0, 0))) ∧ Aside0 (Below w.heap.size w wc))
  case first =>
    have H := HC6.out
    clear HC6
    by_cases c35 : t139 = 0
    · rw [if_pos c35] at H
      have c35b0 : (t139 == 0) = true := beq_iff_eq.mpr c35
      have c35b1 : (t139 != 0) = false := bne_eq_false_iff_eq.mpr c35
      clear c35
      (first | rw [c35b0] | (simp only [i64_w, i32_w]; rw [c35b0]) | skip)
      by_cases c36 : t143 = 0
      · rw [if_pos c36] at H
        have c36b0 : (t143 == 0) = true := beq_iff_eq.mpr c36
        have c36b1 : (t143 != 0) = false := bne_eq_false_iff_eq.mpr c36
        clear c36
        by_cases c37 : t147 = 0
        · rw [if_pos c37] at H
          have c37b0 : (t147 == 0) = true := beq_iff_eq.mpr c37
          have c37b1 : (t147 != 0) = false := bne_eq_false_iff_eq.mpr c37
          clear c37
          by_cases c38 : t151 = 0
          · rw [if_pos c38] at H
            have c38b0 : (t151 == 0) = true := beq_iff_eq.mpr c38
            have c38b1 : (t151 != 0) = false := bne_eq_false_iff_eq.mpr c38
            clear c38
            have H' := Aside0.mk H
            clear H
            go_wp2
            go_meet
            case rel => exact ⟨_, ((t155 != 9)), (by first | rfl | (simp; done) | (simp [*]; done) | (simp only [show ∀ p : Prop, Aside0 p = p from fun p => propext ⟨Aside0.out, Aside0.mk⟩] at *; simp_all; done)), H', ⟨by first | omega | exact Nat.le_refl _⟩, ⟨by refine pk ?_; refine blk_far ?_ NB140_156.out _; refine pk ?_; refine blk_far ?_ NB140_156.out _; refine pk ?_; exact BK140.out⟩, ⟨by refine pk ?_; refine blk_far ?_ NB144_156.out _; refine pk ?_; refine blk_far ?_ NB144_156.out _; refine pk ?_; exact BK144.out⟩, ⟨by refine pk ?_; refine blk_far ?_ NB148_156.out _; refine pk ?_; refine blk_far ?_ NB148_156.out _; refine pk ?_; exact BK148.out⟩, ⟨by refine pk ?_; refine blk_far ?_ NB152_156.out _; refine pk ?_; refine blk_far ?_ NB152_156.out _; refine pk ?_; exact BK152.out⟩, ⟨by refine pk ?_; refine blk_put (cs := #[.int .i64 t153, .int .i64 0]) ?_ 1 _ rfl; refine pk ?_; refine blk_put (cs := #[.int .i64 0, .int .i64 0]) ?_ 0 _ rfl; refine pk ?_; exact BK156.out⟩, ⟨bk HB.out⟩⟩
          · rw [if_neg c38] at H
            have c38b0 : (t151 == 0) = false := beq_eq_false_iff_ne.mpr c38
            have c38b1 : (t151 != 0) = true := bne_iff_ne.mpr c38
            have H' := Aside0.mk H
            clear H
            go_wp2
            go_meet
            case rel => exact ⟨_, (true), (by first | rfl | (simp; done) | (simp [*]; done) | (simp only [show ∀ p : Prop, Aside0 p = p from fun p => propext ⟨Aside0.out, Aside0.mk⟩] at *; simp_all; done)), H', ⟨by first | omega | exact Nat.le_refl _⟩, ⟨by refine pk ?_; refine blk_far ?_ NB140_156.out _; refine pk ?_; refine blk_far ?_ NB140_156.out _; refine pk ?_; exact BK140.out⟩, ⟨by refine pk ?_; refine blk_far ?_ NB144_156.out _; refine pk ?_; refine blk_far ?_ NB144_156.out _; refine pk ?_; exact BK144.out⟩, ⟨by refine pk ?_; refine blk_far ?_ NB148_156.out _; refine pk ?_; refine blk_far ?_ NB148_156.out _; refine pk ?_; exact BK148.out⟩, ⟨by refine pk ?_; refine blk_far ?_ NB152_156.out _; refine pk ?_; refine blk_far ?_ NB152_156.out _; refine pk ?_; exact BK152.out⟩, ⟨by refine pk ?_; refine blk_put (cs := #[.int .i64 t153, .int .i64 0]) ?_ 1 _ rfl; refine pk ?_; refine blk_put (cs := #[.int .i64 0, .int .i64 0]) ?_ 0 _ rfl; refine pk ?_; exact BK156.out⟩, ⟨bk HB.out⟩⟩
        · rw [if_neg c37] at H
          have c37b0 : (t147 == 0) = false := beq_eq_false_iff_ne.mpr c37
          have c37b1 : (t147 != 0) = true := bne_iff_ne.mpr c37
          have H' := Aside0.mk H
          clear H
          go_wp2
          go_meet
          case rel => exact ⟨_, (true), (by first | rfl | (simp; done) | (simp [*]; done) | (simp only [show ∀ p : Prop, Aside0 p = p from fun p => propext ⟨Aside0.out, Aside0.mk⟩] at *; simp_all; done)), H', ⟨by first | omega | exact Nat.le_refl _⟩, ⟨by refine pk ?_; refine blk_far ?_ NB140_156.out _; refine pk ?_; refine blk_far ?_ NB140_156.out _; refine pk ?_; exact BK140.out⟩, ⟨by refine pk ?_; refine blk_far ?_ NB144_156.out _; refine pk ?_; refine blk_far ?_ NB144_156.out _; refine pk ?_; exact BK144.out⟩, ⟨by refine pk ?_; refine blk_far ?_ NB148_156.out _; refine pk ?_; refine blk_far ?_ NB148_156.out _; refine pk ?_; exact BK148.out⟩, ⟨by refine pk ?_; refine blk_far ?_ NB152_156.out _; refine pk ?_; refine blk_far ?_ NB152_156.out _; refine pk ?_; exact BK152.out⟩, ⟨by refine pk ?_; refine blk_put (cs := #[.int .i64 t153, .int .i64 0]) ?_ 1 _ rfl; refine pk ?_; refine blk_put (cs := #[.int .i64 0, .int .i64 0]) ?_ 0 _ rfl; refine pk ?_; exact BK156.out⟩, ⟨bk HB.out⟩⟩
      · rw [if_neg c36] at H
        have c36b0 : (t143 == 0) = false := beq_eq_false_iff_ne.mpr c36
        have c36b1 : (t143 != 0) = true := bne_iff_ne.mpr c36
        have H' := Aside0.mk H
        clear H
        go_wp2
        go_meet
        case rel => exact ⟨_, (true), (by first | rfl | (simp; done) | (simp [*]; done) | (simp only [show ∀ p : Prop, Aside0 p = p from fun p => propext ⟨Aside0.out, Aside0.mk⟩] at *; simp_all; done)), H', ⟨by first | omega | exact Nat.le_refl _⟩, ⟨by refine pk ?_; refine blk_far ?_ NB140_156.out _; refine pk ?_; refine blk_far ?_ NB140_156.out _; refine pk ?_; exact BK140.out⟩, ⟨by refine pk ?_; refine blk_far ?_ NB144_156.out _; refine pk ?_; refine blk_far ?_ NB144_156.out _; refine pk ?_; exact BK144.out⟩, ⟨by refine pk ?_; refine blk_far ?_ NB148_156.out _; refine pk ?_; refine blk_far ?_ NB148_156.out _; refine pk ?_; exact BK148.out⟩, ⟨by refine pk ?_; refine blk_far ?_ NB152_156.out _; refine pk ?_; refine blk_far ?_ NB152_156.out _; refine pk ?_; exact BK152.out⟩, ⟨by refine pk ?_; refine blk_put (cs := #[.int .i64 t153, .int .i64 0]) ?_ 1 _ rfl; refine pk ?_; refine blk_put (cs := #[.int .i64 0, .int .i64 0]) ?_ 0 _ rfl; refine pk ?_; exact BK156.out⟩, ⟨bk HB.out⟩⟩
    · rw [if_neg c35] at H
      have c35b0 : (t139 == 0) = false := beq_eq_false_iff_ne.mpr c35
      have c35b1 : (t139 != 0) = true := bne_iff_ne.mpr c35
      (first | rw [c35b0] | (simp only [i64_w, i32_w]; rw [c35b0]) | skip)
      have H' := Aside0.mk H
      clear H
      go_wp2
      go_meet
      case rel => exact ⟨_, (true), (by first | rfl | (simp; done) | (simp [*]; done) | (simp only [show ∀ p : Prop, Aside0 p = p from fun p => propext ⟨Aside0.out, Aside0.mk⟩] at *; simp_all; done)), H', ⟨by first | omega | exact Nat.le_refl _⟩, ⟨by refine pk ?_; refine blk_far ?_ NB140_156.out _; refine pk ?_; refine blk_far ?_ NB140_156.out _; refine pk ?_; exact BK140.out⟩, ⟨by refine pk ?_; refine blk_far ?_ NB144_156.out _; refine pk ?_; refine blk_far ?_ NB144_156.out _; refine pk ?_; exact BK144.out⟩, ⟨by refine pk ?_; refine blk_far ?_ NB148_156.out _; refine pk ?_; refine blk_far ?_ NB148_156.out _; refine pk ?_; exact BK148.out⟩, ⟨by refine pk ?_; refine blk_far ?_ NB152_156.out _; refine pk ?_; refine blk_far ?_ NB152_156.out _; refine pk ?_; exact BK152.out⟩, ⟨by refine pk ?_; refine blk_put (cs := #[.int .i64 t153, .int .i64 0]) ?_ 1 _ rfl; refine pk ?_; refine blk_put (cs := #[.int .i64 0, .int .i64 0]) ?_ 0 _ rfl; refine pk ?_; exact BK156.out⟩, ⟨bk HB.out⟩⟩
  case rest =>
    clear HC6
    try clear c1
    try clear c2
    try clear p2
    try clear c3
    try clear c10
    try clear c12
    try clear c13
    try clear c14
    try clear c17
    try clear c18
    try clear c23
    try clear c24
    try clear c25
    try clear c30
    try clear c31
    try clear c32
    try clear c33
    try clear c35
    try clear c35b0
    try clear c35b1
    try clear c36
    try clear c36b0
    try clear c36b1
    try clear c37
    try clear c37b0
    try clear c37b1
    try clear c38
    try clear c38b0
    try clear c38b1
    try clear hcz13_0
    try clear hcz13_1
    try clear hcz14_0
    try clear hcz14_1
    try clear hcz14_2
    try clear hcz14_3
    try clear hcz19_0
    try clear hcz19_1
    try clear hcz20_0
    try clear hcz20_1
    try clear hcz20_2
    try clear hcz20_3
    try clear hcz26_0
    try clear hcz26_1
    try clear hcz27_0
    try clear hcz27_1
    try clear hcz27_2
    try clear hcz27_3
    try clear hcz34_0
    try clear hcz34_1
    try clear hcz9_0
    try clear hcz9_1
    try clear hcz9_2
    try clear hcz9_3
    try clear hfz13_0
    try clear hfz13_1
    try clear hfz14_0
    try clear hfz14_1
    try clear hfz14_2
    try clear hfz14_3
    try clear hfz19_0
    try clear hfz19_1
    try clear hfz20_0
    try clear hfz20_1
    try clear hfz20_2
    try clear hfz20_3
    try clear hfz26_0
    try clear hfz26_1
    try clear hfz27_0
    try clear hfz27_1
    try clear hfz27_2
    try clear hfz27_3
    try clear hfz34_0
    try clear hfz34_1
    try clear hfz9_0
    try clear hfz9_1
    try clear hfz9_2
    try clear hfz9_3
    obtain ⟨kq, x61_5, rfl, HA, HJ5, BK140, BK144, BK148, BK152, BK156, HB⟩ := hcut
    cases kq with
    | zero => exact absurd HA.out (by simp [weirgatelaw05_sanity.j0])
    | succ kj5 =>
      have H := HA.out
      clear HA
      simp only [weirgatelaw05_sanity.j0] at H
      by_cases c39 : x61_5 = true
      · subst c39
        have H1 : (some false) = some r := by rw [if_pos rfl] at H; exact H
        clear H
        have H := H1
        clear H1
        obtain rfl := Option.some.inj H
        go_wp2
        go_ret
        exact ⟨by first | rfl | (simp [errW_none, errW_some] <;> rfl) | (simp [*, errW_none, errW_some] <;> rfl), bk HB.out⟩
      · replace c39 := Bool.eq_false_iff.mpr c39
        subst c39
        have H1 : (if (t141 == 5000 && (t142 == 5011)) = true then (if (t145 == 5009 && (t146 == 5022)) = true then (weirgatelaw05_sanity.j1 kj5 (t149 == 6000 && (t150 == 6234)) t135 t136 t137 t138) else (weirgatelaw05_sanity.j1 kj5 false t135 t136 t137 t138)) else (weirgatelaw05_sanity.j1 kj5 false t135 t136 t137 t138)) = some r := by rw [if_neg (show ¬ (false = true) by decide)] at H; exact H
        clear H
        have H := H1
        clear H1
        have HC40 := Aside0.mk H
        clear H
        go_upto_region 8 with (fail)
        go_cut [11] (fun v11 wc => ∃ (kq : Nat) (x11_39 : Bool), v11 = .bool x11_39 ∧ Aside0 (weirgatelaw05_sanity.j1 kq x11_39 t135 t136 t137 t138 = some r) ∧ Aside0 (kq ≤ kj5) ∧ Aside0 (wc.heap[gb140]? = some (.cells #[.int .i64 t135, .int .i64 t136, .int .i64 t137, .int .i64 t138] 25 (0, 0))) ∧ Aside0 (wc.heap[gb144]? = some (.cells #[.int .i64 t141, .int .i64 t142] 23 (0, 0))) ∧ Aside0 (wc.heap[gb148]? = some (.cells #[.int .i64 t145, .int .i64 t146] 23 (0, 0))) ∧ Aside0 (wc.heap[gb152]? = some (.cells #[.int .i64 t149, .int .i64 t150] 23 (0, 0))) ∧ Aside0 (wc.heap[gb156]? = some (.cells #[.int .i64 t153, .int .i64 t154] 23 (0, 0))) ∧ Aside0 (Below w.heap.size w wc))
        case first =>
          have H := HC40.out
          clear HC40
          by_cases c41 : (t141 == 5000 && (t142 == 5011)) = true
          · rw [if_pos c41] at H
            have c41b0 : (t141 == 5000 && (t142 == 5011)) = true := c41
            (try (have c41b1 : decide (t141 = 5000 && (t142 == 5011)) = true := by simpa using c41))
            (try (have c41b2 : (t141 == 5000 && (t142 == 5011)) = true := by simpa using c41))
            clear c41
            (first | rw [c41b0] | (simp only [i64_w, i32_w]; rw [c41b0]) | skip)
            by_cases c42 : (t145 == 5009 && (t146 == 5022)) = true
            · rw [if_pos c42] at H
              have c42b0 : (t145 == 5009 && (t146 == 5022)) = true := c42
              (try (have c42b1 : decide (t145 = 5009 && (t146 == 5022)) = true := by simpa using c42))
              (try (have c42b2 : (t145 == 5009 && (t146 == 5022)) = true := by simpa using c42))
              clear c42
              have H' := Aside0.mk H
              clear H
              have hnb43 := NB144_140.out
              have hnc43 := NB140_144.out
              have hnb44 := NB144_148.out
              have hnc44 := NB148_144.out
              have hnb45 := NB144_152.out
              have hnc45 := NB152_144.out
              have hnb46 := NB144_156.out
              have hnc46 := NB156_144.out
              have hcz47_0 : wc.cell? ⟨gb144, 0, none⟩ = some (.int .i64 t141) := (blk_cell BK144.out 0).trans rfl
              have hcz47_1 : wc.cell? ⟨gb144, 1, none⟩ = some (.int .i64 t142) := (blk_cell BK144.out 1).trans rfl
              have hfz47_0 := blk_frozen BK144.out 0
              have hfz47_1 := blk_frozen BK144.out 1
              have hnb48 := NB148_140.out
              have hnc48 := NB140_148.out
              have hnb49 := NB148_152.out
              have hnc49 := NB152_148.out
              have hnb50 := NB148_156.out
              have hnc50 := NB156_148.out
              have hcz51_0 : wc.cell? ⟨gb148, 0, none⟩ = some (.int .i64 t145) := (blk_cell BK148.out 0).trans rfl
              have hcz51_1 : wc.cell? ⟨gb148, 1, none⟩ = some (.int .i64 t146) := (blk_cell BK148.out 1).trans rfl
              have hfz51_0 := blk_frozen BK148.out 0
              have hfz51_1 := blk_frozen BK148.out 1
              have hnb52 := NB152_140.out
              have hnc52 := NB140_152.out
              have hnb53 := NB152_156.out
              have hnc53 := NB156_152.out
              have hcz54_0 : wc.cell? ⟨gb152, 0, none⟩ = some (.int .i64 t149) := (blk_cell BK152.out 0).trans rfl
              have hcz54_1 : wc.cell? ⟨gb152, 1, none⟩ = some (.int .i64 t150) := (blk_cell BK152.out 1).trans rfl
              have hfz54_0 := blk_frozen BK152.out 0
              have hfz54_1 := blk_frozen BK152.out 1
              go_wp2
              go_meet
              case rel => exact ⟨_, ((t149 == 6000 && (t150 == 6234))), (by first | rfl | (simp; done) | (simp [*]; done) | (simp only [show ∀ p : Prop, Aside0 p = p from fun p => propext ⟨Aside0.out, Aside0.mk⟩] at *; simp_all; done)), H', ⟨by have := HJ5.out; first | omega | exact Nat.le_refl _⟩, ⟨pk BK140.out⟩, ⟨pk BK144.out⟩, ⟨pk BK148.out⟩, ⟨pk BK152.out⟩, ⟨pk BK156.out⟩, ⟨bk HB.out⟩⟩
            · rw [if_neg c42] at H
              have c42b0 : (t145 == 5009 && (t146 == 5022)) = false := by simpa using c42
              (try (have c42b1 : decide (t145 = 5009 && (t146 == 5022)) = false := by simpa using c42))
              (try (have c42b2 : (t145 == 5009 && (t146 == 5022)) = false := by simpa using c42))
              (try (have c42b3 : ¬ (t145 = 5009 && (t146 == 5022)) := by simpa using c42))
              clear c42
              have H' := Aside0.mk H
              clear H
              have hnb55 := NB144_140.out
              have hnc55 := NB140_144.out
              have hnb56 := NB144_148.out
              have hnc56 := NB148_144.out
              have hnb57 := NB144_152.out
              have hnc57 := NB152_144.out
              have hnb58 := NB144_156.out
              have hnc58 := NB156_144.out
              have hcz59_0 : wc.cell? ⟨gb144, 0, none⟩ = some (.int .i64 t141) := (blk_cell BK144.out 0).trans rfl
              have hcz59_1 : wc.cell? ⟨gb144, 1, none⟩ = some (.int .i64 t142) := (blk_cell BK144.out 1).trans rfl
              have hfz59_0 := blk_frozen BK144.out 0
              have hfz59_1 := blk_frozen BK144.out 1
              have hnb60 := NB148_140.out
              have hnc60 := NB140_148.out
              have hnb61 := NB148_152.out
              have hnc61 := NB152_148.out
              have hnb62 := NB148_156.out
              have hnc62 := NB156_148.out
              have hcz63_0 : wc.cell? ⟨gb148, 0, none⟩ = some (.int .i64 t145) := (blk_cell BK148.out 0).trans rfl
              have hcz63_1 : wc.cell? ⟨gb148, 1, none⟩ = some (.int .i64 t146) := (blk_cell BK148.out 1).trans rfl
              have hfz63_0 := blk_frozen BK148.out 0
              have hfz63_1 := blk_frozen BK148.out 1
              go_wp2
              go_meet
              case rel => exact ⟨_, (false), (by first | rfl | (simp; done) | (simp [*]; done) | (simp only [show ∀ p : Prop, Aside0 p = p from fun p => propext ⟨Aside0.out, Aside0.mk⟩] at *; simp_all; done)), H', ⟨by have := HJ5.out; first | omega | exact Nat.le_refl _⟩, ⟨pk BK140.out⟩, ⟨pk BK144.out⟩, ⟨pk BK148.out⟩, ⟨pk BK152.out⟩, ⟨pk BK156.out⟩, ⟨bk HB.out⟩⟩
          · rw [if_neg c41] at H
            have c41b0 : (t141 == 5000 && (t142 == 5011)) = false := by simpa using c41
            (try (have c41b1 : decide (t141 = 5000 && (t142 == 5011)) = false := by simpa using c41))
            (try (have c41b2 : (t141 == 5000 && (t142 == 5011)) = false := by simpa using c41))
            (try (have c41b3 : ¬ (t141 = 5000 && (t142 == 5011)) := by simpa using c41))
            clear c41
            (first | rw [c41b0] | (simp only [i64_w, i32_w]; rw [c41b0]) | skip)
            have H' := Aside0.mk H
            clear H
            have hnb64 := NB144_140.out
            have hnc64 := NB140_144.out
            have hnb65 := NB144_148.out
            have hnc65 := NB148_144.out
            have hnb66 := NB144_152.out
            have hnc66 := NB152_144.out
            have hnb67 := NB144_156.out
            have hnc67 := NB156_144.out
            have hcz68_0 : wc.cell? ⟨gb144, 0, none⟩ = some (.int .i64 t141) := (blk_cell BK144.out 0).trans rfl
            have hcz68_1 : wc.cell? ⟨gb144, 1, none⟩ = some (.int .i64 t142) := (blk_cell BK144.out 1).trans rfl
            have hfz68_0 := blk_frozen BK144.out 0
            have hfz68_1 := blk_frozen BK144.out 1
            go_wp2
            go_meet
            case rel => exact ⟨_, (false), (by first | rfl | (simp; done) | (simp [*]; done) | (simp only [show ∀ p : Prop, Aside0 p = p from fun p => propext ⟨Aside0.out, Aside0.mk⟩] at *; simp_all; done)), H', ⟨by have := HJ5.out; first | omega | exact Nat.le_refl _⟩, ⟨pk BK140.out⟩, ⟨pk BK144.out⟩, ⟨pk BK148.out⟩, ⟨pk BK152.out⟩, ⟨pk BK156.out⟩, ⟨bk HB.out⟩⟩
        case rest =>
          clear HC40
          try clear c1
          try clear c2
          try clear p2
          try clear c3
          try clear c4
          try clear c5
          try clear c6
          try clear c10
          try clear c12
          try clear c13
          try clear c14
          try clear c17
          try clear c18
          try clear c23
          try clear c24
          try clear c25
          try clear c30
          try clear c31
          try clear c32
          try clear c33
          try clear c35
          try clear c35b0
          try clear c35b1
          try clear c36
          try clear c36b0
          try clear c36b1
          try clear c37
          try clear c37b0
          try clear c37b1
          try clear c38
          try clear c38b0
          try clear c38b1
          try clear c39
          try clear c41
          try clear c41b0
          try clear c41b1
          try clear c41b2
          try clear c42
          try clear c42b0
          try clear c42b1
          try clear c42b2
          try clear c43
          try clear c44
          try clear c45
          try clear c46
          try clear c48
          try clear c49
          try clear c50
          try clear c52
          try clear c53
          try clear c55
          try clear c56
          try clear c57
          try clear c58
          try clear c60
          try clear c61
          try clear c62
          try clear c64
          try clear c65
          try clear c66
          try clear c67
          try clear hcz13_0
          try clear hcz13_1
          try clear hcz14_0
          try clear hcz14_1
          try clear hcz14_2
          try clear hcz14_3
          try clear hcz19_0
          try clear hcz19_1
          try clear hcz20_0
          try clear hcz20_1
          try clear hcz20_2
          try clear hcz20_3
          try clear hcz26_0
          try clear hcz26_1
          try clear hcz27_0
          try clear hcz27_1
          try clear hcz27_2
          try clear hcz27_3
          try clear hcz34_0
          try clear hcz34_1
          try clear hcz47_0
          try clear hcz47_1
          try clear hcz51_0
          try clear hcz51_1
          try clear hcz54_0
          try clear hcz54_1
          try clear hcz59_0
          try clear hcz59_1
          try clear hcz63_0
          try clear hcz63_1
          try clear hcz68_0
          try clear hcz68_1
          try clear hcz9_0
          try clear hcz9_1
          try clear hcz9_2
          try clear hcz9_3
          try clear hfz13_0
          try clear hfz13_1
          try clear hfz14_0
          try clear hfz14_1
          try clear hfz14_2
          try clear hfz14_3
          try clear hfz19_0
          try clear hfz19_1
          try clear hfz20_0
          try clear hfz20_1
          try clear hfz20_2
          try clear hfz20_3
          try clear hfz26_0
          try clear hfz26_1
          try clear hfz27_0
          try clear hfz27_1
          try clear hfz27_2
          try clear hfz27_3
          try clear hfz34_0
          try clear hfz34_1
          try clear hfz47_0
          try clear hfz47_1
          try clear hfz51_0
          try clear hfz51_1
          try clear hfz54_0
          try clear hfz54_1
          try clear hfz59_0
          try clear hfz59_1
          try clear hfz63_0
          try clear hfz63_1
          try clear hfz68_0
          try clear hfz68_1
          try clear hfz9_0
          try clear hfz9_1
          try clear hfz9_2
          try clear hfz9_3
          try clear p2
          obtain ⟨kq, x11_39, rfl, HA, HJ39, BK140, BK144, BK148, BK152, BK156, HB⟩ := hcut
          cases kq with
          | zero => exact absurd HA.out (by simp [weirgatelaw05_sanity.j1])
          | succ kj39 =>
            have H := HA.out
            clear HA
            simp only [weirgatelaw05_sanity.j1] at H
            replace H := Option.bind_eq_some_iff.mp H
            obtain ⟨⟨t157, t158, t159, t160, t161⟩, A690, H⟩ := H
            replace H : ((clock_Sync.f kj39 t135 t136 t137 t138 1010 5030 5040).bind fun bt163 => (if t161 = 0 then (if bt163.2.2.2.2 = 9 then (weirgatelaw05_sanity.j2 kj39 x11_39 (t157 == 1010 && ((t158 == 5020 && (t159 == 5022)) && (t160 == 100000))) t135 t136 t137 t138) else (weirgatelaw05_sanity.j2 kj39 x11_39 false t135 t136 t137 t138)) else (weirgatelaw05_sanity.j2 kj39 x11_39 false t135 t136 t137 t138))) = some r := H
            have A69 := Aside0.mk A690
            clear A690
            replace H := Option.bind_eq_some_iff.mp H
            obtain ⟨⟨t163, t164, t165, t166, t167⟩, A700, H⟩ := H
            replace H : (if t161 = 0 then (if t167 = 9 then (weirgatelaw05_sanity.j2 kj39 x11_39 (t157 == 1010 && ((t158 == 5020 && (t159 == 5022)) && (t160 == 100000))) t135 t136 t137 t138) else (weirgatelaw05_sanity.j2 kj39 x11_39 false t135 t136 t137 t138)) else (weirgatelaw05_sanity.j2 kj39 x11_39 false t135 t136 t137 t138)) = some r := H
            have A70 := Aside0.mk A700
            clear A700
            have HC71 := Aside0.mk H
            clear H
            have hnb72 := NB140_144.out
            have hnc72 := NB144_140.out
            have hnb73 := NB140_148.out
            have hnc73 := NB148_140.out
            have hnb74 := NB140_152.out
            have hnc74 := NB152_140.out
            have hnb75 := NB140_156.out
            have hnc75 := NB156_140.out
            have hcz76_0 : wc.cell? ⟨gb140, 0, none⟩ = some (.int .i64 t135) := (blk_cell BK140.out 0).trans rfl
            have hcz76_1 : wc.cell? ⟨gb140, 1, none⟩ = some (.int .i64 t136) := (blk_cell BK140.out 1).trans rfl
            have hcz76_2 : wc.cell? ⟨gb140, 2, none⟩ = some (.int .i64 t137) := (blk_cell BK140.out 2).trans rfl
            have hcz76_3 : wc.cell? ⟨gb140, 3, none⟩ = some (.int .i64 t138) := (blk_cell BK140.out 3).trans rfl
            have hfz76_0 := blk_frozen BK140.out 0
            have hfz76_1 := blk_frozen BK140.out 1
            have hfz76_2 := blk_frozen BK140.out 2
            have hfz76_3 := blk_frozen BK140.out 3
            go_upto_region 11 with (first | ((with_reducible refine gate_callee (f := 16) rfl ?_); refine goesL_ (some 78) rfl rfl Try.func16 (by kernel_rfl) rfl #[.agg #[.int .i64 t135, .int .i64 t136, .int .i64 t137, .int .i64 t138], .int .i64 1010, .agg #[.int .i64 5020, .int .i64 5040]] rfl (by (try simp only [List.map_toArray, List.map_cons, List.map_nil]); first | done | rfl | (simp only [List.length_drop, List.length_take]; rfl)) ?_; (with_reducible refine (clock_Sync.calls kj39 t135 t136 t137 t138 1010 5020 5040 t157 t158 t159 t160 t161 _ A69.out).mono ?_); rintro e w77 ⟨rfl, hb⟩; refine ⟨_, rfl, ?_⟩; have n0_ := Aside0.mk (blk_below (pk BK140.out) hb); have n1_ := Aside0.mk (blk_below (pk BK144.out) hb); have n2_ := Aside0.mk (blk_below (pk BK148.out) hb); have n3_ := Aside0.mk (blk_below (pk BK152.out) hb); have n4_ := Aside0.mk (blk_below (pk BK156.out) hb); have n5_ := Aside0.mk (below_step (bk HB.out) hb); clear BK140 BK144; clear BK148 BK152; clear BK156 HB; have BK140 := n0_; have BK144 := n1_; have BK148 := n2_; have BK152 := n3_; have BK156 := n4_; have HB := n5_; clear n0_ n1_ n2_ n3_ n4_ n5_; (try clear hb); (try clear hb2); (try clear hk); (try clear hi)) | ((with_reducible refine gate_dst (N := 12) rfl ?_); refine box_event ?hg (N := 12) ?hd (cs := #[.int .i64 0, .int .i64 0, .int .i64 0, .int .i64 0]) (t := 25) ?hr ?_; (case hd => rfl); (case hg => rfl); (case hr => first | (go_simp; done) | (go_simp; rfl)); intro gb162 hg w78 hbox hb; have n0_ := Aside0.mk (blk_below (pk BK140.out) hb); have n1_ := Aside0.mk (blk_below (pk BK144.out) hb); have n2_ := Aside0.mk (blk_below (pk BK148.out) hb); have n3_ := Aside0.mk (blk_below (pk BK152.out) hb); have n4_ := Aside0.mk (blk_below (pk BK156.out) hb); have n5_ := Aside0.mk (below_step (bk HB.out) hb); have n6_ := Aside0.mk (hbox); have n7_ := Aside0.mk ((by rw [hg]; exact (below_size (bk HB.out)) : w.heap.size ≤ gb162)); have n8_ := Aside0.mk ((by rw [hg]; exact (below_size (bk HB.out)) : w.heap.size ≤ gb162)); have n9_ := Aside0.mk ((by rw [hg]; exact Nat.ne_of_lt (blk_lt (g := gb140) (o := .cells #[.int .i64 t135, .int .i64 t136, .int .i64 t137, .int .i64 t138] 25 (0, 0)) (pk BK140.out)) : gb140 ≠ gb162)); have n10_ := Aside0.mk ((by rw [hg]; exact Nat.ne_of_gt (blk_lt (g := gb140) (o := .cells #[.int .i64 t135, .int .i64 t136, .int .i64 t137, .int .i64 t138] 25 (0, 0)) (pk BK140.out)) : gb162 ≠ gb140)); have n11_ := Aside0.mk ((by rw [hg]; exact Nat.ne_of_lt (blk_lt (g := gb144) (o := .cells #[.int .i64 t141, .int .i64 t142] 23 (0, 0)) (pk BK144.out)) : gb144 ≠ gb162)); have n12_ := Aside0.mk ((by rw [hg]; exact Nat.ne_of_gt (blk_lt (g := gb144) (o := .cells #[.int .i64 t141, .int .i64 t142] 23 (0, 0)) (pk BK144.out)) : gb162 ≠ gb144)); have n13_ := Aside0.mk ((by rw [hg]; exact Nat.ne_of_lt (blk_lt (g := gb148) (o := .cells #[.int .i64 t145, .int .i64 t146] 23 (0, 0)) (pk BK148.out)) : gb148 ≠ gb162)); have n14_ := Aside0.mk ((by rw [hg]; exact Nat.ne_of_gt (blk_lt (g := gb148) (o := .cells #[.int .i64 t145, .int .i64 t146] 23 (0, 0)) (pk BK148.out)) : gb162 ≠ gb148)); have n15_ := Aside0.mk ((by rw [hg]; exact Nat.ne_of_lt (blk_lt (g := gb152) (o := .cells #[.int .i64 t149, .int .i64 t150] 23 (0, 0)) (pk BK152.out)) : gb152 ≠ gb162)); have n16_ := Aside0.mk ((by rw [hg]; exact Nat.ne_of_gt (blk_lt (g := gb152) (o := .cells #[.int .i64 t149, .int .i64 t150] 23 (0, 0)) (pk BK152.out)) : gb162 ≠ gb152)); have n17_ := Aside0.mk ((by rw [hg]; exact Nat.ne_of_lt (blk_lt (g := gb156) (o := .cells #[.int .i64 t153, .int .i64 t154] 23 (0, 0)) (pk BK156.out)) : gb156 ≠ gb162)); have n18_ := Aside0.mk ((by rw [hg]; exact Nat.ne_of_gt (blk_lt (g := gb156) (o := .cells #[.int .i64 t153, .int .i64 t154] 23 (0, 0)) (pk BK156.out)) : gb162 ≠ gb156)); clear BK140 BK144; clear BK148 BK152; clear BK156 HB; have BK140 := n0_; have BK144 := n1_; have BK148 := n2_; have BK152 := n3_; have BK156 := n4_; have HB := n5_; have BK162 := n6_; have GW162 := n7_; have GE162 := n8_; have NB140_162 := n9_; have NB162_140 := n10_; have NB144_162 := n11_; have NB162_144 := n12_; have NB148_162 := n13_; have NB162_148 := n14_; have NB152_162 := n15_; have NB162_152 := n16_; have NB156_162 := n17_; have NB162_156 := n18_; clear n0_ n1_ n2_ n3_ n4_ n5_ n6_ n7_ n8_ n9_ n10_ n11_ n12_ n13_ n14_ n15_ n16_ n17_ n18_; clear hb hbox hg; have hnb79 := NB162_140.out; have hnc79 := NB140_162.out; have hnb80 := NB162_144.out; have hnc80 := NB144_162.out; have hnb81 := NB162_148.out; have hnc81 := NB148_162.out; have hnb82 := NB162_152.out; have hnc82 := NB152_162.out; have hnb83 := NB162_156.out; have hnc83 := NB156_162.out; have hcz84_0 : w78.cell? ⟨gb162, 0, none⟩ = some (.int .i64 0) := (blk_cell BK162.out 0).trans rfl; have hcz84_1 : w78.cell? ⟨gb162, 1, none⟩ = some (.int .i64 0) := (blk_cell BK162.out 1).trans rfl; have hcz84_2 : w78.cell? ⟨gb162, 2, none⟩ = some (.int .i64 0) := (blk_cell BK162.out 2).trans rfl; have hcz84_3 : w78.cell? ⟨gb162, 3, none⟩ = some (.int .i64 0) := (blk_cell BK162.out 3).trans rfl; have hfz84_0 := blk_frozen BK162.out 0; have hfz84_1 := blk_frozen BK162.out 1; have hfz84_2 := blk_frozen BK162.out 2; have hfz84_3 := blk_frozen BK162.out 3; have hcz85_0 : w78.cell? ⟨gb140, 0, none⟩ = some (.int .i64 t135) := (blk_cell BK140.out 0).trans rfl; have hcz85_1 : w78.cell? ⟨gb140, 1, none⟩ = some (.int .i64 t136) := (blk_cell BK140.out 1).trans rfl; have hcz85_2 : w78.cell? ⟨gb140, 2, none⟩ = some (.int .i64 t137) := (blk_cell BK140.out 2).trans rfl; have hcz85_3 : w78.cell? ⟨gb140, 3, none⟩ = some (.int .i64 t138) := (blk_cell BK140.out 3).trans rfl; have hfz85_0 := blk_frozen BK140.out 0; have hfz85_1 := blk_frozen BK140.out 1; have hfz85_2 := blk_frozen BK140.out 2; have hfz85_3 := blk_frozen BK140.out 3) | ((with_reducible refine gate_callee (f := 16) rfl ?_); refine goesL_ (some 84) rfl rfl Try.func16 (by kernel_rfl) rfl #[.agg #[.int .i64 t135, .int .i64 t136, .int .i64 t137, .int .i64 t138], .int .i64 1010, .agg #[.int .i64 5030, .int .i64 5040]] rfl (by (try simp only [List.map_toArray, List.map_cons, List.map_nil]); first | done | rfl | (simp only [List.length_drop, List.length_take]; rfl)) ?_; (with_reducible refine (clock_Sync.calls kj39 t135 t136 t137 t138 1010 5030 5040 t163 t164 t165 t166 t167 _ A70.out).mono ?_); rintro e w86 ⟨rfl, hb⟩; refine ⟨_, rfl, ?_⟩; have n0_ := Aside0.mk (blk_below (g := gb140) (o := .cells #[.int .i64 t135, .int .i64 t136, .int .i64 t137, .int .i64 t138] 25 (0, 0)) (by refine pk ?_; refine blk_far ?_ NB140_162.out _; refine pk ?_; refine blk_far ?_ NB140_162.out _; refine pk ?_; refine blk_far ?_ NB140_162.out _; refine pk ?_; refine blk_far ?_ NB140_162.out _; refine pk ?_; exact BK140.out) hb); have n1_ := Aside0.mk (blk_below (g := gb144) (o := .cells #[.int .i64 t141, .int .i64 t142] 23 (0, 0)) (by refine pk ?_; refine blk_far ?_ NB144_162.out _; refine pk ?_; refine blk_far ?_ NB144_162.out _; refine pk ?_; refine blk_far ?_ NB144_162.out _; refine pk ?_; refine blk_far ?_ NB144_162.out _; refine pk ?_; exact BK144.out) hb); have n2_ := Aside0.mk (blk_below (g := gb148) (o := .cells #[.int .i64 t145, .int .i64 t146] 23 (0, 0)) (by refine pk ?_; refine blk_far ?_ NB148_162.out _; refine pk ?_; refine blk_far ?_ NB148_162.out _; refine pk ?_; refine blk_far ?_ NB148_162.out _; refine pk ?_; refine blk_far ?_ NB148_162.out _; refine pk ?_; exact BK148.out) hb); have n3_ := Aside0.mk (blk_below (g := gb152) (o := .cells #[.int .i64 t149, .int .i64 t150] 23 (0, 0)) (by refine pk ?_; refine blk_far ?_ NB152_162.out _; refine pk ?_; refine blk_far ?_ NB152_162.out _; refine pk ?_; refine blk_far ?_ NB152_162.out _; refine pk ?_; refine blk_far ?_ NB152_162.out _; refine pk ?_; exact BK152.out) hb); have n4_ := Aside0.mk (blk_below (g := gb156) (o := .cells #[.int .i64 t153, .int .i64 t154] 23 (0, 0)) (by refine pk ?_; refine blk_far ?_ NB156_162.out _; refine pk ?_; refine blk_far ?_ NB156_162.out _; refine pk ?_; refine blk_far ?_ NB156_162.out _; refine pk ?_; refine blk_far ?_ NB156_162.out _; refine pk ?_; exact BK156.out) hb); have n5_ := Aside0.mk (blk_below (g := gb162) (o := .cells #[.int .i64 t157, .int .i64 t158, .int .i64 t159, .int .i64 t160] 25 (0, 0)) (by refine pk ?_; refine blk_put (cs := #[.int .i64 t157, .int .i64 t158, .int .i64 t159, .int .i64 0]) ?_ 3 _ rfl; refine pk ?_; refine blk_put (cs := #[.int .i64 t157, .int .i64 t158, .int .i64 0, .int .i64 0]) ?_ 2 _ rfl; refine pk ?_; refine blk_put (cs := #[.int .i64 t157, .int .i64 0, .int .i64 0, .int .i64 0]) ?_ 1 _ rfl; refine pk ?_; refine blk_put (cs := #[.int .i64 0, .int .i64 0, .int .i64 0, .int .i64 0]) ?_ 0 _ rfl; refine pk ?_; exact BK162.out) hb); have n6_ := Aside0.mk (below_step (bk HB.out) hb); clear BK140 BK144; clear BK148 BK152; clear BK156 BK162 HB; have BK140 := n0_; have BK144 := n1_; have BK148 := n2_; have BK152 := n3_; have BK156 := n4_; have BK162 := n5_; have HB := n6_; clear n0_ n1_ n2_ n3_ n4_ n5_ n6_; (try clear hb); (try clear hb2); (try clear hk); (try clear hi)) | ((with_reducible refine gate_dst (N := 14) rfl ?_); refine box_event ?hg (N := 14) ?hd (cs := #[.int .i64 0, .int .i64 0, .int .i64 0, .int .i64 0]) (t := 25) ?hr ?_; (case hd => rfl); (case hg => rfl); (case hr => first | (go_simp; done) | (go_simp; rfl)); intro gb168 hg w87 hbox hb; have n0_ := Aside0.mk (blk_below (pk BK140.out) hb); have n1_ := Aside0.mk (blk_below (pk BK144.out) hb); have n2_ := Aside0.mk (blk_below (pk BK148.out) hb); have n3_ := Aside0.mk (blk_below (pk BK152.out) hb); have n4_ := Aside0.mk (blk_below (pk BK156.out) hb); have n5_ := Aside0.mk (blk_below (pk BK162.out) hb); have n6_ := Aside0.mk (below_step (bk HB.out) hb); have n7_ := Aside0.mk (hbox); have n8_ := Aside0.mk ((by rw [hg]; exact (below_size (bk HB.out)) : w.heap.size ≤ gb168)); have n9_ := Aside0.mk ((by rw [hg]; exact (below_size (bk HB.out)) : w.heap.size ≤ gb168)); have n10_ := Aside0.mk ((by rw [hg]; exact Nat.ne_of_lt (blk_lt (g := gb140) (o := .cells #[.int .i64 t135, .int .i64 t136, .int .i64 t137, .int .i64 t138] 25 (0, 0)) (pk BK140.out)) : gb140 ≠ gb168)); have n11_ := Aside0.mk ((by rw [hg]; exact Nat.ne_of_gt (blk_lt (g := gb140) (o := .cells #[.int .i64 t135, .int .i64 t136, .int .i64 t137, .int .i64 t138] 25 (0, 0)) (pk BK140.out)) : gb168 ≠ gb140)); have n12_ := Aside0.mk ((by rw [hg]; exact Nat.ne_of_lt (blk_lt (g := gb144) (o := .cells #[.int .i64 t141, .int .i64 t142] 23 (0, 0)) (pk BK144.out)) : gb144 ≠ gb168)); have n13_ := Aside0.mk ((by rw [hg]; exact Nat.ne_of_gt (blk_lt (g := gb144) (o := .cells #[.int .i64 t141, .int .i64 t142] 23 (0, 0)) (pk BK144.out)) : gb168 ≠ gb144)); have n14_ := Aside0.mk ((by rw [hg]; exact Nat.ne_of_lt (blk_lt (g := gb148) (o := .cells #[.int .i64 t145, .int .i64 t146] 23 (0, 0)) (pk BK148.out)) : gb148 ≠ gb168)); have n15_ := Aside0.mk ((by rw [hg]; exact Nat.ne_of_gt (blk_lt (g := gb148) (o := .cells #[.int .i64 t145, .int .i64 t146] 23 (0, 0)) (pk BK148.out)) : gb168 ≠ gb148)); have n16_ := Aside0.mk ((by rw [hg]; exact Nat.ne_of_lt (blk_lt (g := gb152) (o := .cells #[.int .i64 t149, .int .i64 t150] 23 (0, 0)) (pk BK152.out)) : gb152 ≠ gb168)); have n17_ := Aside0.mk ((by rw [hg]; exact Nat.ne_of_gt (blk_lt (g := gb152) (o := .cells #[.int .i64 t149, .int .i64 t150] 23 (0, 0)) (pk BK152.out)) : gb168 ≠ gb152)); have n18_ := Aside0.mk ((by rw [hg]; exact Nat.ne_of_lt (blk_lt (g := gb156) (o := .cells #[.int .i64 t153, .int .i64 t154] 23 (0, 0)) (pk BK156.out)) : gb156 ≠ gb168)); have n19_ := Aside0.mk ((by rw [hg]; exact Nat.ne_of_gt (blk_lt (g := gb156) (o := .cells #[.int .i64 t153, .int .i64 t154] 23 (0, 0)) (pk BK156.out)) : gb168 ≠ gb156)); have n20_ := Aside0.mk ((by rw [hg]; exact Nat.ne_of_lt (blk_lt (g := gb162) (o := .cells #[.int .i64 t157, .int .i64 t158, .int .i64 t159, .int .i64 t160] 25 (0, 0)) (pk BK162.out)) : gb162 ≠ gb168)); have n21_ := Aside0.mk ((by rw [hg]; exact Nat.ne_of_gt (blk_lt (g := gb162) (o := .cells #[.int .i64 t157, .int .i64 t158, .int .i64 t159, .int .i64 t160] 25 (0, 0)) (pk BK162.out)) : gb168 ≠ gb162)); clear BK140 BK144; clear BK148 BK152; clear BK156 BK162 HB; have BK140 := n0_; have BK144 := n1_; have BK148 := n2_; have BK152 := n3_; have BK156 := n4_; have BK162 := n5_; have HB := n6_; have BK168 := n7_; have GW168 := n8_; have GE168 := n9_; have NB140_168 := n10_; have NB168_140 := n11_; have NB144_168 := n12_; have NB168_144 := n13_; have NB148_168 := n14_; have NB168_148 := n15_; have NB152_168 := n16_; have NB168_152 := n17_; have NB156_168 := n18_; have NB168_156 := n19_; have NB162_168 := n20_; have NB168_162 := n21_; clear n0_ n1_ n2_ n3_ n4_ n5_ n6_ n7_ n8_ n9_ n10_ n11_ n12_ n13_ n14_ n15_ n16_ n17_ n18_ n19_ n20_ n21_; clear hb hbox hg; have hnb88 := NB168_140.out; have hnc88 := NB140_168.out; have hnb89 := NB168_144.out; have hnc89 := NB144_168.out; have hnb90 := NB168_148.out; have hnc90 := NB148_168.out; have hnb91 := NB168_152.out; have hnc91 := NB152_168.out; have hnb92 := NB168_156.out; have hnc92 := NB156_168.out; have hnb93 := NB168_162.out; have hnc93 := NB162_168.out; have hcz94_0 : w87.cell? ⟨gb168, 0, none⟩ = some (.int .i64 0) := (blk_cell BK168.out 0).trans rfl; have hcz94_1 : w87.cell? ⟨gb168, 1, none⟩ = some (.int .i64 0) := (blk_cell BK168.out 1).trans rfl; have hcz94_2 : w87.cell? ⟨gb168, 2, none⟩ = some (.int .i64 0) := (blk_cell BK168.out 2).trans rfl; have hcz94_3 : w87.cell? ⟨gb168, 3, none⟩ = some (.int .i64 0) := (blk_cell BK168.out 3).trans rfl; have hfz94_0 := blk_frozen BK168.out 0; have hfz94_1 := blk_frozen BK168.out 1; have hfz94_2 := blk_frozen BK168.out 2; have hfz94_3 := blk_frozen BK168.out 3))
            (try simp only [Act.put, List.setIfInBounds_toArray, List.set_cons_zero, List.set_cons_succ])
            go_cut [16] (fun v16 wc => ∃ (kq : Nat) (x16_70 : Bool), v16 = .bool x16_70 ∧ Aside0 (weirgatelaw05_sanity.j2 kq x11_39 x16_70 t135 t136 t137 t138 = some r) ∧ Aside0 (kq ≤ kj39) ∧ Aside0 (wc.heap[gb140]? = some (.cells #[.int .i64 t135, .int .i64 t136, .int .i64 t137, .int .i64 t138] 25 (0, 0))) ∧ Aside0 (wc.heap[gb144]? = some (.cells #[.int .i64 t141, .int .i64 t142] 23 (0, 0))) ∧ Aside0 (wc.heap[gb148]? = some (.cells #[.int .i64 t145, .int .i64 t146] 23 (0, 0))) ∧ Aside0 (wc.heap[gb152]? = some (.cells #[.int .i64 t149, .int .i64 t150] 23 (0, 0))) ∧ Aside0 (wc.heap[gb156]? = some (.cells #[.int .i64 t153, .int .i64 t154] 23 (0, 0))) ∧ Aside0 (wc.heap[gb162]? = some (.cells #[.int .i64 t157, .int .i64 t158, .int .i64 t159, .int .i64 t160] 25 (0, 0))) ∧ Aside0 (wc.heap[gb168]? = some (.cells #[.int .i64 t163, .int .i64 t164, .int .i64 t165, .int .i64 t166] 25 (0, 0))) ∧ Aside0 (Below w.heap.size w wc))
            case first =>
              have H := HC71.out
              clear HC71
              by_cases c95 : t161 = 0
              · rw [if_pos c95] at H
                have c95b0 : (t161 == 0) = true := beq_iff_eq.mpr c95
                have c95b1 : (t161 != 0) = false := bne_eq_false_iff_eq.mpr c95
                clear c95
                (first | rw [c95b0] | (simp only [i64_w, i32_w]; rw [c95b0]) | skip)
                by_cases c96 : t167 = 9
                · rw [if_pos c96] at H
                  have c96b0 : (t167 == 9) = true := beq_iff_eq.mpr c96
                  have c96b1 : (t167 != 9) = false := bne_eq_false_iff_eq.mpr c96
                  clear c96
                  have H' := Aside0.mk H
                  clear H
                  have hnb97 := NB162_140.out
                  have hnc97 := NB140_162.out
                  have hnb98 := NB162_144.out
                  have hnc98 := NB144_162.out
                  have hnb99 := NB162_148.out
                  have hnc99 := NB148_162.out
                  have hnb100 := NB162_152.out
                  have hnc100 := NB152_162.out
                  have hnb101 := NB162_156.out
                  have hnc101 := NB156_162.out
                  have hnb102 := NB162_168.out
                  have hnc102 := NB168_162.out
                  have hcz103_0 : w87.cell? ⟨gb162, 0, none⟩ = some (.int .i64 t157) := (blk_cell BK162.out 0).trans rfl
                  have hcz103_1 : w87.cell? ⟨gb162, 1, none⟩ = some (.int .i64 t158) := (blk_cell BK162.out 1).trans rfl
                  have hcz103_2 : w87.cell? ⟨gb162, 2, none⟩ = some (.int .i64 t159) := (blk_cell BK162.out 2).trans rfl
                  have hcz103_3 : w87.cell? ⟨gb162, 3, none⟩ = some (.int .i64 t160) := (blk_cell BK162.out 3).trans rfl
                  have hfz103_0 := blk_frozen BK162.out 0
                  have hfz103_1 := blk_frozen BK162.out 1
                  have hfz103_2 := blk_frozen BK162.out 2
                  have hfz103_3 := blk_frozen BK162.out 3
                  go_wp2
                  go_meet
                  case rel => exact ⟨_, ((t157 == 1010 && ((t158 == 5020 && (t159 == 5022)) && (t160 == 100000)))), (by first | rfl | (simp; done) | (simp [*]; done) | (simp only [show ∀ p : Prop, Aside0 p = p from fun p => propext ⟨Aside0.out, Aside0.mk⟩] at *; simp_all; done)), H', ⟨by have := HJ5.out; have := HJ39.out; first | omega | exact Nat.le_refl _⟩, ⟨by refine pk ?_; refine blk_far ?_ NB140_168.out _; refine pk ?_; refine blk_far ?_ NB140_168.out _; refine pk ?_; refine blk_far ?_ NB140_168.out _; refine pk ?_; refine blk_far ?_ NB140_168.out _; refine pk ?_; exact BK140.out⟩, ⟨by refine pk ?_; refine blk_far ?_ NB144_168.out _; refine pk ?_; refine blk_far ?_ NB144_168.out _; refine pk ?_; refine blk_far ?_ NB144_168.out _; refine pk ?_; refine blk_far ?_ NB144_168.out _; refine pk ?_; exact BK144.out⟩, ⟨by refine pk ?_; refine blk_far ?_ NB148_168.out _; refine pk ?_; refine blk_far ?_ NB148_168.out _; refine pk ?_; refine blk_far ?_ NB148_168.out _; refine pk ?_; refine blk_far ?_ NB148_168.out _; refine pk ?_; exact BK148.out⟩, ⟨by refine pk ?_; refine blk_far ?_ NB152_168.out _; refine pk ?_; refine blk_far ?_ NB152_168.out _; refine pk ?_; refine blk_far ?_ NB152_168.out _; refine pk ?_; refine blk_far ?_ NB152_168.out _; refine pk ?_; exact BK152.out⟩, ⟨by refine pk ?_; refine blk_far ?_ NB156_168.out _; refine pk ?_; refine blk_far ?_ NB156_168.out _; refine pk ?_; refine blk_far ?_ NB156_168.out _; refine pk ?_; refine blk_far ?_ NB156_168.out _; refine pk ?_; exact BK156.out⟩, ⟨by refine pk ?_; refine blk_far ?_ NB162_168.out _; refine pk ?_; refine blk_far ?_ NB162_168.out _; refine pk ?_; refine blk_far ?_ NB162_168.out _; refine pk ?_; refine blk_far ?_ NB162_168.out _; refine pk ?_; exact BK162.out⟩, ⟨by refine pk ?_; refine blk_put (cs := #[.int .i64 t163, .int .i64 t164, .int .i64 t165, .int .i64 0]) ?_ 3 _ rfl; refine pk ?_; refine blk_put (cs := #[.int .i64 t163, .int .i64 t164, .int .i64 0, .int .i64 0]) ?_ 2 _ rfl; refine pk ?_; refine blk_put (cs := #[.int .i64 t163, .int .i64 0, .int .i64 0, .int .i64 0]) ?_ 1 _ rfl; refine pk ?_; refine blk_put (cs := #[.int .i64 0, .int .i64 0, .int .i64 0, .int .i64 0]) ?_ 0 _ rfl; refine pk ?_; exact BK168.out⟩, ⟨bk HB.out⟩⟩
                · rw [if_neg c96] at H
                  have c96b0 : (t167 == 9) = false := beq_eq_false_iff_ne.mpr c96
                  have c96b1 : (t167 != 9) = true := bne_iff_ne.mpr c96
                  have H' := Aside0.mk H
                  clear H
                  go_wp2
                  go_meet
                  case rel => exact ⟨_, (false), (by first | rfl | (simp; done) | (simp [*]; done) | (simp only [show ∀ p : Prop, Aside0 p = p from fun p => propext ⟨Aside0.out, Aside0.mk⟩] at *; simp_all; done)), H', ⟨by have := HJ5.out; have := HJ39.out; first | omega | exact Nat.le_refl _⟩, ⟨by refine pk ?_; refine blk_far ?_ NB140_168.out _; refine pk ?_; refine blk_far ?_ NB140_168.out _; refine pk ?_; refine blk_far ?_ NB140_168.out _; refine pk ?_; refine blk_far ?_ NB140_168.out _; refine pk ?_; exact BK140.out⟩, ⟨by refine pk ?_; refine blk_far ?_ NB144_168.out _; refine pk ?_; refine blk_far ?_ NB144_168.out _; refine pk ?_; refine blk_far ?_ NB144_168.out _; refine pk ?_; refine blk_far ?_ NB144_168.out _; refine pk ?_; exact BK144.out⟩, ⟨by refine pk ?_; refine blk_far ?_ NB148_168.out _; refine pk ?_; refine blk_far ?_ NB148_168.out _; refine pk ?_; refine blk_far ?_ NB148_168.out _; refine pk ?_; refine blk_far ?_ NB148_168.out _; refine pk ?_; exact BK148.out⟩, ⟨by refine pk ?_; refine blk_far ?_ NB152_168.out _; refine pk ?_; refine blk_far ?_ NB152_168.out _; refine pk ?_; refine blk_far ?_ NB152_168.out _; refine pk ?_; refine blk_far ?_ NB152_168.out _; refine pk ?_; exact BK152.out⟩, ⟨by refine pk ?_; refine blk_far ?_ NB156_168.out _; refine pk ?_; refine blk_far ?_ NB156_168.out _; refine pk ?_; refine blk_far ?_ NB156_168.out _; refine pk ?_; refine blk_far ?_ NB156_168.out _; refine pk ?_; exact BK156.out⟩, ⟨by refine pk ?_; refine blk_far ?_ NB162_168.out _; refine pk ?_; refine blk_far ?_ NB162_168.out _; refine pk ?_; refine blk_far ?_ NB162_168.out _; refine pk ?_; refine blk_far ?_ NB162_168.out _; refine pk ?_; exact BK162.out⟩, ⟨by refine pk ?_; refine blk_put (cs := #[.int .i64 t163, .int .i64 t164, .int .i64 t165, .int .i64 0]) ?_ 3 _ rfl; refine pk ?_; refine blk_put (cs := #[.int .i64 t163, .int .i64 t164, .int .i64 0, .int .i64 0]) ?_ 2 _ rfl; refine pk ?_; refine blk_put (cs := #[.int .i64 t163, .int .i64 0, .int .i64 0, .int .i64 0]) ?_ 1 _ rfl; refine pk ?_; refine blk_put (cs := #[.int .i64 0, .int .i64 0, .int .i64 0, .int .i64 0]) ?_ 0 _ rfl; refine pk ?_; exact BK168.out⟩, ⟨bk HB.out⟩⟩
              · rw [if_neg c95] at H
                have c95b0 : (t161 == 0) = false := beq_eq_false_iff_ne.mpr c95
                have c95b1 : (t161 != 0) = true := bne_iff_ne.mpr c95
                (first | rw [c95b0] | (simp only [i64_w, i32_w]; rw [c95b0]) | skip)
                have H' := Aside0.mk H
                clear H
                go_wp2
                go_meet
                case rel => exact ⟨_, (false), (by first | rfl | (simp; done) | (simp [*]; done) | (simp only [show ∀ p : Prop, Aside0 p = p from fun p => propext ⟨Aside0.out, Aside0.mk⟩] at *; simp_all; done)), H', ⟨by have := HJ5.out; have := HJ39.out; first | omega | exact Nat.le_refl _⟩, ⟨by refine pk ?_; refine blk_far ?_ NB140_168.out _; refine pk ?_; refine blk_far ?_ NB140_168.out _; refine pk ?_; refine blk_far ?_ NB140_168.out _; refine pk ?_; refine blk_far ?_ NB140_168.out _; refine pk ?_; exact BK140.out⟩, ⟨by refine pk ?_; refine blk_far ?_ NB144_168.out _; refine pk ?_; refine blk_far ?_ NB144_168.out _; refine pk ?_; refine blk_far ?_ NB144_168.out _; refine pk ?_; refine blk_far ?_ NB144_168.out _; refine pk ?_; exact BK144.out⟩, ⟨by refine pk ?_; refine blk_far ?_ NB148_168.out _; refine pk ?_; refine blk_far ?_ NB148_168.out _; refine pk ?_; refine blk_far ?_ NB148_168.out _; refine pk ?_; refine blk_far ?_ NB148_168.out _; refine pk ?_; exact BK148.out⟩, ⟨by refine pk ?_; refine blk_far ?_ NB152_168.out _; refine pk ?_; refine blk_far ?_ NB152_168.out _; refine pk ?_; refine blk_far ?_ NB152_168.out _; refine pk ?_; refine blk_far ?_ NB152_168.out _; refine pk ?_; exact BK152.out⟩, ⟨by refine pk ?_; refine blk_far ?_ NB156_168.out _; refine pk ?_; refine blk_far ?_ NB156_168.out _; refine pk ?_; refine blk_far ?_ NB156_168.out _; refine pk ?_; refine blk_far ?_ NB156_168.out _; refine pk ?_; exact BK156.out⟩, ⟨by refine pk ?_; refine blk_far ?_ NB162_168.out _; refine pk ?_; refine blk_far ?_ NB162_168.out _; refine pk ?_; refine blk_far ?_ NB162_168.out _; refine pk ?_; refine blk_far ?_ NB162_168.out _; refine pk ?_; exact BK162.out⟩, ⟨by refine pk ?_; refine blk_put (cs := #[.int .i64 t163, .int .i64 t164, .int .i64 t165, .int .i64 0]) ?_ 3 _ rfl; refine pk ?_; refine blk_put (cs := #[.int .i64 t163, .int .i64 t164, .int .i64 0, .int .i64 0]) ?_ 2 _ rfl; refine pk ?_; refine blk_put (cs := #[.int .i64 t163, .int .i64 0, .int .i64 0, .int .i64 0]) ?_ 1 _ rfl; refine pk ?_; refine blk_put (cs := #[.int .i64 0, .int .i64 0, .int .i64 0, .int .i64 0]) ?_ 0 _ rfl; refine pk ?_; exact BK168.out⟩, ⟨bk HB.out⟩⟩
            case rest =>
              clear HC71
              try clear c1
              try clear c2
              try clear p2
              try clear c3
              try clear c4
              try clear c5
              try clear c6
              try clear c7
              try clear c8
              try clear c9
              try clear c10
              try clear c12
              try clear c13
              try clear c14
              try clear c16
              try clear c17
              try clear c18
              try clear c23
              try clear c24
              try clear c25
              try clear c30
              try clear c31
              try clear c32
              try clear c33
              try clear c35
              try clear c35b0
              try clear c35b1
              try clear c36
              try clear c36b0
              try clear c36b1
              try clear c37
              try clear c37b0
              try clear c37b1
              try clear c38
              try clear c38b0
              try clear c38b1
              try clear c39
              try clear c41
              try clear c41b0
              try clear c41b1
              try clear c41b2
              try clear c42
              try clear c42b0
              try clear c42b1
              try clear c42b2
              try clear c43
              try clear c44
              try clear c45
              try clear c46
              try clear c48
              try clear c49
              try clear c50
              try clear c52
              try clear c53
              try clear c55
              try clear c56
              try clear c57
              try clear c58
              try clear c60
              try clear c61
              try clear c62
              try clear c64
              try clear c65
              try clear c66
              try clear c67
              try clear c72
              try clear c73
              try clear c74
              try clear c75
              try clear c79
              try clear c80
              try clear c81
              try clear c82
              try clear c83
              try clear c88
              try clear c89
              try clear c90
              try clear c91
              try clear c92
              try clear c93
              try clear c95
              try clear c95b0
              try clear c95b1
              try clear c96
              try clear c96b0
              try clear c96b1
              try clear c97
              try clear c98
              try clear c99
              try clear c100
              try clear c101
              try clear c102
              try clear hcz103_0
              try clear hcz103_1
              try clear hcz103_2
              try clear hcz103_3
              try clear hcz13_0
              try clear hcz13_1
              try clear hcz14_0
              try clear hcz14_1
              try clear hcz14_2
              try clear hcz14_3
              try clear hcz19_0
              try clear hcz19_1
              try clear hcz20_0
              try clear hcz20_1
              try clear hcz20_2
              try clear hcz20_3
              try clear hcz26_0
              try clear hcz26_1
              try clear hcz27_0
              try clear hcz27_1
              try clear hcz27_2
              try clear hcz27_3
              try clear hcz34_0
              try clear hcz34_1
              try clear hcz47_0
              try clear hcz47_1
              try clear hcz51_0
              try clear hcz51_1
              try clear hcz54_0
              try clear hcz54_1
              try clear hcz59_0
              try clear hcz59_1
              try clear hcz63_0
              try clear hcz63_1
              try clear hcz68_0
              try clear hcz68_1
              try clear hcz76_0
              try clear hcz76_1
              try clear hcz76_2
              try clear hcz76_3
              try clear hcz84_0
              try clear hcz84_1
              try clear hcz84_2
              try clear hcz84_3
              try clear hcz85_0
              try clear hcz85_1
              try clear hcz85_2
              try clear hcz85_3
              try clear hcz94_0
              try clear hcz94_1
              try clear hcz94_2
              try clear hcz94_3
              try clear hcz9_0
              try clear hcz9_1
              try clear hcz9_2
              try clear hcz9_3
              try clear hfz103_0
              try clear hfz103_1
              try clear hfz103_2
              try clear hfz103_3
              try clear hfz13_0
              try clear hfz13_1
              try clear hfz14_0
              try clear hfz14_1
              try clear hfz14_2
              try clear hfz14_3
              try clear hfz19_0
              try clear hfz19_1
              try clear hfz20_0
              try clear hfz20_1
              try clear hfz20_2
              try clear hfz20_3
              try clear hfz26_0
              try clear hfz26_1
              try clear hfz27_0
              try clear hfz27_1
              try clear hfz27_2
              try clear hfz27_3
              try clear hfz34_0
              try clear hfz34_1
              try clear hfz47_0
              try clear hfz47_1
              try clear hfz51_0
              try clear hfz51_1
              try clear hfz54_0
              try clear hfz54_1
              try clear hfz59_0
              try clear hfz59_1
              try clear hfz63_0
              try clear hfz63_1
              try clear hfz68_0
              try clear hfz68_1
              try clear hfz76_0
              try clear hfz76_1
              try clear hfz76_2
              try clear hfz76_3
              try clear hfz84_0
              try clear hfz84_1
              try clear hfz84_2
              try clear hfz84_3
              try clear hfz85_0
              try clear hfz85_1
              try clear hfz85_2
              try clear hfz85_3
              try clear hfz94_0
              try clear hfz94_1
              try clear hfz94_2
              try clear hfz94_3
              try clear hfz9_0
              try clear hfz9_1
              try clear hfz9_2
              try clear hfz9_3
              try clear p2
              obtain ⟨kq, x16_70, rfl, HA, HJ70, BK140, BK144, BK148, BK152, BK156, BK162, BK168, HB⟩ := hcut
              cases kq with
              | zero => exact absurd HA.out (by simp [weirgatelaw05_sanity.j2])
              | succ kj70 =>
                have H := HA.out
                clear HA
                simp only [weirgatelaw05_sanity.j2] at H
                obtain ⟨y169, hy169⟩ : ∃ y_ : List (S70), y_ = (([(⟨100, 100000⟩ : S70), (⟨50, (-100000)⟩ : S70)] : List (S70))) := ⟨_, rfl⟩
                replace H : ((clock_Show.f 7 y169 120).bind fun bt172 => (if x11_39 = true then (if x16_70 = true then ((clock_Until.f t135 t136 t137 t138 5023).bind fun t174 => (if t174 = 1010 then ((clock_Until.f t135 t136 t137 t138 5011).bind fun t175 => (if t175 = (-1) then ((clock_Worth.f t135 t136 t137 t138 1005 5023).bind fun t176 => (if t176 = 6 then (if bt172.1 = 135 then (some (bt172.2 == 0)) else (some false)) else (some false))) else (some false))) else (some false))) else (some false)) else (some false))) = some r := by first | (rw [hy169]; with_reducible exact H) | (have H2_ := (Option.bind_some _ _).symm.trans H; rw [hy169]; with_reducible exact H2_) | (have H2_ := (Option.bind_some _ _).symm.trans H; with_reducible exact H2_) | with_reducible exact H | (rw [hy169]; exact H) | exact H
                have Ny169 := Aside0.mk hy169
                clear hy169
                replace H := Option.bind_eq_some_iff.mp H
                obtain ⟨⟨t172, t173⟩, A1040, H⟩ := H
                replace H : (if x11_39 = true then (if x16_70 = true then ((clock_Until.f t135 t136 t137 t138 5023).bind fun t174 => (if t174 = 1010 then ((clock_Until.f t135 t136 t137 t138 5011).bind fun t175 => (if t175 = (-1) then ((clock_Worth.f t135 t136 t137 t138 1005 5023).bind fun t176 => (if t176 = 6 then (if t172 = 135 then (some (t173 == 0)) else (some false)) else (some false))) else (some false))) else (some false))) else (some false)) else (some false)) = some r := H
                have A104 := Aside0.mk A1040
                clear A1040
                by_cases c105 : x11_39 = true
                · subst c105
                  have H1 : (if x16_70 = true then ((clock_Until.f t135 t136 t137 t138 5023).bind fun t174 => (if t174 = 1010 then ((clock_Until.f t135 t136 t137 t138 5011).bind fun t175 => (if t175 = (-1) then ((clock_Worth.f t135 t136 t137 t138 1005 5023).bind fun t176 => (if t176 = 6 then (if t172 = 135 then (some (t173 == 0)) else (some false)) else (some false))) else (some false))) else (some false))) else (some false)) = some r := by rw [if_pos rfl] at H; exact H
                  clear H
                  have H := H1
                  clear H1
                  by_cases c106 : x16_70 = true
                  · subst c106
                    have H1 : ((clock_Until.f t135 t136 t137 t138 5023).bind fun t174 => (if t174 = 1010 then ((clock_Until.f t135 t136 t137 t138 5011).bind fun t175 => (if t175 = (-1) then ((clock_Worth.f t135 t136 t137 t138 1005 5023).bind fun t176 => (if t176 = 6 then (if t172 = 135 then (some (t173 == 0)) else (some false)) else (some false))) else (some false))) else (some false))) = some r := by rw [if_pos rfl] at H; exact H
                    clear H
                    have H := H1
                    clear H1
                    replace H := Option.bind_eq_some_iff.mp H
                    obtain ⟨t174, A1070, H⟩ := H
                    replace H : (if t174 = 1010 then ((clock_Until.f t135 t136 t137 t138 5011).bind fun t175 => (if t175 = (-1) then ((clock_Worth.f t135 t136 t137 t138 1005 5023).bind fun t176 => (if t176 = 6 then (if t172 = 135 then (some (t173 == 0)) else (some false)) else (some false))) else (some false))) else (some false)) = some r := H
                    have A107 := Aside0.mk A1070
                    clear A1070
                    by_cases c108 : t174 = 1010
                    · rw [if_pos c108] at H
                      have c108b0 : (t174 == 1010) = true := beq_iff_eq.mpr c108
                      have c108b1 : (t174 != 1010) = false := bne_eq_false_iff_eq.mpr c108
                      clear c108
                      replace H := Option.bind_eq_some_iff.mp H
                      obtain ⟨t175, A1090, H⟩ := H
                      replace H : (if t175 = (-1) then ((clock_Worth.f t135 t136 t137 t138 1005 5023).bind fun t176 => (if t176 = 6 then (if t172 = 135 then (some (t173 == 0)) else (some false)) else (some false))) else (some false)) = some r := H
                      have A109 := Aside0.mk A1090
                      clear A1090
                      by_cases c110 : t175 = (-1)
                      · rw [if_pos c110] at H
                        have c110b0 : (t175 == (-1)) = true := beq_iff_eq.mpr c110
                        have c110b1 : (t175 != (-1)) = false := bne_eq_false_iff_eq.mpr c110
                        clear c110
                        replace H := Option.bind_eq_some_iff.mp H
                        obtain ⟨t176, A1110, H⟩ := H
                        replace H : (if t176 = 6 then (if t172 = 135 then (some (t173 == 0)) else (some false)) else (some false)) = some r := H
                        have A111 := Aside0.mk A1110
                        clear A1110
                        by_cases c112 : t176 = 6
                        · rw [if_pos c112] at H
                          have c112b0 : (t176 == 6) = true := beq_iff_eq.mpr c112
                          have c112b1 : (t176 != 6) = false := bne_eq_false_iff_eq.mpr c112
                          clear c112
                          by_cases c113 : t172 = 135
                          · rw [if_pos c113] at H
                            have c113b0 : (t172 == 135) = true := beq_iff_eq.mpr c113
                            have c113b1 : (t172 != 135) = false := bne_eq_false_iff_eq.mpr c113
                            clear c113
                            obtain rfl := Option.some.inj H
                            go_wp2_with (first | ((with_reducible refine gate_dst (N := 102) rfl ?_); refine Kd.R_lit k70 _ 70 ?hg (N := 102) ?hd (xs := ([(⟨100, 100000⟩ : S70), (⟨50, (-100000)⟩ : S70)] : List (S70))) (inner := [.int .i64 100, .int .i64 100000, .int .i64 50, .int .i64 (-100000)]) (ok := fun _ => True) (okp := fun _ => True) ?hr ?hp (fun _ hk => hk) trivial (Below.refl _ _) (Nat.le_refl _) (by simp) ?_; (case hd => rfl); (case hg => rfl); (case hr => first | (go_simp; done) | (go_simp; rfl)); (case hp => exact (Reps.c2 (show Kd.M k70 _ _ _ (⟨100, 100000⟩ : S70) [.int .i64 100, .int .i64 100000] from (k70_mkM _ _ _ (⟨100, 100000⟩ : S70) )) (Reps.c2 (show Kd.M k70 _ _ _ (⟨50, (-100000)⟩ : S70) [.int .i64 50, .int .i64 (-100000)] from (k70_mkM _ _ _ (⟨50, (-100000)⟩ : S70) )) (Reps.none _ _)))); intro v170 w114 ho115 hb hg_ hnew_; clear hg_ hnew_; (first | rw [← Ny169.out] at ho115 | (simp only [Int.reduceToNat] at ho115; rw [← Ny169.out] at ho115)); have n0_ := Aside0.mk (Kd.R_lower ho115 (below_size (bk HB.out))); have n1_ := Aside0.mk (blk_below (pk BK140.out) hb); have n2_ := Aside0.mk (blk_below (pk BK144.out) hb); have n3_ := Aside0.mk (blk_below (pk BK148.out) hb); have n4_ := Aside0.mk (blk_below (pk BK152.out) hb); have n5_ := Aside0.mk (blk_below (pk BK156.out) hb); have n6_ := Aside0.mk (blk_below (pk BK162.out) hb); have n7_ := Aside0.mk (blk_below (pk BK168.out) hb); have n8_ := Aside0.mk (below_step (bk HB.out) hb); clear BK140 BK144; clear BK148 BK152; clear BK156 BK162; clear BK168 HB; have HO171 := n0_; have BK140 := n1_; have BK144 := n2_; have BK148 := n3_; have BK152 := n4_; have BK156 := n5_; have BK162 := n6_; have BK168 := n7_; have HB := n8_; clear n0_ n1_ n2_ n3_ n4_ n5_ n6_ n7_ n8_; clear hb ho115; obtain ⟨Ao116, co116, eo116⟩ := Kd.R_slice HO171.out; subst eo116) | ((with_reducible refine gate_callee (f := 26) rfl ?_); refine goesL_ (some 103) rfl rfl Try.func26 (by kernel_rfl) rfl #[.int .i64 7, .slice Ao116 y169.length co116, .int .i64 120] rfl (by (try simp only [List.map_toArray, List.map_cons, List.map_nil]); first | done | rfl | (simp only [List.length_drop, List.length_take]; rfl)) ?_; (with_reducible refine (clock_Show.calls 7 _ _ y169 120 t172 t173 _ ?side1 ?side2 A104.out).mono ?_); (case side1 => repeat (first | exact (Kd.R_reads' HO171.out).2.2 | (with_reducible refine Kd.C_alloc ?_ _) | (with_reducible refine Kd.C_drewN ?_ _) | (with_reducible refine Kd.C_drew ?_))); (case side2 => exact (Kd.R_reads' HO171.out).2.1); rintro e w117 ⟨rfl, hb⟩; refine ⟨_, rfl, ?_⟩; have n0_ := Aside0.mk (Kd.R_below (by (with_reducible repeat (first | apply Kd.R_alloc | apply Kd.R_drewN | apply Kd.R_drew)); exact HO171.out) hb); have n1_ := Aside0.mk (blk_below (pk BK140.out) hb); have n2_ := Aside0.mk (blk_below (pk BK144.out) hb); have n3_ := Aside0.mk (blk_below (pk BK148.out) hb); have n4_ := Aside0.mk (blk_below (pk BK152.out) hb); have n5_ := Aside0.mk (blk_below (pk BK156.out) hb); have n6_ := Aside0.mk (blk_below (pk BK162.out) hb); have n7_ := Aside0.mk (blk_below (pk BK168.out) hb); have n8_ := Aside0.mk (below_step (bk HB.out) hb); clear HO171 BK140; clear BK144 BK148; clear BK152 BK156; clear BK162 BK168 HB; have HO171 := n0_; have BK140 := n1_; have BK144 := n2_; have BK148 := n3_; have BK152 := n4_; have BK156 := n5_; have BK162 := n6_; have BK168 := n7_; have HB := n8_; clear n0_ n1_ n2_ n3_ n4_ n5_ n6_ n7_ n8_; (try clear hb); (try clear hb2); (try clear hk); (try clear hi); have hnb118 := NB140_144.out; have hnc118 := NB144_140.out; have hnb119 := NB140_148.out; have hnc119 := NB148_140.out; have hnb120 := NB140_152.out; have hnc120 := NB152_140.out; have hnb121 := NB140_156.out; have hnc121 := NB156_140.out; have hnb122 := NB140_162.out; have hnc122 := NB162_140.out; have hnb123 := NB140_168.out; have hnc123 := NB168_140.out; have hcz124_0 : w117.cell? ⟨gb140, 0, none⟩ = some (.int .i64 t135) := (blk_cell BK140.out 0).trans rfl; have hcz124_1 : w117.cell? ⟨gb140, 1, none⟩ = some (.int .i64 t136) := (blk_cell BK140.out 1).trans rfl; have hcz124_2 : w117.cell? ⟨gb140, 2, none⟩ = some (.int .i64 t137) := (blk_cell BK140.out 2).trans rfl; have hcz124_3 : w117.cell? ⟨gb140, 3, none⟩ = some (.int .i64 t138) := (blk_cell BK140.out 3).trans rfl; have hfz124_0 := blk_frozen BK140.out 0; have hfz124_1 := blk_frozen BK140.out 1; have hfz124_2 := blk_frozen BK140.out 2; have hfz124_3 := blk_frozen BK140.out 3) | (go_at_call 19; (with_reducible refine (clock_Until.calls t135 t136 t137 t138 5023 t174 _ A107.out).mono ?_); rintro e w125 ⟨rfl, hb⟩; have n0_ := Aside0.mk (Kd.R_below (by (with_reducible repeat (first | apply Kd.R_alloc | apply Kd.R_drewN | apply Kd.R_drew)); exact HO171.out) hb); have n1_ := Aside0.mk (blk_below (pk BK140.out) hb); have n2_ := Aside0.mk (blk_below (pk BK144.out) hb); have n3_ := Aside0.mk (blk_below (pk BK148.out) hb); have n4_ := Aside0.mk (blk_below (pk BK152.out) hb); have n5_ := Aside0.mk (blk_below (pk BK156.out) hb); have n6_ := Aside0.mk (blk_below (pk BK162.out) hb); have n7_ := Aside0.mk (blk_below (pk BK168.out) hb); have n8_ := Aside0.mk (below_step (bk HB.out) hb); clear HO171 BK140; clear BK144 BK148; clear BK152 BK156; clear BK162 BK168 HB; have HO171 := n0_; have BK140 := n1_; have BK144 := n2_; have BK148 := n3_; have BK152 := n4_; have BK156 := n5_; have BK162 := n6_; have BK168 := n7_; have HB := n8_; clear n0_ n1_ n2_ n3_ n4_ n5_ n6_ n7_ n8_; (try clear hb); (try clear hb2); (try clear hk); (try clear hi); have hcz126_0 : w125.cell? ⟨gb140, 0, none⟩ = some (.int .i64 t135) := (blk_cell BK140.out 0).trans rfl; have hcz126_1 : w125.cell? ⟨gb140, 1, none⟩ = some (.int .i64 t136) := (blk_cell BK140.out 1).trans rfl; have hcz126_2 : w125.cell? ⟨gb140, 2, none⟩ = some (.int .i64 t137) := (blk_cell BK140.out 2).trans rfl; have hcz126_3 : w125.cell? ⟨gb140, 3, none⟩ = some (.int .i64 t138) := (blk_cell BK140.out 3).trans rfl; have hfz126_0 := blk_frozen BK140.out 0; have hfz126_1 := blk_frozen BK140.out 1; have hfz126_2 := blk_frozen BK140.out 2; have hfz126_3 := blk_frozen BK140.out 3) | (go_at_call 19; (with_reducible refine (clock_Until.calls t135 t136 t137 t138 5011 t175 _ A109.out).mono ?_); rintro e w127 ⟨rfl, hb⟩; have n0_ := Aside0.mk (Kd.R_below (by (with_reducible repeat (first | apply Kd.R_alloc | apply Kd.R_drewN | apply Kd.R_drew)); exact HO171.out) hb); have n1_ := Aside0.mk (blk_below (pk BK140.out) hb); have n2_ := Aside0.mk (blk_below (pk BK144.out) hb); have n3_ := Aside0.mk (blk_below (pk BK148.out) hb); have n4_ := Aside0.mk (blk_below (pk BK152.out) hb); have n5_ := Aside0.mk (blk_below (pk BK156.out) hb); have n6_ := Aside0.mk (blk_below (pk BK162.out) hb); have n7_ := Aside0.mk (blk_below (pk BK168.out) hb); have n8_ := Aside0.mk (below_step (bk HB.out) hb); clear HO171 BK140; clear BK144 BK148; clear BK152 BK156; clear BK162 BK168 HB; have HO171 := n0_; have BK140 := n1_; have BK144 := n2_; have BK148 := n3_; have BK152 := n4_; have BK156 := n5_; have BK162 := n6_; have BK168 := n7_; have HB := n8_; clear n0_ n1_ n2_ n3_ n4_ n5_ n6_ n7_ n8_; (try clear hb); (try clear hb2); (try clear hk); (try clear hi); have hcz128_0 : w127.cell? ⟨gb140, 0, none⟩ = some (.int .i64 t135) := (blk_cell BK140.out 0).trans rfl; have hcz128_1 : w127.cell? ⟨gb140, 1, none⟩ = some (.int .i64 t136) := (blk_cell BK140.out 1).trans rfl; have hcz128_2 : w127.cell? ⟨gb140, 2, none⟩ = some (.int .i64 t137) := (blk_cell BK140.out 2).trans rfl; have hcz128_3 : w127.cell? ⟨gb140, 3, none⟩ = some (.int .i64 t138) := (blk_cell BK140.out 3).trans rfl; have hfz128_0 := blk_frozen BK140.out 0; have hfz128_1 := blk_frozen BK140.out 1; have hfz128_2 := blk_frozen BK140.out 2; have hfz128_3 := blk_frozen BK140.out 3) | (go_at_call 21; (with_reducible refine (clock_Worth.calls t135 t136 t137 t138 1005 5023 t176 _ A111.out).mono ?_); rintro e w129 ⟨rfl, hb⟩; have n0_ := Aside0.mk (Kd.R_below (by (with_reducible repeat (first | apply Kd.R_alloc | apply Kd.R_drewN | apply Kd.R_drew)); exact HO171.out) hb); have n1_ := Aside0.mk (blk_below (pk BK140.out) hb); have n2_ := Aside0.mk (blk_below (pk BK144.out) hb); have n3_ := Aside0.mk (blk_below (pk BK148.out) hb); have n4_ := Aside0.mk (blk_below (pk BK152.out) hb); have n5_ := Aside0.mk (blk_below (pk BK156.out) hb); have n6_ := Aside0.mk (blk_below (pk BK162.out) hb); have n7_ := Aside0.mk (blk_below (pk BK168.out) hb); have n8_ := Aside0.mk (below_step (bk HB.out) hb); clear HO171 BK140; clear BK144 BK148; clear BK152 BK156; clear BK162 BK168 HB; have HO171 := n0_; have BK140 := n1_; have BK144 := n2_; have BK148 := n3_; have BK152 := n4_; have BK156 := n5_; have BK162 := n6_; have BK168 := n7_; have HB := n8_; clear n0_ n1_ n2_ n3_ n4_ n5_ n6_ n7_ n8_; (try clear hb); (try clear hb2); (try clear hk); (try clear hi)))
                            go_ret
                            exact ⟨by first | rfl | (simp [errW_none, errW_some] <;> rfl) | (simp [*, errW_none, errW_some] <;> rfl), bk HB.out⟩
                          · rw [if_neg c113] at H
                            have c113b0 : (t172 == 135) = false := beq_eq_false_iff_ne.mpr c113
                            have c113b1 : (t172 != 135) = true := bne_iff_ne.mpr c113
                            obtain rfl := Option.some.inj H
                            go_wp2_with (first | ((with_reducible refine gate_dst (N := 102) rfl ?_); refine Kd.R_lit k70 _ 70 ?hg (N := 102) ?hd (xs := ([(⟨100, 100000⟩ : S70), (⟨50, (-100000)⟩ : S70)] : List (S70))) (inner := [.int .i64 100, .int .i64 100000, .int .i64 50, .int .i64 (-100000)]) (ok := fun _ => True) (okp := fun _ => True) ?hr ?hp (fun _ hk => hk) trivial (Below.refl _ _) (Nat.le_refl _) (by simp) ?_; (case hd => rfl); (case hg => rfl); (case hr => first | (go_simp; done) | (go_simp; rfl)); (case hp => exact (Reps.c2 (show Kd.M k70 _ _ _ (⟨100, 100000⟩ : S70) [.int .i64 100, .int .i64 100000] from (k70_mkM _ _ _ (⟨100, 100000⟩ : S70) )) (Reps.c2 (show Kd.M k70 _ _ _ (⟨50, (-100000)⟩ : S70) [.int .i64 50, .int .i64 (-100000)] from (k70_mkM _ _ _ (⟨50, (-100000)⟩ : S70) )) (Reps.none _ _)))); intro v170 w130 ho131 hb hg_ hnew_; clear hg_ hnew_; (first | rw [← Ny169.out] at ho131 | (simp only [Int.reduceToNat] at ho131; rw [← Ny169.out] at ho131)); have n0_ := Aside0.mk (Kd.R_lower ho131 (below_size (bk HB.out))); have n1_ := Aside0.mk (blk_below (pk BK140.out) hb); have n2_ := Aside0.mk (blk_below (pk BK144.out) hb); have n3_ := Aside0.mk (blk_below (pk BK148.out) hb); have n4_ := Aside0.mk (blk_below (pk BK152.out) hb); have n5_ := Aside0.mk (blk_below (pk BK156.out) hb); have n6_ := Aside0.mk (blk_below (pk BK162.out) hb); have n7_ := Aside0.mk (blk_below (pk BK168.out) hb); have n8_ := Aside0.mk (below_step (bk HB.out) hb); clear BK140 BK144; clear BK148 BK152; clear BK156 BK162; clear BK168 HB; have HO171 := n0_; have BK140 := n1_; have BK144 := n2_; have BK148 := n3_; have BK152 := n4_; have BK156 := n5_; have BK162 := n6_; have BK168 := n7_; have HB := n8_; clear n0_ n1_ n2_ n3_ n4_ n5_ n6_ n7_ n8_; clear hb ho131; obtain ⟨Ao132, co132, eo132⟩ := Kd.R_slice HO171.out; subst eo132) | ((with_reducible refine gate_callee (f := 26) rfl ?_); refine goesL_ (some 103) rfl rfl Try.func26 (by kernel_rfl) rfl #[.int .i64 7, .slice Ao132 y169.length co132, .int .i64 120] rfl (by (try simp only [List.map_toArray, List.map_cons, List.map_nil]); first | done | rfl | (simp only [List.length_drop, List.length_take]; rfl)) ?_; (with_reducible refine (clock_Show.calls 7 _ _ y169 120 t172 t173 _ ?side1 ?side2 A104.out).mono ?_); (case side1 => repeat (first | exact (Kd.R_reads' HO171.out).2.2 | (with_reducible refine Kd.C_alloc ?_ _) | (with_reducible refine Kd.C_drewN ?_ _) | (with_reducible refine Kd.C_drew ?_))); (case side2 => exact (Kd.R_reads' HO171.out).2.1); rintro e w133 ⟨rfl, hb⟩; refine ⟨_, rfl, ?_⟩; have n0_ := Aside0.mk (Kd.R_below (by (with_reducible repeat (first | apply Kd.R_alloc | apply Kd.R_drewN | apply Kd.R_drew)); exact HO171.out) hb); have n1_ := Aside0.mk (blk_below (pk BK140.out) hb); have n2_ := Aside0.mk (blk_below (pk BK144.out) hb); have n3_ := Aside0.mk (blk_below (pk BK148.out) hb); have n4_ := Aside0.mk (blk_below (pk BK152.out) hb); have n5_ := Aside0.mk (blk_below (pk BK156.out) hb); have n6_ := Aside0.mk (blk_below (pk BK162.out) hb); have n7_ := Aside0.mk (blk_below (pk BK168.out) hb); have n8_ := Aside0.mk (below_step (bk HB.out) hb); clear HO171 BK140; clear BK144 BK148; clear BK152 BK156; clear BK162 BK168 HB; have HO171 := n0_; have BK140 := n1_; have BK144 := n2_; have BK148 := n3_; have BK152 := n4_; have BK156 := n5_; have BK162 := n6_; have BK168 := n7_; have HB := n8_; clear n0_ n1_ n2_ n3_ n4_ n5_ n6_ n7_ n8_; (try clear hb); (try clear hb2); (try clear hk); (try clear hi); have hnb134 := NB140_144.out; have hnc134 := NB144_140.out; have hnb135 := NB140_148.out; have hnc135 := NB148_140.out; have hnb136 := NB140_152.out; have hnc136 := NB152_140.out; have hnb137 := NB140_156.out; have hnc137 := NB156_140.out; have hnb138 := NB140_162.out; have hnc138 := NB162_140.out; have hnb139 := NB140_168.out; have hnc139 := NB168_140.out; have hcz140_0 : w133.cell? ⟨gb140, 0, none⟩ = some (.int .i64 t135) := (blk_cell BK140.out 0).trans rfl; have hcz140_1 : w133.cell? ⟨gb140, 1, none⟩ = some (.int .i64 t136) := (blk_cell BK140.out 1).trans rfl; have hcz140_2 : w133.cell? ⟨gb140, 2, none⟩ = some (.int .i64 t137) := (blk_cell BK140.out 2).trans rfl; have hcz140_3 : w133.cell? ⟨gb140, 3, none⟩ = some (.int .i64 t138) := (blk_cell BK140.out 3).trans rfl; have hfz140_0 := blk_frozen BK140.out 0; have hfz140_1 := blk_frozen BK140.out 1; have hfz140_2 := blk_frozen BK140.out 2; have hfz140_3 := blk_frozen BK140.out 3) | (go_at_call 19; (with_reducible refine (clock_Until.calls t135 t136 t137 t138 5023 t174 _ A107.out).mono ?_); rintro e w141 ⟨rfl, hb⟩; have n0_ := Aside0.mk (Kd.R_below (by (with_reducible repeat (first | apply Kd.R_alloc | apply Kd.R_drewN | apply Kd.R_drew)); exact HO171.out) hb); have n1_ := Aside0.mk (blk_below (pk BK140.out) hb); have n2_ := Aside0.mk (blk_below (pk BK144.out) hb); have n3_ := Aside0.mk (blk_below (pk BK148.out) hb); have n4_ := Aside0.mk (blk_below (pk BK152.out) hb); have n5_ := Aside0.mk (blk_below (pk BK156.out) hb); have n6_ := Aside0.mk (blk_below (pk BK162.out) hb); have n7_ := Aside0.mk (blk_below (pk BK168.out) hb); have n8_ := Aside0.mk (below_step (bk HB.out) hb); clear HO171 BK140; clear BK144 BK148; clear BK152 BK156; clear BK162 BK168 HB; have HO171 := n0_; have BK140 := n1_; have BK144 := n2_; have BK148 := n3_; have BK152 := n4_; have BK156 := n5_; have BK162 := n6_; have BK168 := n7_; have HB := n8_; clear n0_ n1_ n2_ n3_ n4_ n5_ n6_ n7_ n8_; (try clear hb); (try clear hb2); (try clear hk); (try clear hi); have hcz142_0 : w141.cell? ⟨gb140, 0, none⟩ = some (.int .i64 t135) := (blk_cell BK140.out 0).trans rfl; have hcz142_1 : w141.cell? ⟨gb140, 1, none⟩ = some (.int .i64 t136) := (blk_cell BK140.out 1).trans rfl; have hcz142_2 : w141.cell? ⟨gb140, 2, none⟩ = some (.int .i64 t137) := (blk_cell BK140.out 2).trans rfl; have hcz142_3 : w141.cell? ⟨gb140, 3, none⟩ = some (.int .i64 t138) := (blk_cell BK140.out 3).trans rfl; have hfz142_0 := blk_frozen BK140.out 0; have hfz142_1 := blk_frozen BK140.out 1; have hfz142_2 := blk_frozen BK140.out 2; have hfz142_3 := blk_frozen BK140.out 3) | (go_at_call 19; (with_reducible refine (clock_Until.calls t135 t136 t137 t138 5011 t175 _ A109.out).mono ?_); rintro e w143 ⟨rfl, hb⟩; have n0_ := Aside0.mk (Kd.R_below (by (with_reducible repeat (first | apply Kd.R_alloc | apply Kd.R_drewN | apply Kd.R_drew)); exact HO171.out) hb); have n1_ := Aside0.mk (blk_below (pk BK140.out) hb); have n2_ := Aside0.mk (blk_below (pk BK144.out) hb); have n3_ := Aside0.mk (blk_below (pk BK148.out) hb); have n4_ := Aside0.mk (blk_below (pk BK152.out) hb); have n5_ := Aside0.mk (blk_below (pk BK156.out) hb); have n6_ := Aside0.mk (blk_below (pk BK162.out) hb); have n7_ := Aside0.mk (blk_below (pk BK168.out) hb); have n8_ := Aside0.mk (below_step (bk HB.out) hb); clear HO171 BK140; clear BK144 BK148; clear BK152 BK156; clear BK162 BK168 HB; have HO171 := n0_; have BK140 := n1_; have BK144 := n2_; have BK148 := n3_; have BK152 := n4_; have BK156 := n5_; have BK162 := n6_; have BK168 := n7_; have HB := n8_; clear n0_ n1_ n2_ n3_ n4_ n5_ n6_ n7_ n8_; (try clear hb); (try clear hb2); (try clear hk); (try clear hi); have hcz144_0 : w143.cell? ⟨gb140, 0, none⟩ = some (.int .i64 t135) := (blk_cell BK140.out 0).trans rfl; have hcz144_1 : w143.cell? ⟨gb140, 1, none⟩ = some (.int .i64 t136) := (blk_cell BK140.out 1).trans rfl; have hcz144_2 : w143.cell? ⟨gb140, 2, none⟩ = some (.int .i64 t137) := (blk_cell BK140.out 2).trans rfl; have hcz144_3 : w143.cell? ⟨gb140, 3, none⟩ = some (.int .i64 t138) := (blk_cell BK140.out 3).trans rfl; have hfz144_0 := blk_frozen BK140.out 0; have hfz144_1 := blk_frozen BK140.out 1; have hfz144_2 := blk_frozen BK140.out 2; have hfz144_3 := blk_frozen BK140.out 3) | (go_at_call 21; (with_reducible refine (clock_Worth.calls t135 t136 t137 t138 1005 5023 t176 _ A111.out).mono ?_); rintro e w145 ⟨rfl, hb⟩; have n0_ := Aside0.mk (Kd.R_below (by (with_reducible repeat (first | apply Kd.R_alloc | apply Kd.R_drewN | apply Kd.R_drew)); exact HO171.out) hb); have n1_ := Aside0.mk (blk_below (pk BK140.out) hb); have n2_ := Aside0.mk (blk_below (pk BK144.out) hb); have n3_ := Aside0.mk (blk_below (pk BK148.out) hb); have n4_ := Aside0.mk (blk_below (pk BK152.out) hb); have n5_ := Aside0.mk (blk_below (pk BK156.out) hb); have n6_ := Aside0.mk (blk_below (pk BK162.out) hb); have n7_ := Aside0.mk (blk_below (pk BK168.out) hb); have n8_ := Aside0.mk (below_step (bk HB.out) hb); clear HO171 BK140; clear BK144 BK148; clear BK152 BK156; clear BK162 BK168 HB; have HO171 := n0_; have BK140 := n1_; have BK144 := n2_; have BK148 := n3_; have BK152 := n4_; have BK156 := n5_; have BK162 := n6_; have BK168 := n7_; have HB := n8_; clear n0_ n1_ n2_ n3_ n4_ n5_ n6_ n7_ n8_; (try clear hb); (try clear hb2); (try clear hk); (try clear hi)))
                            go_ret
                            exact ⟨by first | rfl | (simp [errW_none, errW_some] <;> rfl) | (simp [*, errW_none, errW_some] <;> rfl), bk HB.out⟩
                        · rw [if_neg c112] at H
                          have c112b0 : (t176 == 6) = false := beq_eq_false_iff_ne.mpr c112
                          have c112b1 : (t176 != 6) = true := bne_iff_ne.mpr c112
                          obtain rfl := Option.some.inj H
                          go_wp2_with (first | ((with_reducible refine gate_dst (N := 102) rfl ?_); refine Kd.R_lit k70 _ 70 ?hg (N := 102) ?hd (xs := ([(⟨100, 100000⟩ : S70), (⟨50, (-100000)⟩ : S70)] : List (S70))) (inner := [.int .i64 100, .int .i64 100000, .int .i64 50, .int .i64 (-100000)]) (ok := fun _ => True) (okp := fun _ => True) ?hr ?hp (fun _ hk => hk) trivial (Below.refl _ _) (Nat.le_refl _) (by simp) ?_; (case hd => rfl); (case hg => rfl); (case hr => first | (go_simp; done) | (go_simp; rfl)); (case hp => exact (Reps.c2 (show Kd.M k70 _ _ _ (⟨100, 100000⟩ : S70) [.int .i64 100, .int .i64 100000] from (k70_mkM _ _ _ (⟨100, 100000⟩ : S70) )) (Reps.c2 (show Kd.M k70 _ _ _ (⟨50, (-100000)⟩ : S70) [.int .i64 50, .int .i64 (-100000)] from (k70_mkM _ _ _ (⟨50, (-100000)⟩ : S70) )) (Reps.none _ _)))); intro v170 w146 ho147 hb hg_ hnew_; clear hg_ hnew_; (first | rw [← Ny169.out] at ho147 | (simp only [Int.reduceToNat] at ho147; rw [← Ny169.out] at ho147)); have n0_ := Aside0.mk (Kd.R_lower ho147 (below_size (bk HB.out))); have n1_ := Aside0.mk (blk_below (pk BK140.out) hb); have n2_ := Aside0.mk (blk_below (pk BK144.out) hb); have n3_ := Aside0.mk (blk_below (pk BK148.out) hb); have n4_ := Aside0.mk (blk_below (pk BK152.out) hb); have n5_ := Aside0.mk (blk_below (pk BK156.out) hb); have n6_ := Aside0.mk (blk_below (pk BK162.out) hb); have n7_ := Aside0.mk (blk_below (pk BK168.out) hb); have n8_ := Aside0.mk (below_step (bk HB.out) hb); clear BK140 BK144; clear BK148 BK152; clear BK156 BK162; clear BK168 HB; have HO171 := n0_; have BK140 := n1_; have BK144 := n2_; have BK148 := n3_; have BK152 := n4_; have BK156 := n5_; have BK162 := n6_; have BK168 := n7_; have HB := n8_; clear n0_ n1_ n2_ n3_ n4_ n5_ n6_ n7_ n8_; clear hb ho147; obtain ⟨Ao148, co148, eo148⟩ := Kd.R_slice HO171.out; subst eo148) | ((with_reducible refine gate_callee (f := 26) rfl ?_); refine goesL_ (some 103) rfl rfl Try.func26 (by kernel_rfl) rfl #[.int .i64 7, .slice Ao148 y169.length co148, .int .i64 120] rfl (by (try simp only [List.map_toArray, List.map_cons, List.map_nil]); first | done | rfl | (simp only [List.length_drop, List.length_take]; rfl)) ?_; (with_reducible refine (clock_Show.calls 7 _ _ y169 120 t172 t173 _ ?side1 ?side2 A104.out).mono ?_); (case side1 => repeat (first | exact (Kd.R_reads' HO171.out).2.2 | (with_reducible refine Kd.C_alloc ?_ _) | (with_reducible refine Kd.C_drewN ?_ _) | (with_reducible refine Kd.C_drew ?_))); (case side2 => exact (Kd.R_reads' HO171.out).2.1); rintro e w149 ⟨rfl, hb⟩; refine ⟨_, rfl, ?_⟩; have n0_ := Aside0.mk (Kd.R_below (by (with_reducible repeat (first | apply Kd.R_alloc | apply Kd.R_drewN | apply Kd.R_drew)); exact HO171.out) hb); have n1_ := Aside0.mk (blk_below (pk BK140.out) hb); have n2_ := Aside0.mk (blk_below (pk BK144.out) hb); have n3_ := Aside0.mk (blk_below (pk BK148.out) hb); have n4_ := Aside0.mk (blk_below (pk BK152.out) hb); have n5_ := Aside0.mk (blk_below (pk BK156.out) hb); have n6_ := Aside0.mk (blk_below (pk BK162.out) hb); have n7_ := Aside0.mk (blk_below (pk BK168.out) hb); have n8_ := Aside0.mk (below_step (bk HB.out) hb); clear HO171 BK140; clear BK144 BK148; clear BK152 BK156; clear BK162 BK168 HB; have HO171 := n0_; have BK140 := n1_; have BK144 := n2_; have BK148 := n3_; have BK152 := n4_; have BK156 := n5_; have BK162 := n6_; have BK168 := n7_; have HB := n8_; clear n0_ n1_ n2_ n3_ n4_ n5_ n6_ n7_ n8_; (try clear hb); (try clear hb2); (try clear hk); (try clear hi); have hnb150 := NB140_144.out; have hnc150 := NB144_140.out; have hnb151 := NB140_148.out; have hnc151 := NB148_140.out; have hnb152 := NB140_152.out; have hnc152 := NB152_140.out; have hnb153 := NB140_156.out; have hnc153 := NB156_140.out; have hnb154 := NB140_162.out; have hnc154 := NB162_140.out; have hnb155 := NB140_168.out; have hnc155 := NB168_140.out; have hcz156_0 : w149.cell? ⟨gb140, 0, none⟩ = some (.int .i64 t135) := (blk_cell BK140.out 0).trans rfl; have hcz156_1 : w149.cell? ⟨gb140, 1, none⟩ = some (.int .i64 t136) := (blk_cell BK140.out 1).trans rfl; have hcz156_2 : w149.cell? ⟨gb140, 2, none⟩ = some (.int .i64 t137) := (blk_cell BK140.out 2).trans rfl; have hcz156_3 : w149.cell? ⟨gb140, 3, none⟩ = some (.int .i64 t138) := (blk_cell BK140.out 3).trans rfl; have hfz156_0 := blk_frozen BK140.out 0; have hfz156_1 := blk_frozen BK140.out 1; have hfz156_2 := blk_frozen BK140.out 2; have hfz156_3 := blk_frozen BK140.out 3) | (go_at_call 19; (with_reducible refine (clock_Until.calls t135 t136 t137 t138 5023 t174 _ A107.out).mono ?_); rintro e w157 ⟨rfl, hb⟩; have n0_ := Aside0.mk (Kd.R_below (by (with_reducible repeat (first | apply Kd.R_alloc | apply Kd.R_drewN | apply Kd.R_drew)); exact HO171.out) hb); have n1_ := Aside0.mk (blk_below (pk BK140.out) hb); have n2_ := Aside0.mk (blk_below (pk BK144.out) hb); have n3_ := Aside0.mk (blk_below (pk BK148.out) hb); have n4_ := Aside0.mk (blk_below (pk BK152.out) hb); have n5_ := Aside0.mk (blk_below (pk BK156.out) hb); have n6_ := Aside0.mk (blk_below (pk BK162.out) hb); have n7_ := Aside0.mk (blk_below (pk BK168.out) hb); have n8_ := Aside0.mk (below_step (bk HB.out) hb); clear HO171 BK140; clear BK144 BK148; clear BK152 BK156; clear BK162 BK168 HB; have HO171 := n0_; have BK140 := n1_; have BK144 := n2_; have BK148 := n3_; have BK152 := n4_; have BK156 := n5_; have BK162 := n6_; have BK168 := n7_; have HB := n8_; clear n0_ n1_ n2_ n3_ n4_ n5_ n6_ n7_ n8_; (try clear hb); (try clear hb2); (try clear hk); (try clear hi); have hcz158_0 : w157.cell? ⟨gb140, 0, none⟩ = some (.int .i64 t135) := (blk_cell BK140.out 0).trans rfl; have hcz158_1 : w157.cell? ⟨gb140, 1, none⟩ = some (.int .i64 t136) := (blk_cell BK140.out 1).trans rfl; have hcz158_2 : w157.cell? ⟨gb140, 2, none⟩ = some (.int .i64 t137) := (blk_cell BK140.out 2).trans rfl; have hcz158_3 : w157.cell? ⟨gb140, 3, none⟩ = some (.int .i64 t138) := (blk_cell BK140.out 3).trans rfl; have hfz158_0 := blk_frozen BK140.out 0; have hfz158_1 := blk_frozen BK140.out 1; have hfz158_2 := blk_frozen BK140.out 2; have hfz158_3 := blk_frozen BK140.out 3) | (go_at_call 19; (with_reducible refine (clock_Until.calls t135 t136 t137 t138 5011 t175 _ A109.out).mono ?_); rintro e w159 ⟨rfl, hb⟩; have n0_ := Aside0.mk (Kd.R_below (by (with_reducible repeat (first | apply Kd.R_alloc | apply Kd.R_drewN | apply Kd.R_drew)); exact HO171.out) hb); have n1_ := Aside0.mk (blk_below (pk BK140.out) hb); have n2_ := Aside0.mk (blk_below (pk BK144.out) hb); have n3_ := Aside0.mk (blk_below (pk BK148.out) hb); have n4_ := Aside0.mk (blk_below (pk BK152.out) hb); have n5_ := Aside0.mk (blk_below (pk BK156.out) hb); have n6_ := Aside0.mk (blk_below (pk BK162.out) hb); have n7_ := Aside0.mk (blk_below (pk BK168.out) hb); have n8_ := Aside0.mk (below_step (bk HB.out) hb); clear HO171 BK140; clear BK144 BK148; clear BK152 BK156; clear BK162 BK168 HB; have HO171 := n0_; have BK140 := n1_; have BK144 := n2_; have BK148 := n3_; have BK152 := n4_; have BK156 := n5_; have BK162 := n6_; have BK168 := n7_; have HB := n8_; clear n0_ n1_ n2_ n3_ n4_ n5_ n6_ n7_ n8_; (try clear hb); (try clear hb2); (try clear hk); (try clear hi); have hcz160_0 : w159.cell? ⟨gb140, 0, none⟩ = some (.int .i64 t135) := (blk_cell BK140.out 0).trans rfl; have hcz160_1 : w159.cell? ⟨gb140, 1, none⟩ = some (.int .i64 t136) := (blk_cell BK140.out 1).trans rfl; have hcz160_2 : w159.cell? ⟨gb140, 2, none⟩ = some (.int .i64 t137) := (blk_cell BK140.out 2).trans rfl; have hcz160_3 : w159.cell? ⟨gb140, 3, none⟩ = some (.int .i64 t138) := (blk_cell BK140.out 3).trans rfl; have hfz160_0 := blk_frozen BK140.out 0; have hfz160_1 := blk_frozen BK140.out 1; have hfz160_2 := blk_frozen BK140.out 2; have hfz160_3 := blk_frozen BK140.out 3) | (go_at_call 21; (with_reducible refine (clock_Worth.calls t135 t136 t137 t138 1005 5023 t176 _ A111.out).mono ?_); rintro e w161 ⟨rfl, hb⟩; have n0_ := Aside0.mk (Kd.R_below (by (with_reducible repeat (first | apply Kd.R_alloc | apply Kd.R_drewN | apply Kd.R_drew)); exact HO171.out) hb); have n1_ := Aside0.mk (blk_below (pk BK140.out) hb); have n2_ := Aside0.mk (blk_below (pk BK144.out) hb); have n3_ := Aside0.mk (blk_below (pk BK148.out) hb); have n4_ := Aside0.mk (blk_below (pk BK152.out) hb); have n5_ := Aside0.mk (blk_below (pk BK156.out) hb); have n6_ := Aside0.mk (blk_below (pk BK162.out) hb); have n7_ := Aside0.mk (blk_below (pk BK168.out) hb); have n8_ := Aside0.mk (below_step (bk HB.out) hb); clear HO171 BK140; clear BK144 BK148; clear BK152 BK156; clear BK162 BK168 HB; have HO171 := n0_; have BK140 := n1_; have BK144 := n2_; have BK148 := n3_; have BK152 := n4_; have BK156 := n5_; have BK162 := n6_; have BK168 := n7_; have HB := n8_; clear n0_ n1_ n2_ n3_ n4_ n5_ n6_ n7_ n8_; (try clear hb); (try clear hb2); (try clear hk); (try clear hi)))
                          go_ret
                          exact ⟨by first | rfl | (simp [errW_none, errW_some] <;> rfl) | (simp [*, errW_none, errW_some] <;> rfl), bk HB.out⟩
                      · rw [if_neg c110] at H
                        have c110b0 : (t175 == (-1)) = false := beq_eq_false_iff_ne.mpr c110
                        have c110b1 : (t175 != (-1)) = true := bne_iff_ne.mpr c110
                        obtain rfl := Option.some.inj H
                        go_wp2_with (first | ((with_reducible refine gate_dst (N := 102) rfl ?_); refine Kd.R_lit k70 _ 70 ?hg (N := 102) ?hd (xs := ([(⟨100, 100000⟩ : S70), (⟨50, (-100000)⟩ : S70)] : List (S70))) (inner := [.int .i64 100, .int .i64 100000, .int .i64 50, .int .i64 (-100000)]) (ok := fun _ => True) (okp := fun _ => True) ?hr ?hp (fun _ hk => hk) trivial (Below.refl _ _) (Nat.le_refl _) (by simp) ?_; (case hd => rfl); (case hg => rfl); (case hr => first | (go_simp; done) | (go_simp; rfl)); (case hp => exact (Reps.c2 (show Kd.M k70 _ _ _ (⟨100, 100000⟩ : S70) [.int .i64 100, .int .i64 100000] from (k70_mkM _ _ _ (⟨100, 100000⟩ : S70) )) (Reps.c2 (show Kd.M k70 _ _ _ (⟨50, (-100000)⟩ : S70) [.int .i64 50, .int .i64 (-100000)] from (k70_mkM _ _ _ (⟨50, (-100000)⟩ : S70) )) (Reps.none _ _)))); intro v170 w162 ho163 hb hg_ hnew_; clear hg_ hnew_; (first | rw [← Ny169.out] at ho163 | (simp only [Int.reduceToNat] at ho163; rw [← Ny169.out] at ho163)); have n0_ := Aside0.mk (Kd.R_lower ho163 (below_size (bk HB.out))); have n1_ := Aside0.mk (blk_below (pk BK140.out) hb); have n2_ := Aside0.mk (blk_below (pk BK144.out) hb); have n3_ := Aside0.mk (blk_below (pk BK148.out) hb); have n4_ := Aside0.mk (blk_below (pk BK152.out) hb); have n5_ := Aside0.mk (blk_below (pk BK156.out) hb); have n6_ := Aside0.mk (blk_below (pk BK162.out) hb); have n7_ := Aside0.mk (blk_below (pk BK168.out) hb); have n8_ := Aside0.mk (below_step (bk HB.out) hb); clear BK140 BK144; clear BK148 BK152; clear BK156 BK162; clear BK168 HB; have HO171 := n0_; have BK140 := n1_; have BK144 := n2_; have BK148 := n3_; have BK152 := n4_; have BK156 := n5_; have BK162 := n6_; have BK168 := n7_; have HB := n8_; clear n0_ n1_ n2_ n3_ n4_ n5_ n6_ n7_ n8_; clear hb ho163; obtain ⟨Ao164, co164, eo164⟩ := Kd.R_slice HO171.out; subst eo164) | ((with_reducible refine gate_callee (f := 26) rfl ?_); refine goesL_ (some 103) rfl rfl Try.func26 (by kernel_rfl) rfl #[.int .i64 7, .slice Ao164 y169.length co164, .int .i64 120] rfl (by (try simp only [List.map_toArray, List.map_cons, List.map_nil]); first | done | rfl | (simp only [List.length_drop, List.length_take]; rfl)) ?_; (with_reducible refine (clock_Show.calls 7 _ _ y169 120 t172 t173 _ ?side1 ?side2 A104.out).mono ?_); (case side1 => repeat (first | exact (Kd.R_reads' HO171.out).2.2 | (with_reducible refine Kd.C_alloc ?_ _) | (with_reducible refine Kd.C_drewN ?_ _) | (with_reducible refine Kd.C_drew ?_))); (case side2 => exact (Kd.R_reads' HO171.out).2.1); rintro e w165 ⟨rfl, hb⟩; refine ⟨_, rfl, ?_⟩; have n0_ := Aside0.mk (Kd.R_below (by (with_reducible repeat (first | apply Kd.R_alloc | apply Kd.R_drewN | apply Kd.R_drew)); exact HO171.out) hb); have n1_ := Aside0.mk (blk_below (pk BK140.out) hb); have n2_ := Aside0.mk (blk_below (pk BK144.out) hb); have n3_ := Aside0.mk (blk_below (pk BK148.out) hb); have n4_ := Aside0.mk (blk_below (pk BK152.out) hb); have n5_ := Aside0.mk (blk_below (pk BK156.out) hb); have n6_ := Aside0.mk (blk_below (pk BK162.out) hb); have n7_ := Aside0.mk (blk_below (pk BK168.out) hb); have n8_ := Aside0.mk (below_step (bk HB.out) hb); clear HO171 BK140; clear BK144 BK148; clear BK152 BK156; clear BK162 BK168 HB; have HO171 := n0_; have BK140 := n1_; have BK144 := n2_; have BK148 := n3_; have BK152 := n4_; have BK156 := n5_; have BK162 := n6_; have BK168 := n7_; have HB := n8_; clear n0_ n1_ n2_ n3_ n4_ n5_ n6_ n7_ n8_; (try clear hb); (try clear hb2); (try clear hk); (try clear hi); have hnb166 := NB140_144.out; have hnc166 := NB144_140.out; have hnb167 := NB140_148.out; have hnc167 := NB148_140.out; have hnb168 := NB140_152.out; have hnc168 := NB152_140.out; have hnb169 := NB140_156.out; have hnc169 := NB156_140.out; have hnb170 := NB140_162.out; have hnc170 := NB162_140.out; have hnb171 := NB140_168.out; have hnc171 := NB168_140.out; have hcz172_0 : w165.cell? ⟨gb140, 0, none⟩ = some (.int .i64 t135) := (blk_cell BK140.out 0).trans rfl; have hcz172_1 : w165.cell? ⟨gb140, 1, none⟩ = some (.int .i64 t136) := (blk_cell BK140.out 1).trans rfl; have hcz172_2 : w165.cell? ⟨gb140, 2, none⟩ = some (.int .i64 t137) := (blk_cell BK140.out 2).trans rfl; have hcz172_3 : w165.cell? ⟨gb140, 3, none⟩ = some (.int .i64 t138) := (blk_cell BK140.out 3).trans rfl; have hfz172_0 := blk_frozen BK140.out 0; have hfz172_1 := blk_frozen BK140.out 1; have hfz172_2 := blk_frozen BK140.out 2; have hfz172_3 := blk_frozen BK140.out 3) | (go_at_call 19; (with_reducible refine (clock_Until.calls t135 t136 t137 t138 5023 t174 _ A107.out).mono ?_); rintro e w173 ⟨rfl, hb⟩; have n0_ := Aside0.mk (Kd.R_below (by (with_reducible repeat (first | apply Kd.R_alloc | apply Kd.R_drewN | apply Kd.R_drew)); exact HO171.out) hb); have n1_ := Aside0.mk (blk_below (pk BK140.out) hb); have n2_ := Aside0.mk (blk_below (pk BK144.out) hb); have n3_ := Aside0.mk (blk_below (pk BK148.out) hb); have n4_ := Aside0.mk (blk_below (pk BK152.out) hb); have n5_ := Aside0.mk (blk_below (pk BK156.out) hb); have n6_ := Aside0.mk (blk_below (pk BK162.out) hb); have n7_ := Aside0.mk (blk_below (pk BK168.out) hb); have n8_ := Aside0.mk (below_step (bk HB.out) hb); clear HO171 BK140; clear BK144 BK148; clear BK152 BK156; clear BK162 BK168 HB; have HO171 := n0_; have BK140 := n1_; have BK144 := n2_; have BK148 := n3_; have BK152 := n4_; have BK156 := n5_; have BK162 := n6_; have BK168 := n7_; have HB := n8_; clear n0_ n1_ n2_ n3_ n4_ n5_ n6_ n7_ n8_; (try clear hb); (try clear hb2); (try clear hk); (try clear hi); have hcz174_0 : w173.cell? ⟨gb140, 0, none⟩ = some (.int .i64 t135) := (blk_cell BK140.out 0).trans rfl; have hcz174_1 : w173.cell? ⟨gb140, 1, none⟩ = some (.int .i64 t136) := (blk_cell BK140.out 1).trans rfl; have hcz174_2 : w173.cell? ⟨gb140, 2, none⟩ = some (.int .i64 t137) := (blk_cell BK140.out 2).trans rfl; have hcz174_3 : w173.cell? ⟨gb140, 3, none⟩ = some (.int .i64 t138) := (blk_cell BK140.out 3).trans rfl; have hfz174_0 := blk_frozen BK140.out 0; have hfz174_1 := blk_frozen BK140.out 1; have hfz174_2 := blk_frozen BK140.out 2; have hfz174_3 := blk_frozen BK140.out 3) | (go_at_call 19; (with_reducible refine (clock_Until.calls t135 t136 t137 t138 5011 t175 _ A109.out).mono ?_); rintro e w175 ⟨rfl, hb⟩; have n0_ := Aside0.mk (Kd.R_below (by (with_reducible repeat (first | apply Kd.R_alloc | apply Kd.R_drewN | apply Kd.R_drew)); exact HO171.out) hb); have n1_ := Aside0.mk (blk_below (pk BK140.out) hb); have n2_ := Aside0.mk (blk_below (pk BK144.out) hb); have n3_ := Aside0.mk (blk_below (pk BK148.out) hb); have n4_ := Aside0.mk (blk_below (pk BK152.out) hb); have n5_ := Aside0.mk (blk_below (pk BK156.out) hb); have n6_ := Aside0.mk (blk_below (pk BK162.out) hb); have n7_ := Aside0.mk (blk_below (pk BK168.out) hb); have n8_ := Aside0.mk (below_step (bk HB.out) hb); clear HO171 BK140; clear BK144 BK148; clear BK152 BK156; clear BK162 BK168 HB; have HO171 := n0_; have BK140 := n1_; have BK144 := n2_; have BK148 := n3_; have BK152 := n4_; have BK156 := n5_; have BK162 := n6_; have BK168 := n7_; have HB := n8_; clear n0_ n1_ n2_ n3_ n4_ n5_ n6_ n7_ n8_; (try clear hb); (try clear hb2); (try clear hk); (try clear hi)))
                        go_ret
                        exact ⟨by first | rfl | (simp [errW_none, errW_some] <;> rfl) | (simp [*, errW_none, errW_some] <;> rfl), bk HB.out⟩
                    · rw [if_neg c108] at H
                      have c108b0 : (t174 == 1010) = false := beq_eq_false_iff_ne.mpr c108
                      have c108b1 : (t174 != 1010) = true := bne_iff_ne.mpr c108
                      obtain rfl := Option.some.inj H
                      go_wp2_with (first | ((with_reducible refine gate_dst (N := 102) rfl ?_); refine Kd.R_lit k70 _ 70 ?hg (N := 102) ?hd (xs := ([(⟨100, 100000⟩ : S70), (⟨50, (-100000)⟩ : S70)] : List (S70))) (inner := [.int .i64 100, .int .i64 100000, .int .i64 50, .int .i64 (-100000)]) (ok := fun _ => True) (okp := fun _ => True) ?hr ?hp (fun _ hk => hk) trivial (Below.refl _ _) (Nat.le_refl _) (by simp) ?_; (case hd => rfl); (case hg => rfl); (case hr => first | (go_simp; done) | (go_simp; rfl)); (case hp => exact (Reps.c2 (show Kd.M k70 _ _ _ (⟨100, 100000⟩ : S70) [.int .i64 100, .int .i64 100000] from (k70_mkM _ _ _ (⟨100, 100000⟩ : S70) )) (Reps.c2 (show Kd.M k70 _ _ _ (⟨50, (-100000)⟩ : S70) [.int .i64 50, .int .i64 (-100000)] from (k70_mkM _ _ _ (⟨50, (-100000)⟩ : S70) )) (Reps.none _ _)))); intro v170 w176 ho177 hb hg_ hnew_; clear hg_ hnew_; (first | rw [← Ny169.out] at ho177 | (simp only [Int.reduceToNat] at ho177; rw [← Ny169.out] at ho177)); have n0_ := Aside0.mk (Kd.R_lower ho177 (below_size (bk HB.out))); have n1_ := Aside0.mk (blk_below (pk BK140.out) hb); have n2_ := Aside0.mk (blk_below (pk BK144.out) hb); have n3_ := Aside0.mk (blk_below (pk BK148.out) hb); have n4_ := Aside0.mk (blk_below (pk BK152.out) hb); have n5_ := Aside0.mk (blk_below (pk BK156.out) hb); have n6_ := Aside0.mk (blk_below (pk BK162.out) hb); have n7_ := Aside0.mk (blk_below (pk BK168.out) hb); have n8_ := Aside0.mk (below_step (bk HB.out) hb); clear BK140 BK144; clear BK148 BK152; clear BK156 BK162; clear BK168 HB; have HO171 := n0_; have BK140 := n1_; have BK144 := n2_; have BK148 := n3_; have BK152 := n4_; have BK156 := n5_; have BK162 := n6_; have BK168 := n7_; have HB := n8_; clear n0_ n1_ n2_ n3_ n4_ n5_ n6_ n7_ n8_; clear hb ho177; obtain ⟨Ao178, co178, eo178⟩ := Kd.R_slice HO171.out; subst eo178) | ((with_reducible refine gate_callee (f := 26) rfl ?_); refine goesL_ (some 103) rfl rfl Try.func26 (by kernel_rfl) rfl #[.int .i64 7, .slice Ao178 y169.length co178, .int .i64 120] rfl (by (try simp only [List.map_toArray, List.map_cons, List.map_nil]); first | done | rfl | (simp only [List.length_drop, List.length_take]; rfl)) ?_; (with_reducible refine (clock_Show.calls 7 _ _ y169 120 t172 t173 _ ?side1 ?side2 A104.out).mono ?_); (case side1 => repeat (first | exact (Kd.R_reads' HO171.out).2.2 | (with_reducible refine Kd.C_alloc ?_ _) | (with_reducible refine Kd.C_drewN ?_ _) | (with_reducible refine Kd.C_drew ?_))); (case side2 => exact (Kd.R_reads' HO171.out).2.1); rintro e w179 ⟨rfl, hb⟩; refine ⟨_, rfl, ?_⟩; have n0_ := Aside0.mk (Kd.R_below (by (with_reducible repeat (first | apply Kd.R_alloc | apply Kd.R_drewN | apply Kd.R_drew)); exact HO171.out) hb); have n1_ := Aside0.mk (blk_below (pk BK140.out) hb); have n2_ := Aside0.mk (blk_below (pk BK144.out) hb); have n3_ := Aside0.mk (blk_below (pk BK148.out) hb); have n4_ := Aside0.mk (blk_below (pk BK152.out) hb); have n5_ := Aside0.mk (blk_below (pk BK156.out) hb); have n6_ := Aside0.mk (blk_below (pk BK162.out) hb); have n7_ := Aside0.mk (blk_below (pk BK168.out) hb); have n8_ := Aside0.mk (below_step (bk HB.out) hb); clear HO171 BK140; clear BK144 BK148; clear BK152 BK156; clear BK162 BK168 HB; have HO171 := n0_; have BK140 := n1_; have BK144 := n2_; have BK148 := n3_; have BK152 := n4_; have BK156 := n5_; have BK162 := n6_; have BK168 := n7_; have HB := n8_; clear n0_ n1_ n2_ n3_ n4_ n5_ n6_ n7_ n8_; (try clear hb); (try clear hb2); (try clear hk); (try clear hi); have hnb180 := NB140_144.out; have hnc180 := NB144_140.out; have hnb181 := NB140_148.out; have hnc181 := NB148_140.out; have hnb182 := NB140_152.out; have hnc182 := NB152_140.out; have hnb183 := NB140_156.out; have hnc183 := NB156_140.out; have hnb184 := NB140_162.out; have hnc184 := NB162_140.out; have hnb185 := NB140_168.out; have hnc185 := NB168_140.out; have hcz186_0 : w179.cell? ⟨gb140, 0, none⟩ = some (.int .i64 t135) := (blk_cell BK140.out 0).trans rfl; have hcz186_1 : w179.cell? ⟨gb140, 1, none⟩ = some (.int .i64 t136) := (blk_cell BK140.out 1).trans rfl; have hcz186_2 : w179.cell? ⟨gb140, 2, none⟩ = some (.int .i64 t137) := (blk_cell BK140.out 2).trans rfl; have hcz186_3 : w179.cell? ⟨gb140, 3, none⟩ = some (.int .i64 t138) := (blk_cell BK140.out 3).trans rfl; have hfz186_0 := blk_frozen BK140.out 0; have hfz186_1 := blk_frozen BK140.out 1; have hfz186_2 := blk_frozen BK140.out 2; have hfz186_3 := blk_frozen BK140.out 3) | (go_at_call 19; (with_reducible refine (clock_Until.calls t135 t136 t137 t138 5023 t174 _ A107.out).mono ?_); rintro e w187 ⟨rfl, hb⟩; have n0_ := Aside0.mk (Kd.R_below (by (with_reducible repeat (first | apply Kd.R_alloc | apply Kd.R_drewN | apply Kd.R_drew)); exact HO171.out) hb); have n1_ := Aside0.mk (blk_below (pk BK140.out) hb); have n2_ := Aside0.mk (blk_below (pk BK144.out) hb); have n3_ := Aside0.mk (blk_below (pk BK148.out) hb); have n4_ := Aside0.mk (blk_below (pk BK152.out) hb); have n5_ := Aside0.mk (blk_below (pk BK156.out) hb); have n6_ := Aside0.mk (blk_below (pk BK162.out) hb); have n7_ := Aside0.mk (blk_below (pk BK168.out) hb); have n8_ := Aside0.mk (below_step (bk HB.out) hb); clear HO171 BK140; clear BK144 BK148; clear BK152 BK156; clear BK162 BK168 HB; have HO171 := n0_; have BK140 := n1_; have BK144 := n2_; have BK148 := n3_; have BK152 := n4_; have BK156 := n5_; have BK162 := n6_; have BK168 := n7_; have HB := n8_; clear n0_ n1_ n2_ n3_ n4_ n5_ n6_ n7_ n8_; (try clear hb); (try clear hb2); (try clear hk); (try clear hi)))
                      go_ret
                      exact ⟨by first | rfl | (simp [errW_none, errW_some] <;> rfl) | (simp [*, errW_none, errW_some] <;> rfl), bk HB.out⟩
                  · replace c106 := Bool.eq_false_iff.mpr c106
                    subst c106
                    have H1 : (some false) = some r := by rw [if_neg (show ¬ (false = true) by decide)] at H; exact H
                    clear H
                    have H := H1
                    clear H1
                    obtain rfl := Option.some.inj H
                    go_wp2_with (first | ((with_reducible refine gate_dst (N := 102) rfl ?_); refine Kd.R_lit k70 _ 70 ?hg (N := 102) ?hd (xs := ([(⟨100, 100000⟩ : S70), (⟨50, (-100000)⟩ : S70)] : List (S70))) (inner := [.int .i64 100, .int .i64 100000, .int .i64 50, .int .i64 (-100000)]) (ok := fun _ => True) (okp := fun _ => True) ?hr ?hp (fun _ hk => hk) trivial (Below.refl _ _) (Nat.le_refl _) (by simp) ?_; (case hd => rfl); (case hg => rfl); (case hr => first | (go_simp; done) | (go_simp; rfl)); (case hp => exact (Reps.c2 (show Kd.M k70 _ _ _ (⟨100, 100000⟩ : S70) [.int .i64 100, .int .i64 100000] from (k70_mkM _ _ _ (⟨100, 100000⟩ : S70) )) (Reps.c2 (show Kd.M k70 _ _ _ (⟨50, (-100000)⟩ : S70) [.int .i64 50, .int .i64 (-100000)] from (k70_mkM _ _ _ (⟨50, (-100000)⟩ : S70) )) (Reps.none _ _)))); intro v170 w188 ho189 hb hg_ hnew_; clear hg_ hnew_; (first | rw [← Ny169.out] at ho189 | (simp only [Int.reduceToNat] at ho189; rw [← Ny169.out] at ho189)); have n0_ := Aside0.mk (Kd.R_lower ho189 (below_size (bk HB.out))); have n1_ := Aside0.mk (blk_below (pk BK140.out) hb); have n2_ := Aside0.mk (blk_below (pk BK144.out) hb); have n3_ := Aside0.mk (blk_below (pk BK148.out) hb); have n4_ := Aside0.mk (blk_below (pk BK152.out) hb); have n5_ := Aside0.mk (blk_below (pk BK156.out) hb); have n6_ := Aside0.mk (blk_below (pk BK162.out) hb); have n7_ := Aside0.mk (blk_below (pk BK168.out) hb); have n8_ := Aside0.mk (below_step (bk HB.out) hb); clear BK140 BK144; clear BK148 BK152; clear BK156 BK162; clear BK168 HB; have HO171 := n0_; have BK140 := n1_; have BK144 := n2_; have BK148 := n3_; have BK152 := n4_; have BK156 := n5_; have BK162 := n6_; have BK168 := n7_; have HB := n8_; clear n0_ n1_ n2_ n3_ n4_ n5_ n6_ n7_ n8_; clear hb ho189; obtain ⟨Ao190, co190, eo190⟩ := Kd.R_slice HO171.out; subst eo190) | ((with_reducible refine gate_callee (f := 26) rfl ?_); refine goesL_ (some 103) rfl rfl Try.func26 (by kernel_rfl) rfl #[.int .i64 7, .slice Ao190 y169.length co190, .int .i64 120] rfl (by (try simp only [List.map_toArray, List.map_cons, List.map_nil]); first | done | rfl | (simp only [List.length_drop, List.length_take]; rfl)) ?_; (with_reducible refine (clock_Show.calls 7 _ _ y169 120 t172 t173 _ ?side1 ?side2 A104.out).mono ?_); (case side1 => repeat (first | exact (Kd.R_reads' HO171.out).2.2 | (with_reducible refine Kd.C_alloc ?_ _) | (with_reducible refine Kd.C_drewN ?_ _) | (with_reducible refine Kd.C_drew ?_))); (case side2 => exact (Kd.R_reads' HO171.out).2.1); rintro e w191 ⟨rfl, hb⟩; refine ⟨_, rfl, ?_⟩; have n0_ := Aside0.mk (Kd.R_below (by (with_reducible repeat (first | apply Kd.R_alloc | apply Kd.R_drewN | apply Kd.R_drew)); exact HO171.out) hb); have n1_ := Aside0.mk (blk_below (pk BK140.out) hb); have n2_ := Aside0.mk (blk_below (pk BK144.out) hb); have n3_ := Aside0.mk (blk_below (pk BK148.out) hb); have n4_ := Aside0.mk (blk_below (pk BK152.out) hb); have n5_ := Aside0.mk (blk_below (pk BK156.out) hb); have n6_ := Aside0.mk (blk_below (pk BK162.out) hb); have n7_ := Aside0.mk (blk_below (pk BK168.out) hb); have n8_ := Aside0.mk (below_step (bk HB.out) hb); clear HO171 BK140; clear BK144 BK148; clear BK152 BK156; clear BK162 BK168 HB; have HO171 := n0_; have BK140 := n1_; have BK144 := n2_; have BK148 := n3_; have BK152 := n4_; have BK156 := n5_; have BK162 := n6_; have BK168 := n7_; have HB := n8_; clear n0_ n1_ n2_ n3_ n4_ n5_ n6_ n7_ n8_; (try clear hb); (try clear hb2); (try clear hk); (try clear hi)))
                    go_ret
                    exact ⟨by first | rfl | (simp [errW_none, errW_some] <;> rfl) | (simp [*, errW_none, errW_some] <;> rfl), bk HB.out⟩
                · replace c105 := Bool.eq_false_iff.mpr c105
                  subst c105
                  have H1 : (some false) = some r := by rw [if_neg (show ¬ (false = true) by decide)] at H; exact H
                  clear H
                  have H := H1
                  clear H1
                  obtain rfl := Option.some.inj H
                  go_wp2_with (first | ((with_reducible refine gate_dst (N := 102) rfl ?_); refine Kd.R_lit k70 _ 70 ?hg (N := 102) ?hd (xs := ([(⟨100, 100000⟩ : S70), (⟨50, (-100000)⟩ : S70)] : List (S70))) (inner := [.int .i64 100, .int .i64 100000, .int .i64 50, .int .i64 (-100000)]) (ok := fun _ => True) (okp := fun _ => True) ?hr ?hp (fun _ hk => hk) trivial (Below.refl _ _) (Nat.le_refl _) (by simp) ?_; (case hd => rfl); (case hg => rfl); (case hr => first | (go_simp; done) | (go_simp; rfl)); (case hp => exact (Reps.c2 (show Kd.M k70 _ _ _ (⟨100, 100000⟩ : S70) [.int .i64 100, .int .i64 100000] from (k70_mkM _ _ _ (⟨100, 100000⟩ : S70) )) (Reps.c2 (show Kd.M k70 _ _ _ (⟨50, (-100000)⟩ : S70) [.int .i64 50, .int .i64 (-100000)] from (k70_mkM _ _ _ (⟨50, (-100000)⟩ : S70) )) (Reps.none _ _)))); intro v170 w192 ho193 hb hg_ hnew_; clear hg_ hnew_; (first | rw [← Ny169.out] at ho193 | (simp only [Int.reduceToNat] at ho193; rw [← Ny169.out] at ho193)); have n0_ := Aside0.mk (Kd.R_lower ho193 (below_size (bk HB.out))); have n1_ := Aside0.mk (blk_below (pk BK140.out) hb); have n2_ := Aside0.mk (blk_below (pk BK144.out) hb); have n3_ := Aside0.mk (blk_below (pk BK148.out) hb); have n4_ := Aside0.mk (blk_below (pk BK152.out) hb); have n5_ := Aside0.mk (blk_below (pk BK156.out) hb); have n6_ := Aside0.mk (blk_below (pk BK162.out) hb); have n7_ := Aside0.mk (blk_below (pk BK168.out) hb); have n8_ := Aside0.mk (below_step (bk HB.out) hb); clear BK140 BK144; clear BK148 BK152; clear BK156 BK162; clear BK168 HB; have HO171 := n0_; have BK140 := n1_; have BK144 := n2_; have BK148 := n3_; have BK152 := n4_; have BK156 := n5_; have BK162 := n6_; have BK168 := n7_; have HB := n8_; clear n0_ n1_ n2_ n3_ n4_ n5_ n6_ n7_ n8_; clear hb ho193; obtain ⟨Ao194, co194, eo194⟩ := Kd.R_slice HO171.out; subst eo194) | ((with_reducible refine gate_callee (f := 26) rfl ?_); refine goesL_ (some 103) rfl rfl Try.func26 (by kernel_rfl) rfl #[.int .i64 7, .slice Ao194 y169.length co194, .int .i64 120] rfl (by (try simp only [List.map_toArray, List.map_cons, List.map_nil]); first | done | rfl | (simp only [List.length_drop, List.length_take]; rfl)) ?_; (with_reducible refine (clock_Show.calls 7 _ _ y169 120 t172 t173 _ ?side1 ?side2 A104.out).mono ?_); (case side1 => repeat (first | exact (Kd.R_reads' HO171.out).2.2 | (with_reducible refine Kd.C_alloc ?_ _) | (with_reducible refine Kd.C_drewN ?_ _) | (with_reducible refine Kd.C_drew ?_))); (case side2 => exact (Kd.R_reads' HO171.out).2.1); rintro e w195 ⟨rfl, hb⟩; refine ⟨_, rfl, ?_⟩; have n0_ := Aside0.mk (Kd.R_below (by (with_reducible repeat (first | apply Kd.R_alloc | apply Kd.R_drewN | apply Kd.R_drew)); exact HO171.out) hb); have n1_ := Aside0.mk (blk_below (pk BK140.out) hb); have n2_ := Aside0.mk (blk_below (pk BK144.out) hb); have n3_ := Aside0.mk (blk_below (pk BK148.out) hb); have n4_ := Aside0.mk (blk_below (pk BK152.out) hb); have n5_ := Aside0.mk (blk_below (pk BK156.out) hb); have n6_ := Aside0.mk (blk_below (pk BK162.out) hb); have n7_ := Aside0.mk (blk_below (pk BK168.out) hb); have n8_ := Aside0.mk (below_step (bk HB.out) hb); clear HO171 BK140; clear BK144 BK148; clear BK152 BK156; clear BK162 BK168 HB; have HO171 := n0_; have BK140 := n1_; have BK144 := n2_; have BK148 := n3_; have BK152 := n4_; have BK156 := n5_; have BK162 := n6_; have BK168 := n7_; have HB := n8_; clear n0_ n1_ n2_ n3_ n4_ n5_ n6_ n7_ n8_; (try clear hb); (try clear hb2); (try clear hk); (try clear hi)))
                  go_ret
                  exact ⟨by first | rfl | (simp [errW_none, errW_some] <;> rfl) | (simp [*, errW_none, errW_some] <;> rfl), bk HB.out⟩

end Go.Proofs.Ytijeiemdhpkklaa.PP
