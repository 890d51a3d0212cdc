/- The law ClockContainsTrueTime: every call returns true, and each argument reads afterwards as before. -/
import Derived.Test.YtijeiemdhpkklaaRows
import Derived.Test.YtijeiemdhpkklaaOpen
import Derived.Test.YtijeiemdhpkklaaPP14
import Derived.Test.YtijeiemdhpkklaaPureClockContainsTrueTime
import Derived.WalkKit
import Derived.ProofKit
import Derived.OpenShut
import Derived.ShutString
import Derived.ChangeOld
import Derived.Below
import Derived.SizedLaws
namespace Go.Proofs.Ytijeiemdhpkklaa.clockContainsTrueTime
open Go.ChangeShapes Go.WideShapes Go.ChangeAt Go.RowKit Go.Proofs.YtijeiemdhpkklaaO Go.Proofs.YtijeiemdhpkklaaW.PrintWords Go.Proofs.Ytijeiemdhpkklaa.PP
open Go.ChangeMaps (open_string shut_string)
set_option linter.unusedVariables false
theorem own : ownKnob Try.prog.godebug = none := by kernel_rfl
theorem laidOut : laidOutB Try.prog = true := by kernel_rfl
theorem opn3 : Opn Try.prog 3 (Kd.int .i64) (fun a => (Lit.int .i64 a).wf = true) := fun n => At.int Try.underlying3 n
theorem opn70 : Opn Try.prog 70 k70 (fun x => ((Lit.int .i64 x.f0).wf = true) ∧ ((Lit.int .i64 x.f1).wf = true)) := Opn.mono (Opn.struct Try.underlying70 rfl (by kernel_rfl) (fun n => FAt.cons rfl (by kernel_rfl) (opn3 n) (FAt.one rfl (by kernel_rfl) (opn3 n))) (fun x : S70 => (x.f0, x.f1)) (fun y => ⟨y.1, y.2⟩) (fun _ => rfl)) (fun _ h => h)
theorem opn46 : Opn Try.prog 46 (Kd.slice 70 k70) (fun x => x.length ≤ 9223372036854775807 ∧ x.length * 16 ≤ 140737488351232 ∧ ∀ y1 ∈ x, ((Lit.int .i64 y1.f0).wf = true) ∧ ((Lit.int .i64 y1.f1).wf = true)) := Opn.slice Try.underlying46 (by kernel_rfl) (by kernel_rfl) opn70
theorem opn23 : Opn Try.prog 23 k23 (fun x => ((Lit.int .i64 x.f0).wf = true) ∧ ((Lit.int .i64 x.f1).wf = true)) := Opn.mono (Opn.struct Try.underlying23 rfl (by kernel_rfl) (fun n => FAt.cons rfl (by kernel_rfl) (opn3 n) (FAt.one rfl (by kernel_rfl) (opn3 n))) (fun x : S23 => (x.f0, x.f1)) (fun y => ⟨y.1, y.2⟩) (fun _ => rfl)) (fun _ h => h)
theorem opn76 : Opn Try.prog 76 (Kd.int .u32) (fun a => (Lit.int .u32 a).wf = true) := fun n => At.int Try.underlying76 n
theorem opn47 : Opn Try.prog 47 (Kd.slice 76 (Kd.int .u32)) (fun x => x.length ≤ 9223372036854775807 ∧ x.length * 4 ≤ 140737488351232 ∧ ∀ y1 ∈ x, (Lit.int .u32 y1).wf = true) := Opn.slice Try.underlying47 (by kernel_rfl) (by kernel_rfl) opn76
theorem opn77 : Opn Try.prog 77 (Kd.int .u16) (fun a => (Lit.int .u16 a).wf = true) := fun n => At.int Try.underlying77 n
theorem opn48 : Opn Try.prog 48 (Kd.slice 77 (Kd.int .u16)) (fun x => x.length ≤ 9223372036854775807 ∧ x.length * 2 ≤ 140737488351232 ∧ ∀ y1 ∈ x, (Lit.int .u16 y1).wf = true) := Opn.slice Try.underlying48 (by kernel_rfl) (by kernel_rfl) opn77
set_option maxRecDepth 100000 in
theorem lifted (os : Os) (started : os.Started) (H : Type) (enc : TypeId × Value → H) :
    ReturnsInHanded {} Try.checked os 5 .any (Rows.clockContainsTrueTimeSpec.pre6 enc Try.prog Try.f5 Rows.clockContainsTrueTimeRow.domain false) (Rows.clockContainsTrueTimeSpec.post enc Try.prog Try.f5 false true false false) := by
  refine returnsInHanded_of_change_sized (C := Try.checked) own started (by kernel_rfl) Try.func5
    (ChangeSpec.witness6 (enc := enc) (C := Try.checked) false ⟨#[], #[.int .i64 0, .slice none 0 0, .int .i64 0, .agg #[.int .i64 0, .int .i64 0], .int .i64 0, .slice none 0 0, .slice none 0 0], []⟩ 8 (by kernel_rfl) (by kernel_rfl) (by kernel_rfl) (by kernel_rfl)) ?_
  intro W base args ds gs before hval0 hW hcnd hsz0 _
  have hsz : (DataW.weightsEach Try.prog (Try.f5.params.toList ++ Rows.clockContainsTrueTimeSpec.plain.varTypes Try.prog) (ds ++ gs)).all (· ≤ reachBytes) = true := hsz0
  have hval : ∀ (j : Nat) t v, Try.f5.params[j]? = some t → args[j]? = some v → Value.okWide Try.prog W .any base t v := hval0
  have hW' := hW
  obtain ⟨p, q, hA0, hV, rfl, hfz, hnd⟩ := hW
  have hA : DataW.TrodAll enc Try.prog W 0 (fun _ => true) true Try.f5.params.toList args.toList ds p := hA0
  rw [Try.params5] at hA hval hsz
  obtain ⟨v0, vs0, d0, ds0, p0, q0, hargs, rfl, rfl, h0, r0⟩ := trodAll_cons hA
  obtain ⟨v1, vs1, d1, ds1, p1, q1, rfl, rfl, rfl, h1, r1⟩ := trodAll_cons r0
  obtain ⟨v2, vs2, d2, ds2, p2, q2, rfl, rfl, rfl, h2, r2⟩ := trodAll_cons r1
  obtain ⟨v3, vs3, d3, ds3, p3, q3, rfl, rfl, rfl, h3, r3⟩ := trodAll_cons r2
  obtain ⟨v4, vs4, d4, ds4, p4, q4, rfl, rfl, rfl, h4, r4⟩ := trodAll_cons r3
  obtain ⟨v5, vs5, d5, ds5, p5, q5, rfl, rfl, rfl, h5, r5⟩ := trodAll_cons r4
  obtain ⟨v6, vs6, d6, ds6, p6, q6, rfl, rfl, rfl, h6, r6⟩ := trodAll_cons r5
  obtain ⟨rfl, rfl, rfl⟩ := trodAll_nil r6
  obtain rfl : args = #[v0, v1, v2, v3, v4, v5, v6] := by cases args; simp_all
  obtain ⟨rfl, rfl⟩ := trodVars_none hV
  have k0 := h0
  have lt0 : ∀ x ∈ p0, x.block < W.heap.size := by obtain ⟨m, hm⟩ := k0; exact DataW.trod_lt m _ _ _ hm
  obtain ⟨x0, rfl, rfl, rfl, g0⟩ := open_int Try.underlying3 (hval 0 3 v0 rfl rfl) h0
  have k1 := h1
  have lt1 : ∀ x ∈ p1, x.block < W.heap.size := by obtain ⟨m, hm⟩ := k1; exact DataW.trod_lt m _ _ _ hm
  obtain ⟨a1, len1, cap1, rfl⟩ := okWide_slice Try.underlying46 (hval 1 46 v1 rfl rfl)
  obtain ⟨x1, ⟨A1, c1, hc1, l1, hr1⟩, g1⟩ : ∃ x, ((Kd.slice 70 k70)).K W x [.slice a1 len1 cap1] ∧ (x.length ≤ 9223372036854775807 ∧ x.length * 16 ≤ 140737488351232 ∧ ∀ y1 ∈ x, ((Lit.int .i64 y1.f0).wf = true) ∧ ((Lit.int .i64 y1.f1).wf = true)) := by obtain ⟨m, hm⟩ := h1; exact opn46 m H enc W _ _ hm (weight_at hsz (j := 1) rfl rfl)
  obtain ⟨rfl, rfl, rfl⟩ : a1 = A1 ∧ len1 = x1.length ∧ cap1 = c1 := by simpa using hc1
  have k2 := h2
  have lt2 : ∀ x ∈ p2, x.block < W.heap.size := by obtain ⟨m, hm⟩ := k2; exact DataW.trod_lt m _ _ _ hm
  obtain ⟨x2, rfl, rfl, rfl, g2⟩ := open_int Try.underlying3 (hval 2 3 v2 rfl rfl) h2
  have k3 := h3
  have lt3 : ∀ x ∈ p3, x.block < W.heap.size := by obtain ⟨m, hm⟩ := k3; exact DataW.trod_lt m _ _ _ hm
  obtain ⟨cs3, rfl, _⟩ := okWide_struct Try.underlying23 (hval 3 23 v3 rfl rfl)
  obtain ⟨x3, hK3, g3⟩ : ∃ x, (k23).K W x cs3.toList ∧ (((Lit.int .i64 x.f0).wf = true) ∧ ((Lit.int .i64 x.f1).wf = true)) := by obtain ⟨m, hm⟩ := h3; exact opn23 m H enc W _ _ hm (weight_at hsz (j := 3) rfl rfl)
  have hc3 := k23_open hK3
  obtain rfl : cs3 = #[.int .i64 x3.f0, .int .i64 x3.f1] := by have := congrArg List.toArray hc3; simpa using this
  have k4 := h4
  have lt4 : ∀ x ∈ p4, x.block < W.heap.size := by obtain ⟨m, hm⟩ := k4; exact DataW.trod_lt m _ _ _ hm
  obtain ⟨x4, rfl, rfl, rfl, g4⟩ := open_int Try.underlying3 (hval 4 3 v4 rfl rfl) h4
  have k5 := h5
  have lt5 : ∀ x ∈ p5, x.block < W.heap.size := by obtain ⟨m, hm⟩ := k5; exact DataW.trod_lt m _ _ _ hm
  obtain ⟨a5, len5, cap5, rfl⟩ := okWide_slice Try.underlying47 (hval 5 47 v5 rfl rfl)
  obtain ⟨x5, ⟨A5, c5, hc5, l5, hr5⟩, g5⟩ : ∃ x, ((Kd.slice 76 (Kd.int .u32))).K W x [.slice a5 len5 cap5] ∧ (x.length ≤ 9223372036854775807 ∧ x.length * 4 ≤ 140737488351232 ∧ ∀ y1 ∈ x, (Lit.int .u32 y1).wf = true) := by obtain ⟨m, hm⟩ := h5; exact opn47 m H enc W _ _ hm (weight_at hsz (j := 5) rfl rfl)
  obtain ⟨rfl, rfl, rfl⟩ : a5 = A5 ∧ len5 = x5.length ∧ cap5 = c5 := by simpa using hc5
  have k6 := h6
  have lt6 : ∀ x ∈ p6, x.block < W.heap.size := by obtain ⟨m, hm⟩ := k6; exact DataW.trod_lt m _ _ _ hm
  obtain ⟨a6, len6, cap6, rfl⟩ := okWide_slice Try.underlying48 (hval 6 48 v6 rfl rfl)
  obtain ⟨x6, ⟨A6, c6, hc6, l6, hr6⟩, g6⟩ : ∃ x, ((Kd.slice 77 (Kd.int .u16))).K W x [.slice a6 len6 cap6] ∧ (x.length ≤ 9223372036854775807 ∧ x.length * 2 ≤ 140737488351232 ∧ ∀ y1 ∈ x, (Lit.int .u16 y1).wf = true) := by obtain ⟨m, hm⟩ := h6; exact opn48 m H enc W _ _ hm (weight_at hsz (j := 6) rfl rfl)
  obtain ⟨rfl, rfl, rfl⟩ : a6 = A6 ∧ len6 = x6.length ∧ cap6 = c6 := by simpa using hc6
  clear hA0 hval0 hsz0 hsz
  obtain ⟨k, hp⟩ := Pure.ClockContainsTrueTime x0 x1 x2 x3 x4 x5 x6 g0 g1 g2 g3 g4 g5 g6
  refine (PP.weirgatelaw05_ClockContainsTrueTime.calls k x0 a1 cap1 x1 x2 x3.f0 x3.f1 x4 a5 cap5 x5 a6 cap6 x6 true W hr1 l1 hr5 l5 hr6 l6 hp).mono fun e W' hz => ?_
  obtain ⟨he, bel0⟩ := hz
  have bel : Below W.heap.size W W' := bel0
  subst he
  exact ⟨_, rfl, _, _, _, [], _, [], hW', trodAll_mk1 (shut_bool Try.underlying4 _), (trodAll_cons_mk (shut_int Try.underlying3 g0) (trodAll_cons_mk (Below.trod laidOut (by kernel_rfl) (of_decide_eq_true (by kernel_rfl)) k1 bel lt1) (trodAll_cons_mk (shut_int Try.underlying3 g2) (trodAll_cons_mk (Below.trod laidOut (by kernel_rfl) (of_decide_eq_true (by kernel_rfl)) k3 bel lt3) (trodAll_cons_mk (shut_int Try.underlying3 g4) (trodAll_cons_mk (Below.trod laidOut (by kernel_rfl) (of_decide_eq_true (by kernel_rfl)) k5 bel lt5) (trodAll_cons_mk (Below.trod laidOut (by kernel_rfl) (of_decide_eq_true (by kernel_rfl)) k6 bel lt6) trodAll_mk0))))))), rfl, bel.frame _, fun h => by cases h⟩
theorem over : Rows.clockContainsTrueTimeRow.holds Try.pinned (OpenSpec.ofChange Rows.clockContainsTrueTimeSpec) :=
  OpenClaim.holds_of_wide 5 Try.f5 rfl rfl rfl rfl rfl rfl rfl ⟨rfl, rfl, rfl, rfl, rfl⟩ rfl rfl rfl rfl rfl (by kernel_rfl) Try.func5 (by kernel_rfl)
    (of_decide_eq_true (by kernel_rfl)) (by unfold Func.isWrapper; first | (rw [if_pos (by decide +kernel)]; kernel_rfl) | (rw [if_neg (by decide +kernel)]; exact ⟨rfl, rfl⟩))
    (fun os started H enc _ => lifted os started H enc)
theorem proved : Rows.ClockContainsTrueTimeSaid := over
#print axioms proved
end Go.Proofs.Ytijeiemdhpkklaa.clockContainsTrueTime
namespace Go.Proofs.Ytijeiemdhpkklaa
/-- The row, under a short name, for the claim. -/
theorem clockContainsTrueTime_holds : Rows.ClockContainsTrueTimeSaid := clockContainsTrueTime.proved
end Go.Proofs.Ytijeiemdhpkklaa
