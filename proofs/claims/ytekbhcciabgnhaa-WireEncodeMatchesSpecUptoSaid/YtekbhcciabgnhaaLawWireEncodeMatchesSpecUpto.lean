/- The law WireEncodeMatchesSpec: every call returns true, and each argument reads afterwards as before. -/
import Derived.Test.YtekbhcciabgnhaaRows
import Derived.Test.YtekbhcciabgnhaaOpen
import Derived.Test.YtekbhcciabgnhaaPP8
import Derived.Test.YtekbhcciabgnhaaPureWireEncodeMatchesSpec
import Derived.WalkKit
import Derived.ProofKit
import Derived.OpenShut
import Derived.ShutString
import Derived.ChangeOld
import Derived.Below
import Derived.SizedLaws
import Derived.Deep.CondSized
import Derived.Test.YtekbhcciabgnhaaBulk
namespace Go.Proofs.Ytekbhcciabgnhaa.wireEncodeMatchesSpecUpto
open Go.ChangeShapes Go.WideShapes Go.ChangeAt Go.RowKit Go.Proofs.YtekbhcciabgnhaaO Go.Proofs.YtekbhcciabgnhaaW.PrintWords Go.Proofs.Ytekbhcciabgnhaa.PP
open Go.ChangeMaps (open_string shut_string)
set_option linter.unusedVariables false
theorem own : ownKnob Try.prog.godebug = none := by kernel_rfl
theorem laidOut : laidOutB Try.prog = true := by kernel_rfl
theorem opn3 : Opn Try.prog 3 (Kd.int .i64) (fun a => (Lit.int .i64 a).wf = true) := fun n => At.int Try.underlying3 n
theorem opn9 : Opn Try.prog 9 Kd.string (fun a => a.size ≤ 140737488351232) := fun n => At.string Try.underlying9 n
theorem opn22 : Opn Try.prog 22 (Kd.slice 3 (Kd.int .i64)) (fun x => x.length ≤ 9223372036854775807 ∧ x.length * 8 ≤ 140737488351232 ∧ ∀ y1 ∈ x, (Lit.int .i64 y1).wf = true) := Opn.slice Try.underlying22 (by kernel_rfl) (by kernel_rfl) opn3
theorem opn23 : Opn Try.prog 23 (Kd.slice 9 Kd.string) (fun x => x.length ≤ 9223372036854775807 ∧ x.length * 16 ≤ 140737488351232 ∧ ∀ y1 ∈ x, y1.size ≤ 140737488351232) := Opn.slice Try.underlying23 (by kernel_rfl) (by kernel_rfl) opn9
theorem opn5 : Opn Try.prog 5 (Kd.int .u8) (fun a => (Lit.int .u8 a).wf = true) := fun n => At.int Try.underlying5 n
theorem opn57 : Opn Try.prog 57 k57 (fun x => ((Lit.int .u8 x.f0).wf = true) ∧ (((Lit.int .u8 x.f1).wf = true) ∧ (((Lit.int .u8 x.f2).wf = true) ∧ (((Lit.int .u8 x.f3).wf = true) ∧ (((Lit.int .u8 x.f4).wf = true) ∧ (((Lit.int .u8 x.f5).wf = true) ∧ (((Lit.int .u8 x.f6).wf = true) ∧ (((Lit.int .u8 x.f7).wf = true) ∧ (((Lit.int .u8 x.f8).wf = true) ∧ (((Lit.int .u8 x.f9).wf = true) ∧ (((Lit.int .u8 x.f10).wf = true) ∧ (((Lit.int .u8 x.f11).wf = true) ∧ (((Lit.int .u8 x.f12).wf = true) ∧ (((Lit.int .u8 x.f13).wf = true) ∧ (((Lit.int .u8 x.f14).wf = true) ∧ ((Lit.int .u8 x.f15).wf = true)))))))))))))))) := Opn.mono (Opn.array (s := 1) Try.underlying57 (by kernel_rfl) rfl (by kernel_rfl) (fun n => FAt.cons rfl (by kernel_rfl) (opn5 n) (FAt.cons rfl (by kernel_rfl) (opn5 n) (FAt.cons rfl (by kernel_rfl) (opn5 n) (FAt.cons rfl (by kernel_rfl) (opn5 n) (FAt.cons rfl (by kernel_rfl) (opn5 n) (FAt.cons rfl (by kernel_rfl) (opn5 n) (FAt.cons rfl (by kernel_rfl) (opn5 n) (FAt.cons rfl (by kernel_rfl) (opn5 n) (FAt.cons rfl (by kernel_rfl) (opn5 n) (FAt.cons rfl (by kernel_rfl) (opn5 n) (FAt.cons rfl (by kernel_rfl) (opn5 n) (FAt.cons rfl (by kernel_rfl) (opn5 n) (FAt.cons rfl (by kernel_rfl) (opn5 n) (FAt.cons rfl (by kernel_rfl) (opn5 n) (FAt.cons rfl (by kernel_rfl) (opn5 n) (FAt.one rfl (by kernel_rfl) (opn5 n))))))))))))))))) (fun x : S57 => (x.f0, x.f1, x.f2, x.f3, x.f4, x.f5, x.f6, x.f7, x.f8, x.f9, x.f10, x.f11, x.f12, x.f13, x.f14, x.f15)) (fun y => ⟨y.1, y.2.1, y.2.2.1, y.2.2.2.1, y.2.2.2.2.1, y.2.2.2.2.2.1, y.2.2.2.2.2.2.1, y.2.2.2.2.2.2.2.1, y.2.2.2.2.2.2.2.2.1, y.2.2.2.2.2.2.2.2.2.1, y.2.2.2.2.2.2.2.2.2.2.1, y.2.2.2.2.2.2.2.2.2.2.2.1, y.2.2.2.2.2.2.2.2.2.2.2.2.1, y.2.2.2.2.2.2.2.2.2.2.2.2.2.1, y.2.2.2.2.2.2.2.2.2.2.2.2.2.2.1, y.2.2.2.2.2.2.2.2.2.2.2.2.2.2.2⟩) (fun _ => rfl)) (fun _ h => h)
theorem opn24 : Opn Try.prog 24 (Kd.slice 57 k57) (fun x => x.length ≤ 9223372036854775807 ∧ x.length * 16 ≤ 140737488351232 ∧ ∀ y1 ∈ x, ((Lit.int .u8 y1.f0).wf = true) ∧ (((Lit.int .u8 y1.f1).wf = true) ∧ (((Lit.int .u8 y1.f2).wf = true) ∧ (((Lit.int .u8 y1.f3).wf = true) ∧ (((Lit.int .u8 y1.f4).wf = true) ∧ (((Lit.int .u8 y1.f5).wf = true) ∧ (((Lit.int .u8 y1.f6).wf = true) ∧ (((Lit.int .u8 y1.f7).wf = true) ∧ (((Lit.int .u8 y1.f8).wf = true) ∧ (((Lit.int .u8 y1.f9).wf = true) ∧ (((Lit.int .u8 y1.f10).wf = true) ∧ (((Lit.int .u8 y1.f11).wf = true) ∧ (((Lit.int .u8 y1.f12).wf = true) ∧ (((Lit.int .u8 y1.f13).wf = true) ∧ (((Lit.int .u8 y1.f14).wf = true) ∧ ((Lit.int .u8 y1.f15).wf = true)))))))))))))))) := Opn.slice Try.underlying24 (by kernel_rfl) (by kernel_rfl) opn57
theorem bk3 : Bk Try.prog 3 (Kd.int .i64) (fun _ => 1) := fun n => BkAt.one n
theorem bk9 : Bk Try.prog 9 Kd.string (fun x => x.size + 1) := fun n => BkAt.string Try.underlying9 n
theorem bk22 : Bk Try.prog 22 (Kd.slice 3 (Kd.int .i64)) (fun x => (msum (fun z0 => 1) x + 1)) := Bk.slice Try.underlying22 (by kernel_rfl) bk3
theorem bk23 : Bk Try.prog 23 (Kd.slice 9 Kd.string) (fun x => (msum (fun z0 => (z0.size + 1)) x + 1)) := Bk.slice Try.underlying23 (by kernel_rfl) bk9
theorem bk57 : Bk Try.prog 57 k57 (fun _ => 1) := fun n => BkAt.one n
theorem bk24 : Bk Try.prog 24 (Kd.slice 57 k57) (fun x => (msum (fun z0 => 1) x + 1)) := Bk.slice Try.underlying24 (by kernel_rfl) bk57
set_option maxRecDepth 100000 in
theorem lifted (os : Os) (started : os.Started) (H : Type) (enc : TypeId × Value → H) (F : Stop.Interp) :
    ReturnsInHanded {} Try.checked os 3 .any ((Rows.OpenSpec.upto Rows.wireEncodeMatchesSpecSpec).pre6 enc Try.prog Try.f3 Rows.wireEncodeMatchesSpecUptoRow.domain false) (((Rows.OpenSpec.upto Rows.wireEncodeMatchesSpecSpec).at F).post enc Try.prog Try.f3 false true false false) := by
  refine returnsInHanded_of_cond_sized (C := Try.checked) (s := Rows.OpenSpec.upto Rows.wireEncodeMatchesSpecSpec) (k := Rows.uptoSmall) rfl own started (by kernel_rfl) Try.func3
    (OpenSpec.witness (enc := enc) (C := Try.checked) (s := Rows.OpenSpec.upto Rows.wireEncodeMatchesSpecSpec) (k := Rows.uptoSmall) rfl false ⟨#[], #[.int .i64 0, .string ByteArray.empty, .slice none 0 0, .slice none 0 0, .slice none 0 0], []⟩ 8 (by kernel_rfl) (by kernel_rfl) (by kernel_rfl) (x := ([.lit (.int .i64 0), .lit (.string []), .nil, .nil, .nil], [], [])) (by kernel_rfl) rfl (by kernel_rfl)) ?_
  intro W base args ds gs before hval0 hW hcnd hk0 hsz0 _
  have hsz : (DataW.weightsEach Try.prog (Try.f3.params.toList ++ Rows.wireEncodeMatchesSpecSpec.plain.varTypes Try.prog) (ds ++ gs)).all (· ≤ reachBytes) = true := hsz0
  have hval : ∀ (j : Nat) t v, Try.f3.params[j]? = some t → args[j]? = some v → Value.okWide Try.prog W .any base t v := hval0
  have hW' := hW
  obtain ⟨p, q, hA0, hV, rfl, hfz, hnd⟩ := hW
  have hA : DataW.TrodAll enc Try.prog W 0 (fun _ => true) true Try.f3.params.toList args.toList ds p := hA0
  rw [Try.params3] at hA hval hsz
  obtain ⟨v0, vs0, d0, ds0, p0, q0, hargs, rfl, rfl, h0, r0⟩ := trodAll_cons hA
  obtain ⟨v1, vs1, d1, ds1, p1, q1, rfl, rfl, rfl, h1, r1⟩ := trodAll_cons r0
  obtain ⟨v2, vs2, d2, ds2, p2, q2, rfl, rfl, rfl, h2, r2⟩ := trodAll_cons r1
  obtain ⟨v3, vs3, d3, ds3, p3, q3, rfl, rfl, rfl, h3, r3⟩ := trodAll_cons r2
  obtain ⟨v4, vs4, d4, ds4, p4, q4, rfl, rfl, rfl, h4, r4⟩ := trodAll_cons r3
  obtain ⟨rfl, rfl, rfl⟩ := trodAll_nil r4
  obtain rfl : args = #[v0, v1, v2, v3, v4] := by cases args; simp_all
  obtain ⟨rfl, rfl⟩ := trodVars_none hV
  have k0 := h0
  have lt0 : ∀ x ∈ p0, x.block < W.heap.size := by obtain ⟨m, hm⟩ := k0; exact DataW.trod_lt m _ _ _ hm
  obtain ⟨x0, rfl, rfl, rfl, g0⟩ := open_int Try.underlying3 (hval 0 3 v0 rfl rfl) h0
  have k1 := h1
  have lt1 : ∀ x ∈ p1, x.block < W.heap.size := by obtain ⟨m, hm⟩ := k1; exact DataW.trod_lt m _ _ _ hm
  obtain ⟨x1, rfl, rfl, rfl, y1⟩ := open_string Try.underlying9 (hval 1 9 v1 rfl rfl) h1
  have g1 : x1.size ≤ 140737488351232 := by
    have z := sized_string hsz (j := 1) (t := 9) rfl rfl
    rw [Array.length_toList] at z
    exact z
  have k2 := h2
  have lt2 : ∀ x ∈ p2, x.block < W.heap.size := by obtain ⟨m, hm⟩ := k2; exact DataW.trod_lt m _ _ _ hm
  obtain ⟨a2, len2, cap2, rfl⟩ := okWide_slice Try.underlying22 (hval 2 22 v2 rfl rfl)
  obtain ⟨x2, ⟨A2, c2, hc2, l2, hr2⟩, g2⟩ : ∃ x, ((Kd.slice 3 (Kd.int .i64))).K W x [.slice a2 len2 cap2] ∧ (x.length ≤ 9223372036854775807 ∧ x.length * 8 ≤ 140737488351232 ∧ ∀ y1 ∈ x, (Lit.int .i64 y1).wf = true) := by obtain ⟨m, hm⟩ := h2; exact opn22 m H enc W _ _ hm (weight_at hsz (j := 2) rfl rfl)
  obtain ⟨rfl, rfl, rfl⟩ : a2 = A2 ∧ len2 = x2.length ∧ cap2 = c2 := by simpa using hc2
  have b2 : (msum (fun z0 => 1) x2 + 1) ≤ Rows.uptoBulk d2 := by obtain ⟨m, hm⟩ := k2; exact bk22 m H enc W _ _ hm x2 ⟨_, _, rfl, l2, hr2⟩
  have k3 := h3
  have lt3 : ∀ x ∈ p3, x.block < W.heap.size := by obtain ⟨m, hm⟩ := k3; exact DataW.trod_lt m _ _ _ hm
  obtain ⟨a3, len3, cap3, rfl⟩ := okWide_slice Try.underlying23 (hval 3 23 v3 rfl rfl)
  obtain ⟨x3, ⟨A3, c3, hc3, l3, hr3⟩, g3⟩ : ∃ x, ((Kd.slice 9 Kd.string)).K W x [.slice a3 len3 cap3] ∧ (x.length ≤ 9223372036854775807 ∧ x.length * 16 ≤ 140737488351232 ∧ ∀ y1 ∈ x, y1.size ≤ 140737488351232) := by obtain ⟨m, hm⟩ := h3; exact opn23 m H enc W _ _ hm (weight_at hsz (j := 3) rfl rfl)
  obtain ⟨rfl, rfl, rfl⟩ : a3 = A3 ∧ len3 = x3.length ∧ cap3 = c3 := by simpa using hc3
  have b3 : (msum (fun z0 => (z0.size + 1)) x3 + 1) ≤ Rows.uptoBulk d3 := by obtain ⟨m, hm⟩ := k3; exact bk23 m H enc W _ _ hm x3 ⟨_, _, rfl, l3, hr3⟩
  have k4 := h4
  have lt4 : ∀ x ∈ p4, x.block < W.heap.size := by obtain ⟨m, hm⟩ := k4; exact DataW.trod_lt m _ _ _ hm
  obtain ⟨a4, len4, cap4, rfl⟩ := okWide_slice Try.underlying24 (hval 4 24 v4 rfl rfl)
  obtain ⟨x4, ⟨A4, c4, hc4, l4, hr4⟩, g4⟩ : ∃ x, ((Kd.slice 57 k57)).K W x [.slice a4 len4 cap4] ∧ (x.length ≤ 9223372036854775807 ∧ x.length * 16 ≤ 140737488351232 ∧ ∀ y1 ∈ x, ((Lit.int .u8 y1.f0).wf = true) ∧ (((Lit.int .u8 y1.f1).wf = true) ∧ (((Lit.int .u8 y1.f2).wf = true) ∧ (((Lit.int .u8 y1.f3).wf = true) ∧ (((Lit.int .u8 y1.f4).wf = true) ∧ (((Lit.int .u8 y1.f5).wf = true) ∧ (((Lit.int .u8 y1.f6).wf = true) ∧ (((Lit.int .u8 y1.f7).wf = true) ∧ (((Lit.int .u8 y1.f8).wf = true) ∧ (((Lit.int .u8 y1.f9).wf = true) ∧ (((Lit.int .u8 y1.f10).wf = true) ∧ (((Lit.int .u8 y1.f11).wf = true) ∧ (((Lit.int .u8 y1.f12).wf = true) ∧ (((Lit.int .u8 y1.f13).wf = true) ∧ (((Lit.int .u8 y1.f14).wf = true) ∧ ((Lit.int .u8 y1.f15).wf = true)))))))))))))))) := by obtain ⟨m, hm⟩ := h4; exact opn24 m H enc W _ _ hm (weight_at hsz (j := 4) rfl rfl)
  obtain ⟨rfl, rfl, rfl⟩ : a4 = A4 ∧ len4 = x4.length ∧ cap4 = c4 := by simpa using hc4
  have b4 : (msum (fun z0 => 1) x4 + 1) ≤ Rows.uptoBulk d4 := by obtain ⟨m, hm⟩ := k4; exact bk24 m H enc W _ _ hm x4 ⟨_, _, rfl, l4, hr4⟩
  have gb : 1 + (x1.size + 1) + (msum (fun z0 => 1) x2 + 1) + (msum (fun z0 => (z0.size + 1)) x3 + 1) + (msum (fun z0 => 1) x4 + 1) ≤ 1048576 := by
    have hq : Rows.uptoBulkAll _ ≤ 1048576 := of_decide_eq_true hk0
    simp only [List.cons_append, List.nil_append, List.append_nil, Rows.uptoBulkAll, Rows.uptoBulk, Array.length_toList] at hq
    have e1 : x1.data.size = x1.size := rfl
    omega
  clear hA0 hval0 hsz0 hsz
  obtain ⟨k, hp⟩ := Pure.WireEncodeMatchesSpec x0 x1 x2 x3 x4 g0 g1 g2 g3 g4 gb
  refine (PP.weirgatelaw01_WireEncodeMatchesSpec.calls k x0 x1 a2 cap2 x2 a3 cap3 x3 a4 cap4 x4 true W hr2 l2 hr3 l3 hr4 l4 hp).mono fun e W' hz => ?_
  obtain ⟨he, bel0⟩ := hz
  have bel : Below W.heap.size W W' := bel0
  subst he
  exact ⟨_, rfl, _, _, _, [], _, [], hW', trodAll_mk1 (shut_bool Try.underlying4 _), (trodAll_cons_mk (shut_int Try.underlying3 g0) (trodAll_cons_mk (shut_string Try.underlying9 y1) (trodAll_cons_mk (Below.trod laidOut (by kernel_rfl) (of_decide_eq_true (by kernel_rfl)) k2 bel lt2) (trodAll_cons_mk (Below.trod laidOut (by kernel_rfl) (of_decide_eq_true (by kernel_rfl)) k3 bel lt3) (trodAll_cons_mk (Below.trod laidOut (by kernel_rfl) (of_decide_eq_true (by kernel_rfl)) k4 bel lt4) trodAll_mk0))))), rfl, bel.frame _, fun h => by cases h⟩
theorem over : Rows.wireEncodeMatchesSpecUptoRow.holds Try.pinned (Rows.OpenSpec.upto Rows.wireEncodeMatchesSpecSpec) :=
  OpenClaim.holds_of_cond 3 Try.f3 rfl rfl rfl rfl rfl rfl rfl ⟨rfl, rfl, rfl, rfl, rfl⟩ rfl rfl rfl rfl rfl (by kernel_rfl) Try.func3 (by kernel_rfl)
    (of_decide_eq_true (by kernel_rfl)) (by unfold Func.isWrapper; first | (rw [if_pos (by decide +kernel)]; kernel_rfl) | (rw [if_neg (by decide +kernel)]; exact ⟨rfl, rfl⟩))
    (fun os started H enc _ F => lifted os started H enc F)
theorem proved : Rows.WireEncodeMatchesSpecUptoSaid := over
#print axioms proved
end Go.Proofs.Ytekbhcciabgnhaa.wireEncodeMatchesSpecUpto
namespace Go.Proofs.Ytekbhcciabgnhaa
/-- The row, under a short name, for the claim. -/
theorem wireEncodeMatchesSpecUpto_holds : Rows.WireEncodeMatchesSpecUptoSaid := wireEncodeMatchesSpecUpto.proved
end Go.Proofs.Ytekbhcciabgnhaa
