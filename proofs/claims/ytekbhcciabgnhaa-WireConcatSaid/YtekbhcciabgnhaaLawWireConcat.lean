/- The law WireConcat: every call returns true, and each argument reads afterwards as before. -/
import Derived.Test.YtekbhcciabgnhaaRows
import Derived.Test.YtekbhcciabgnhaaOpen
import Derived.Test.YtekbhcciabgnhaaPP14
import Derived.Test.YtekbhcciabgnhaaPureWireConcat
import Derived.WalkKit
import Derived.ProofKit
import Derived.OpenShut
import Derived.ShutString
import Derived.ChangeOld
import Derived.Below
import Derived.SizedLaws
namespace Go.Proofs.Ytekbhcciabgnhaa.wireConcat
open Go.ChangeShapes Go.WideShapes Go.ChangeAt Go.RowKit Go.Proofs.YtekbhcciabgnhaaO Go.Proofs.YtekbhcciabgnhaaW.PrintWords Go.Proofs.Ytekbhcciabgnhaa.PP
open Go.ChangeMaps (open_string shut_string)
set_option linter.unusedVariables false
theorem own : ownKnob Try.prog.godebug = none := by kernel_rfl
theorem laidOut : laidOutB Try.prog = true := by kernel_rfl
theorem opn9 : Opn Try.prog 9 Kd.string (fun a => a.size ≤ 140737488351232) := fun n => At.string Try.underlying9 n
theorem opn3 : Opn Try.prog 3 (Kd.int .i64) (fun a => (Lit.int .i64 a).wf = true) := fun n => At.int Try.underlying3 n
theorem opn22 : Opn Try.prog 22 (Kd.slice 3 (Kd.int .i64)) (fun x => x.length ≤ 9223372036854775807 ∧ x.length * 8 ≤ 140737488351232 ∧ ∀ y1 ∈ x, (Lit.int .i64 y1).wf = true) := Opn.slice Try.underlying22 (by kernel_rfl) (by kernel_rfl) opn3
set_option maxRecDepth 100000 in
theorem lifted (os : Os) (started : os.Started) (H : Type) (enc : TypeId × Value → H) :
    ReturnsInHanded {} Try.checked os 10 .any (Rows.wireConcatSpec.pre6 enc Try.prog Try.f10 Rows.wireConcatRow.domain false) (Rows.wireConcatSpec.post enc Try.prog Try.f10 false true false false) := by
  refine returnsInHanded_of_change_sized (C := Try.checked) own started (by kernel_rfl) Try.func10
    (ChangeSpec.witness6 (enc := enc) (C := Try.checked) false ⟨#[], #[.string ByteArray.empty, .slice none 0 0], []⟩ 8 (by kernel_rfl) (by kernel_rfl) (by kernel_rfl) (by kernel_rfl)) ?_
  intro W base args ds gs before hval0 hW hcnd hsz0 _
  have hsz : (DataW.weightsEach Try.prog (Try.f10.params.toList ++ Rows.wireConcatSpec.plain.varTypes Try.prog) (ds ++ gs)).all (· ≤ reachBytes) = true := hsz0
  have hval : ∀ (j : Nat) t v, Try.f10.params[j]? = some t → args[j]? = some v → Value.okWide Try.prog W .any base t v := hval0
  have hW' := hW
  obtain ⟨p, q, hA0, hV, rfl, hfz, hnd⟩ := hW
  have hA : DataW.TrodAll enc Try.prog W 0 (fun _ => true) true Try.f10.params.toList args.toList ds p := hA0
  rw [Try.params10] at hA hval hsz
  obtain ⟨v0, vs0, d0, ds0, p0, q0, hargs, rfl, rfl, h0, r0⟩ := trodAll_cons hA
  obtain ⟨v1, vs1, d1, ds1, p1, q1, rfl, rfl, rfl, h1, r1⟩ := trodAll_cons r0
  obtain ⟨rfl, rfl, rfl⟩ := trodAll_nil r1
  obtain rfl : args = #[v0, v1] := by cases args; simp_all
  obtain ⟨rfl, rfl⟩ := trodVars_none hV
  have k0 := h0
  have lt0 : ∀ x ∈ p0, x.block < W.heap.size := by obtain ⟨m, hm⟩ := k0; exact DataW.trod_lt m _ _ _ hm
  obtain ⟨x0, rfl, rfl, rfl, y0⟩ := open_string Try.underlying9 (hval 0 9 v0 rfl rfl) h0
  have g0 : x0.size ≤ 140737488351232 := by
    have z := sized_string hsz (j := 0) (t := 9) rfl rfl
    rw [Array.length_toList] at z
    exact z
  have k1 := h1
  have lt1 : ∀ x ∈ p1, x.block < W.heap.size := by obtain ⟨m, hm⟩ := k1; exact DataW.trod_lt m _ _ _ hm
  obtain ⟨a1, len1, cap1, rfl⟩ := okWide_slice Try.underlying22 (hval 1 22 v1 rfl rfl)
  obtain ⟨x1, ⟨A1, c1, hc1, l1, hr1⟩, g1⟩ : ∃ x, ((Kd.slice 3 (Kd.int .i64))).K W x [.slice a1 len1 cap1] ∧ (x.length ≤ 9223372036854775807 ∧ x.length * 8 ≤ 140737488351232 ∧ ∀ y1 ∈ x, (Lit.int .i64 y1).wf = true) := by obtain ⟨m, hm⟩ := h1; exact opn22 m H enc W _ _ hm (weight_at hsz (j := 1) rfl rfl)
  obtain ⟨rfl, rfl, rfl⟩ : a1 = A1 ∧ len1 = x1.length ∧ cap1 = c1 := by simpa using hc1
  clear hA0 hval0 hsz0 hsz
  obtain ⟨k, hp⟩ := Pure.WireConcat x0 x1 g0 g1
  refine (PP.weirgatelaw01_WireConcat.calls k x0 a1 cap1 x1 true W hr1 l1 hp).mono fun e W' hz => ?_
  obtain ⟨he, bel0⟩ := hz
  have bel : Below W.heap.size W W' := bel0
  subst he
  exact ⟨_, rfl, _, _, _, [], _, [], hW', trodAll_mk1 (shut_bool Try.underlying4 _), (trodAll_cons_mk (shut_string Try.underlying9 y0) (trodAll_cons_mk (Below.trod laidOut (by kernel_rfl) (of_decide_eq_true (by kernel_rfl)) k1 bel lt1) trodAll_mk0)), rfl, bel.frame _, fun h => by cases h⟩
theorem over : Rows.wireConcatRow.holds Try.pinned (OpenSpec.ofChange Rows.wireConcatSpec) :=
  OpenClaim.holds_of_wide 10 Try.f10 rfl rfl rfl rfl rfl rfl rfl ⟨rfl, rfl, rfl, rfl, rfl⟩ rfl rfl rfl rfl rfl (by kernel_rfl) Try.func10 (by kernel_rfl)
    (of_decide_eq_true (by kernel_rfl)) (by unfold Func.isWrapper; first | (rw [if_pos (by decide +kernel)]; kernel_rfl) | (rw [if_neg (by decide +kernel)]; exact ⟨rfl, rfl⟩))
    (fun os started H enc _ => lifted os started H enc)
theorem proved : Rows.WireConcatSaid := over
#print axioms proved
end Go.Proofs.Ytekbhcciabgnhaa.wireConcat
namespace Go.Proofs.Ytekbhcciabgnhaa
/-- The row, under a short name, for the claim. -/
theorem wireConcat_holds : Rows.WireConcatSaid := wireConcat.proved
end Go.Proofs.Ytekbhcciabgnhaa
