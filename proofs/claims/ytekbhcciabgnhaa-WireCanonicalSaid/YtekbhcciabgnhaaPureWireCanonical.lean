/- The statement WireCanonical over numbers and lists alone. -/
import Derived.Test.YtekbhcciabgnhaaPP0
import Derived.Test.YtekbhcciabgnhaaPP14
import Derived.Test.YtekbhcciabgnhaaPureWS
set_option linter.unusedVariables false
namespace Go.Proofs.Ytekbhcciabgnhaa.Pure
open Go.RowKit Go.Proofs.Ytekbhcciabgnhaa.PP Go.Proofs.Ytekbhcciabgnhaa.PureW Go.Proofs.YtekbhcciabgnhaaW.PrintWords Go.Proofs.YtekbhcciabgnhaaW.PrintLast Go.Proofs.YtekbhcciabgnhaaW.PrintMore
theorem can_int {l : List Int} (hb : Bts l) {k : Nat} (hk : 11 ≤ k) : ∃ t, wire_Int.f k (tri 0 (GI l)).1 = some t ∧ weirgatelaw01_consumed.f l t (tri 0 (GI l)).2.1 (tri 0 (GI l)).2.2 = some true := by
  cases e : GI l with
  | error x => exact ⟨_, int_eq (n := 0) ⟨by decide, by decide⟩ (by omega), consumed_err _ _ _ (GI_err e)⟩
  | ok p =>
    obtain ⟨n, u⟩ := p
    obtain ⟨i1, i2, i3, i4, i5⟩ := GI_can hb e
    exact ⟨_, int_eq i1 (by omega), consumed_ok i3 i4⟩
theorem can_str {l : List Int} (hb : Bts l) (hl : l.length ≤ 2000) {k : Nat} (hk : 11 ≤ k) : ∃ t, wire_Bytes.f k (tri (⟨#[]⟩ : ByteArray) (GB l)).1 = some t ∧ weirgatelaw01_consumed.f l t (tri (⟨#[]⟩ : ByteArray) (GB l)).2.1 (tri (⟨#[]⟩ : ByteArray) (GB l)).2.2 = some true := by
  cases e : GB l with
  | error x => exact ⟨_, wire_Bytes_eq (s := ⟨#[]⟩) (Nat.zero_le _) (by omega), consumed_err _ _ _ (GB_err e)⟩
  | ok p =>
    obtain ⟨s, u⟩ := p
    obtain ⟨i1, i2, i3, i4⟩ := GB_can hb e
    have h3 := congrArg List.length i4
    have h4 : (EB s).length = (VI s.size).length + s.size := by unfold EB; rw [List.length_append, bytesOf_length]
    rw [List.length_take] at h3
    exact ⟨_, wire_Bytes_eq (s := s) (by omega) (by omega), consumed_ok i3 i4⟩
theorem GL_err {α : Type} {D : List Int → Except Int (α × Nat)} {least : Nat} (hD : ∀ l e, D l = .error e → e ≠ 0) {l : List Int} {e : Int} (h : GL D least l = .error e) : e ≠ 0 := by
  have hd : ∀ (n : Nat) (l : List Int) (e : Int), dls D n l = .error e → e ≠ 0 := by
    intro n
    induction n with
    | zero => intro l e h; cases h
    | succ n ih =>
      intro l e h
      simp only [dls] at h
      cases e1 : D l with
      | error x => rw [e1] at h; cases h; exact hD _ _ e1
      | ok p =>
        rw [e1] at h
        simp only at h
        cases e2 : dls D n (l.drop p.2) with
        | error x => rw [e2] at h; cases h; exact ih _ _ e2
        | ok q => rw [e2] at h; cases h
  unfold GL at h
  cases e1 : GN least l with
  | error x => rw [e1] at h; cases h; exact GN_err e1
  | ok p =>
    rw [e1] at h
    simp only at h
    cases e2 : dls D p.1 (l.drop p.2) with
    | error x => rw [e2] at h; cases h; exact hd _ _ _ e2
    | ok q => rw [e2] at h; cases h
theorem can_list {α : Type} {V : α → Prop} {E : α → List Int} {D : List Int → Except Int (α × Nat)} {least : Nat} (c : Codec V E D least) (hD : ∀ l e, D l = .error e → e ≠ 0) (hl : 0 < least) (hz : least = 1 ∨ ∀ x, (E x).length = least) (h0 : least = 1 → ∀ e, D [] ≠ .ok e) {l : List Int} (hb : Bts l) (h2 : l.length ≤ 2000) (f : List α → Option (List Int))
    (hf : ∀ xs : List α, (∀ x ∈ xs, V x ∧ (E x).length ≤ 2000) → (xs.flatMap E).length ≤ 2000 → xs.length ≤ 2000 → f xs = some (EL E xs)) : ∃ t, f (tri [] (GL D least l)).1 = some t ∧ weirgatelaw01_consumed.f l t (tri [] (GL D least l)).2.1 (tri [] (GL D least l)).2.2 = some true := by
  cases e : GL D least l with
  | error x => exact ⟨_, hf [] (fun x h => by cases h) (Nat.zero_le _) (Nat.zero_le _), consumed_err _ _ _ (GL_err hD e)⟩
  | ok p =>
    obtain ⟨xs, u⟩ := p
    obtain ⟨i1, i2, i3, i4⟩ := GL_can c hl hz h0 hb e
    have h1 := flat_len c xs i1
    have h5 := (EL_len (E := E) i2).2
    have h3 := congrArg List.length i4
    rw [List.length_take] at h3
    have h4 : xs.length ≤ xs.length * least := Nat.le_mul_of_pos_right _ hl
    refine ⟨_, hf xs (fun x hx => ⟨i1 x hx, ?_⟩) (by omega) (by omega), consumed_ok i3 i4⟩
    have : (E x).length ≤ (xs.flatMap E).length := by
      obtain ⟨a, b, rfl⟩ := List.append_of_mem hx
      simp only [List.flatMap_append, List.flatMap_cons, List.length_append]
      omega
    omega
theorem WireCanonical (x0 : List Int) (g0 : x0.length ≤ 9223372036854775807 ∧ x0.length * 1 ≤ 140737488351232 ∧ ∀ y1 ∈ x0, (Lit.int .u8 y1).wf = true) : ∃ k, weirgatelaw01_WireCanonical.f k x0 = some true := by
  have hb : Bts x0 := fun c hc => wf_u8 (g0.2.2 c hc)
  obtain ⟨m, hm⟩ : ∃ m : Nat, 3000 ≤ m := ⟨3000, by omega⟩
  refine ⟨m, ?_⟩
  unfold weirgatelaw01_WireCanonical.f
  by_cases h : (x0.length : Int) > 2000
  · rw [if_pos h, sanity_at (by omega)]
    rfl
  have hl : LB x0 := by unfold LB; omega
  have hE : ∀ s : ByteArray, (EB s).length = (VI s.size).length + s.size := fun s => by unfold EB; rw [List.length_append, bytesOf_length]
  obtain ⟨t1, a1, b1⟩ := can_int hb (k := m) (by omega)
  obtain ⟨t2, a2, b2⟩ := can_str hb (by omega) (k := m) (by omega)
  obtain ⟨t3, a3, b3⟩ := can_list int_codec (fun _ _ => GI_err) (by omega) (.inl rfl) (fun _ => GI_nil) hb (by omega) (wire_Ints.f m) (fun xs q1 q2 q3 => wire_Ints_eq (fun x hx => (q1 x hx).1) (by omega) (by omega) (by omega))
  obtain ⟨t4, a4, b4⟩ := can_list str_codec (fun _ _ => GB_err) (by omega) (.inl rfl) (fun _ => GB_nil) hb (by omega) (wire_Strings.f m) (fun xs q1 q2 q3 => wire_Strings_eq (fun x hx => by have := (q1 x hx).2; rw [hE] at this; omega) (by omega) (by omega) (by omega))
  obtain ⟨t5, a5, b5⟩ := can_list dig_codec (fun _ _ => GD_err) (by omega) (.inr dl_len) (fun h => by cases h) hb (by omega) (wire_Digests.f m) (fun xs q1 q2 q3 => wire_Digests_eq (fun _ _ => trivial) (by omega) (by omega) (by omega))
  rw [if_neg h, getint_eq hb (by omega) (by omega)]
  simp only [Option.bind_some]
  rw [wire_GetBytes_eq hb hl (by omega)]
  simp only [Option.bind_some]
  rw [wire_GetInts_eq hb hl (by omega)]
  simp only [Option.bind_some]
  rw [wire_GetStrings_eq hb hl (by omega)]
  simp only [Option.bind_some]
  rw [wire_GetDigests_eq hb hl (by omega)]
  simp only [Option.bind_some]
  rw [sanity_at (by omega)]
  simp only [Option.bind_some]
  rw [if_pos trivial, a1]
  simp only [Option.bind_some]
  rw [b1]
  simp only [Option.bind_some]
  rw [if_pos trivial, a2]
  simp only [Option.bind_some]
  rw [b2]
  simp only [Option.bind_some]
  rw [if_pos trivial, a3]
  simp only [Option.bind_some]
  rw [b3]
  simp only [Option.bind_some]
  rw [if_pos trivial, a4]
  simp only [Option.bind_some]
  rw [b4]
  simp only [Option.bind_some]
  rw [if_pos trivial, a5]
  simp only [Option.bind_some]
  rw [b5]
  rfl
end Go.Proofs.Ytekbhcciabgnhaa.Pure
