import Derived.Test.YtekbhcciabgnhaaPP0
import Derived.Test.YtekbhcciabgnhaaPP1
import Derived.Test.YtekbhcciabgnhaaPP10
import Derived.Test.YtekbhcciabgnhaaPP2
import Derived.Test.YtekbhcciabgnhaaPP3
import Derived.Test.YtekbhcciabgnhaaPP4
import Derived.Test.YtekbhcciabgnhaaPP5
import Derived.Test.YtekbhcciabgnhaaPP7
import Derived.Test.YtekbhcciabgnhaaPP9
import Derived.Test.YtekbhcciabgnhaaPureWE
import Derived.Test.YtekbhcciabgnhaaGDigest
import Derived.Test.YtekbhcciabgnhaaGRefDigests
import Derived.Test.YtekbhcciabgnhaaGRefGetDigests
set_option linter.unusedVariables false
namespace Go.Proofs.Ytekbhcciabgnhaa.PureW
open Go.RowKit Go.Proofs.Ytekbhcciabgnhaa.PP Go.Proofs.YtekbhcciabgnhaaW.PrintWords Go.Proofs.YtekbhcciabgnhaaW.PrintLast

/-! ### An error is not 0 -/
theorem gi_err : ∀ (l : List Int) (k : Nat) (e : Int), gi k l = .error e → e ≠ 0
  | [], k, e, h => by simp [gi] at h; omega
  | c :: r, k, e, h => by
    simp only [gi] at h
    split at h
    · cases h; decide
    · split at h
      · cases h
      · cases e2 : gi (k + 1) r with
        | error x => rw [e2] at h; cases h; exact gi_err r (k + 1) _ e2
        | ok p => rw [e2] at h; cases h
theorem GI_err {l : List Int} {e : Int} (h : GI l = .error e) : e ≠ 0 := by
  unfold GI at h
  cases e2 : gi 0 l with
  | error x => rw [e2] at h; cases h; exact gi_err l 0 _ e2
  | ok p => rw [e2] at h; cases h
theorem GN_err {least : Nat} {l : List Int} {e : Int} (h : GN least l = .error e) : e ≠ 0 := by
  unfold GN at h
  cases e2 : GI l with
  | error x => rw [e2] at h; cases h; exact GI_err e2
  | ok p =>
    obtain ⟨n, u⟩ := p
    rw [e2] at h
    simp only at h
    split at h
    · cases h; decide
    · split at h
      · cases h; decide
      · cases h
theorem GB_err {l : List Int} {e : Int} (h : GB l = .error e) : e ≠ 0 := by
  unfold GB at h
  cases e2 : GN 1 l with
  | error x => rw [e2] at h; cases h; exact GN_err e2
  | ok p => rw [e2] at h; cases h
/-- The results of a decoded length. -/
def triN : Except Int (Nat × Nat) → Int × Int × Int
  | .error e => (0, 0, e)
  | .ok (n, u) => ((n : Int), (u : Int), 0)

def onR {γ β : Type} (F : Int → β) (G : γ → β) : Except Int γ → β
  | .error e => F e
  | .ok p => G p
theorem onR_ok {γ β : Type} {F : Int → β} {G : γ → β} {p : γ} : onR F G (.ok p) = G p := rfl
theorem onR_err {γ β : Type} {F : Int → β} {G : γ → β} {e : Int} : onR F G (.error e) = F e := rfl
theorem bt {α β : Type} {d : α} {r : Except Int (α × Nat)} (A B : α × Int × Int → Option β) (h : ∀ e, r = .error e → e ≠ 0) : ((some (tri d r)).bind fun t => if t.2.2 = 0 then A t else B t) = onR (fun e => B (d, 0, e)) (fun p => A (p.1, (p.2 : Int), 0)) r := by
  cases r with
  | error e => exact if_neg (h e rfl)
  | ok p => rfl
theorem btN {β : Type} {r : Except Int (Nat × Nat)} (A B : Int × Int × Int → Option β) (h : ∀ e, r = .error e → e ≠ 0) : ((some (triN r)).bind fun t => if t.2.2 = 0 then A t else B t) = onR (fun e => B (0, 0, e)) (fun p => A ((p.1 : Int), (p.2 : Int), 0)) r := by
  cases r with
  | error e => exact if_neg (h e rfl)
  | ok p => rfl

/-! ### Digests -/
def GD (l : List Int) : Except Int (S57 × Nat) := if 16 ≤ l.length then .ok (dAt l 0, 16) else .error 10
theorem dl_len (x : S57) : (dl x).length = 16 := rfl
theorem dl_dAt : ∀ {l : List Int}, 16 ≤ l.length → dl (dAt l 0) = l.take 16
  | a0 :: a1 :: a2 :: a3 :: a4 :: a5 :: a6 :: a7 :: a8 :: a9 :: a10 :: a11 :: a12 :: a13 :: a14 :: a15 :: r, _ => rfl
  | [], h => absurd h (by simp)
  | [a0], h => absurd h (by simp)
  | [a0, a1], h => absurd h (by simp)
  | [a0, a1, a2], h => absurd h (by simp)
  | [a0, a1, a2, a3], h => absurd h (by simp)
  | [a0, a1, a2, a3, a4], h => absurd h (by simp)
  | [a0, a1, a2, a3, a4, a5], h => absurd h (by simp)
  | [a0, a1, a2, a3, a4, a5, a6], h => absurd h (by simp)
  | [a0, a1, a2, a3, a4, a5, a6, a7], h => absurd h (by simp)
  | [a0, a1, a2, a3, a4, a5, a6, a7, a8], h => absurd h (by simp)
  | [a0, a1, a2, a3, a4, a5, a6, a7, a8, a9], h => absurd h (by simp)
  | [a0, a1, a2, a3, a4, a5, a6, a7, a8, a9, a10], h => absurd h (by simp)
  | [a0, a1, a2, a3, a4, a5, a6, a7, a8, a9, a10, a11], h => absurd h (by simp)
  | [a0, a1, a2, a3, a4, a5, a6, a7, a8, a9, a10, a11, a12], h => absurd h (by simp)
  | [a0, a1, a2, a3, a4, a5, a6, a7, a8, a9, a10, a11, a12, a13], h => absurd h (by simp)
  | [a0, a1, a2, a3, a4, a5, a6, a7, a8, a9, a10, a11, a12, a13, a14], h => absurd h (by simp)
theorem dAt_dl (x : S57) (t : List Int) : dAt (dl x ++ t) 0 = x := rfl
theorem dl_inj {x y : S57} (h : dl x = dl y) : x = y := by
  have := congrArg (fun l => dAt (l ++ []) 0) h
  simpa only [dAt_dl] using this
theorem dig_codec : Codec (fun x : S57 => Bts (dl x)) dl GD 16 :=
  ⟨fun _ h => h, fun x _ => by rw [dl_len]; omega, fun x t _ => by
    unfold GD
    rw [if_pos (by rw [List.length_append, dl_len]; omega), dAt_dl, dl_len], fun l x u hb hl h => by
    unfold GD at h
    rw [if_pos hl] at h
    cases h
    exact ⟨by rw [dl_dAt hl]; exact fun c hc => hb c (List.mem_of_mem_take hc), hl, dl_dAt hl⟩⟩
theorem GD_err {l : List Int} {e : Int} (h : GD l = .error e) : e ≠ 0 := by
  unfold GD at h
  split at h
  · cases h
  · cases h; decide
theorem Bts_drop {l : List Int} (hb : Bts l) (n : Nat) : Bts (l.drop n) := fun c hc => hb c (List.mem_of_mem_drop hc)
theorem Bts_take {l : List Int} (hb : Bts l) (n : Nat) : Bts (l.take n) := fun c hc => hb c (List.mem_of_mem_take hc)
theorem rd_drop (l : List Int) (a j : Nat) : rd (l.drop a) (j : Int) = rd l ((a + j : Nat) : Int) := by
  unfold rd
  have e : ((a + j : Nat) : Int).toNat = a + j := Int.toNat_natCast _
  rw [e]
  simp [List.getD]
theorem dAt_drop (l : List Int) (a : Nat) : dAt (l.drop a) 0 = dAt l (a : Int) := by
  have e : ∀ j : Nat, rd (l.drop a) (j : Int) = rd l ((a : Int) + (j : Int)) := fun j => by rw [rd_drop]; congr 1
  have e0 := e 0
  rw [show ((0 : Nat) : Int) = 0 from rfl, Int.add_zero] at e0
  unfold dAt
  rw [e0]
  exact congr (congr (congr (congr (congr (congr (congr (congr (congr (congr (congr (congr (congr (congr (congr rfl (e 1)) (e 2)) (e 3)) (e 4)) (e 5)) (e 6)) (e 7)) (e 8)) (e 9)) (e 10)) (e 11)) (e 12)) (e 13)) (e 14)) (e 15)
theorem rdOf_at {α : Type} {d : α} {l : List α} {i : Nat} (h : i < l.length) : rdOf d l (i : Int) = l[i] := by unfold rdOf; simp [List.getD, h]
theorem rdT_at {l : List S57} {i : Nat} (h : i < l.length) : rd_T57 l (i : Int) = l[i] := by unfold rd_T57; simp [List.getD, h]
/-- The most that a sequence of bytes may hold here. -/
abbrev LB (l : List Int) : Prop := l.length ≤ 1099511627776
theorem wire_length_eq {l : List Int} (hb : Bts l) (hl : LB l) {least : Nat} (h0 : 0 < least) {k : Nat} (hk : 31 ≤ k) {q : Int} (hq : q = (least : Int)) : wire_length.f k l q = some (triN (GN least l)) := by
  subst hq
  unfold wire_length.f
  unfold LB at hl
  rw [getint_eq hb (by omega) (by omega), bt _ _ (fun _ h => GI_err h)]
  unfold GN
  cases e : GI l with
  | error x => rfl
  | ok p =>
    obtain ⟨n, u⟩ := p
    obtain ⟨i1, i2, i3, i4, i5⟩ := GI_can hb e
    rw [onR_ok]
    dsimp only
    by_cases c1 : n < 0
    · rw [if_pos c1, if_pos c1]
      rfl
    · have hd : (l.length - u) / least ≤ l.length - u := Nat.div_le_self _ _
      have hd0 : (0 : Int) ≤ (((l.length - u) / least : Nat) : Int) := Int.natCast_nonneg _
      rw [if_neg c1, if_neg c1, if_neg (by omega), wrap64_id (a := (l.length : Int) - u) (by omega) (by omega), Int.tdiv_eq_ediv_of_nonneg (by omega), show ((l.length : Int) - u) = ((l.length - u : Nat) : Int) by omega, ← Int.natCast_ediv, wrap64_id (by omega) (by omega)]
      by_cases c2 : (((l.length - u) / least : Nat) : Int) < n
      · rw [if_pos c2, if_pos c2]
        rfl
      · rw [if_neg c2, if_neg c2]
        show _ = some (((n.toNat : Nat) : Int), (u : Int), (0 : Int))
        rw [Int.toNat_of_nonneg (by omega)]
theorem weirgateref01_length_eq {l : List Int} (hb : Bts l) (hl : LB l) {least : Nat} (h0 : 0 < least) {k : Nat} (hk : 31 ≤ k) {q : Int} (hq : q = (least : Int)) : weirgateref01_length.f k l q = some (triN (GN least l)) := by
  subst hq
  unfold weirgateref01_length.f
  unfold LB at hl
  rw [rgetint_eq hb (by omega) (by omega), bt _ _ (fun _ h => GI_err h)]
  unfold GN
  cases e : GI l with
  | error x => rfl
  | ok p =>
    obtain ⟨n, u⟩ := p
    obtain ⟨i1, i2, i3, i4, i5⟩ := GI_can hb e
    rw [onR_ok]
    dsimp only
    by_cases c1 : n < 0
    · rw [if_pos c1, if_pos c1]
      rfl
    · have hd : (l.length - u) / least ≤ l.length - u := Nat.div_le_self _ _
      have hd0 : (0 : Int) ≤ (((l.length - u) / least : Nat) : Int) := Int.natCast_nonneg _
      rw [if_neg c1, if_neg c1, if_neg (by omega), wrap64_id (a := (l.length : Int) - u) (by omega) (by omega), Int.tdiv_eq_ediv_of_nonneg (by omega), show ((l.length : Int) - u) = ((l.length - u : Nat) : Int) by omega, ← Int.natCast_ediv, wrap64_id (by omega) (by omega)]
      by_cases c2 : (((l.length - u) / least : Nat) : Int) < n
      · rw [if_pos c2, if_pos c2]
        rfl
      · rw [if_neg c2, if_neg c2]
        show _ = some (((n.toNat : Nat) : Int), (u : Int), (0 : Int))
        rw [Int.toNat_of_nonneg (by omega)]
theorem wire_GetBytes_eq {l : List Int} (hb : Bts l) (hl : LB l) {k : Nat} (hk : 31 ≤ k) : wire_GetBytes.f k l = some (tri (⟨#[]⟩ : ByteArray) (GB l)) := by
  unfold wire_GetBytes.f
  rw [wire_length_eq (least := 1) (q := 1) hb hl (by omega) hk rfl, btN _ _ (fun _ h => GN_err h)]
  unfold LB at hl
  unfold GB
  cases e : GN 1 l with
  | error x => rfl
  | ok p =>
    obtain ⟨n, u⟩ := p
    obtain ⟨i1, i2, i3, i4, i5⟩ := GN_can hb (by omega) e
    rw [onR_ok]
    dsimp only
    rw [if_pos (by omega), show ((u : Int) + (n : Int)) = ((u + n : Nat) : Int) by omega, wrap64_id (by omega) (by omega), if_pos (by omega), if_pos (by omega), Int.toNat_natCast, Int.toNat_natCast, List.drop_take, show u + n - u = n by omega]
    rfl
theorem weirgateref01_GetBytes_eq {l : List Int} (hb : Bts l) (hl : LB l) {k : Nat} (hk : 31 ≤ k) : weirgateref01_GetBytes.f k l = some (tri (⟨#[]⟩ : ByteArray) (GB l)) := by
  unfold weirgateref01_GetBytes.f
  unfold LB at hl
  rw [rgetint_eq hb (by omega) (by omega), bt _ _ (fun _ h => GI_err h)]
  unfold GB GN
  cases e : GI l with
  | error x => rfl
  | ok p =>
    obtain ⟨n, u⟩ := p
    obtain ⟨i1, i2, i3, i4, i5⟩ := GI_can hb e
    rw [onR_ok]
    dsimp only
    by_cases c1 : n < 0
    · rw [if_pos c1, if_pos c1]
      rfl
    · rw [if_neg c1, if_neg c1, wrap64_id (a := (l.length : Int) - u) (by omega) (by omega), Nat.div_one]
      by_cases c2 : ((l.length - u : Nat) : Int) < n
      · rw [if_pos (show n > (l.length : Int) - u by omega), if_pos c2]
        rfl
      · obtain ⟨m, rfl⟩ : ∃ m : Nat, n = m := ⟨n.toNat, by omega⟩
        rw [if_neg (show ¬ (m : Int) > (l.length : Int) - u by omega), if_neg c2, if_pos (by omega), show ((u : Int) + (m : Int)) = ((u + m : Nat) : Int) by omega, wrap64_id (by omega) (by omega), if_pos (by omega), if_pos (by omega), Int.toNat_natCast, Int.toNat_natCast, List.drop_take, show u + m - u = m by omega]
        rfl
theorem wire_get_int_l0 (l : List Int) (hb : Bts l) (hl : LB l) : ∀ (r i k at_ : Nat) (acc : List Int), at_ ≤ l.length → acc.length = i → i + r ≤ l.length → r + 40 ≤ k →
    wire_get_int.l0 k l (at_ : Int) acc ((i + r : Nat) : Int) (i : Int) = match dls GI r (l.drop at_) with
      | .error e => some ([], 0, e)
      | .ok (xs, v) => some (acc ++ xs, ((at_ + v : Nat) : Int), 0) := by
  unfold LB at hl
  intro r
  induction r with
  | zero =>
    intro i k at_ acc h1 h2 h3 hk
    obtain ⟨k, rfl⟩ : ∃ m, k = m + 1 := ⟨k - 1, by omega⟩
    simp only [wire_get_int.l0, dls]
    rw [if_neg (by omega)]
    simp
  | succ r ih =>
    intro i k at_ acc h1 h2 h3 hk
    obtain ⟨k, rfl⟩ : ∃ m, k = m + 1 := ⟨k - 1, by omega⟩
    have hdl : (l.drop at_).length = l.length - at_ := List.length_drop
    simp only [wire_get_int.l0, dls]
    rw [if_pos (by omega), if_pos (by omega), if_pos (by omega), Int.toNat_natCast, getint_eq (Bts_drop hb at_) (by omega) (by omega), bt _ _ (fun _ h => GI_err h)]
    cases e : GI (l.drop at_) with
    | error x => rfl
    | ok p =>
      obtain ⟨x, u⟩ := p
      obtain ⟨_, _, hu, _⟩ := GI_can (Bts_drop hb at_) e
      rw [hdl] at hu
      rw [onR_ok]
      dsimp only
      rw [if_pos (by omega), show ((at_ : Int) + (u : Int)) = ((at_ + u : Nat) : Int) by omega, wrap64_id (a := ((at_ + u : Nat) : Int)) (by omega) (by omega), show ((i : Int) + 1) = ((i + 1 : Nat) : Int) by omega, wrap64_id (by omega) (by omega), show i + (r + 1) = i + 1 + r by omega, ih (i + 1) k (at_ + u) (acc ++ [x]) (by omega) (by simp [h2]) (by omega) (by omega), List.drop_drop]
      cases dls GI r (l.drop (at_ + u)) with
      | error x => rfl
      | ok q =>
        obtain ⟨ys, v⟩ := q
        simp [Nat.add_assoc]
theorem wire_get_string_l0 (l : List Int) (hb : Bts l) (hl : LB l) : ∀ (r i k at_ : Nat) (acc : List ByteArray), at_ ≤ l.length → acc.length = i → i + r ≤ l.length → r + 40 ≤ k →
    wire_get_string.l0 k l (at_ : Int) acc ((i + r : Nat) : Int) (i : Int) = match dls GB r (l.drop at_) with
      | .error e => some ([], 0, e)
      | .ok (xs, v) => some (acc ++ xs, ((at_ + v : Nat) : Int), 0) := by
  unfold LB at hl
  intro r
  induction r with
  | zero =>
    intro i k at_ acc h1 h2 h3 hk
    obtain ⟨k, rfl⟩ : ∃ m, k = m + 1 := ⟨k - 1, by omega⟩
    simp only [wire_get_string.l0, dls]
    rw [if_neg (by omega)]
    simp
  | succ r ih =>
    intro i k at_ acc h1 h2 h3 hk
    obtain ⟨k, rfl⟩ : ∃ m, k = m + 1 := ⟨k - 1, by omega⟩
    have hdl : (l.drop at_).length = l.length - at_ := List.length_drop
    simp only [wire_get_string.l0, dls]
    rw [if_pos (by omega), if_pos (by omega), if_pos (by omega), Int.toNat_natCast, wire_GetBytes_eq (Bts_drop hb at_) (by unfold LB; omega) (by omega), bt _ _ (fun _ h => GB_err h)]
    cases e : GB (l.drop at_) with
    | error x => rfl
    | ok p =>
      obtain ⟨x, u⟩ := p
      obtain ⟨_, _, hu, _⟩ := GB_can (Bts_drop hb at_) e
      rw [hdl] at hu
      rw [onR_ok]
      dsimp only
      rw [if_pos (by omega), show ((at_ : Int) + (u : Int)) = ((at_ + u : Nat) : Int) by omega, wrap64_id (a := ((at_ + u : Nat) : Int)) (by omega) (by omega), show ((i : Int) + 1) = ((i + 1 : Nat) : Int) by omega, wrap64_id (by omega) (by omega), show i + (r + 1) = i + 1 + r by omega, ih (i + 1) k (at_ + u) (acc ++ [x]) (by omega) (by simp [h2]) (by omega) (by omega), List.drop_drop]
      cases dls GB r (l.drop (at_ + u)) with
      | error x => rfl
      | ok q =>
        obtain ⟨ys, v⟩ := q
        simp [Nat.add_assoc]
theorem wire_getDigest_eq {l : List Int} (h : 16 ≤ l.length) : wire_getDigest.f l = some ((dAt l 0).f0, (dAt l 0).f1, (dAt l 0).f2, (dAt l 0).f3, (dAt l 0).f4, (dAt l 0).f5, (dAt l 0).f6, (dAt l 0).f7, (dAt l 0).f8, (dAt l 0).f9, (dAt l 0).f10, (dAt l 0).f11, (dAt l 0).f12, (dAt l 0).f13, (dAt l 0).f14, (dAt l 0).f15, 16, 0) := by
  unfold wire_getDigest.f
  rw [if_pos (by omega)]
  rfl
theorem GD_ok {l : List Int} (h : 16 ≤ l.length) : GD l = .ok (dAt l 0, 16) := by unfold GD; rw [if_pos h]
theorem api_Digest_46_l0 (l : List Int) (hb : Bts l) (hl : LB l) : ∀ (r i k at_ : Nat) (acc : List S57), at_ ≤ l.length → acc.length = i → i + r ≤ l.length → at_ + r * 16 ≤ l.length → r + 40 ≤ k →
    api_Digest_46.l0 k l (at_ : Int) acc ((i + r : Nat) : Int) (i : Int) = match dls GD r (l.drop at_) with
      | .error e => some ([], 0, e)
      | .ok (xs, v) => some (acc ++ xs, ((at_ + v : Nat) : Int), 0) := by
  unfold LB at hl
  intro r
  induction r with
  | zero =>
    intro i k at_ acc h1 h2 h3 h3d hk
    obtain ⟨k, rfl⟩ : ∃ m, k = m + 1 := ⟨k - 1, by omega⟩
    simp only [api_Digest_46.l0, dls]
    rw [if_neg (by omega)]
    simp
  | succ r ih =>
    intro i k at_ acc h1 h2 h3 h3d hk
    obtain ⟨k, rfl⟩ : ∃ m, k = m + 1 := ⟨k - 1, by omega⟩
    have hdl : (l.drop at_).length = l.length - at_ := List.length_drop
    simp only [api_Digest_46.l0, dls]
    rw [if_pos (by omega), if_pos (by omega), if_pos (by omega), Int.toNat_natCast, wire_getDigest_eq (by omega), GD_ok (by omega)]
    simp only [Option.bind_some]
    rw [if_pos trivial, if_pos (by omega), show ((at_ : Int) + 16) = ((at_ + 16 : Nat) : Int) by omega, wrap64_id (a := ((at_ + 16 : Nat) : Int)) (by omega) (by omega), show ((i : Int) + 1) = ((i + 1 : Nat) : Int) by omega, wrap64_id (by omega) (by omega), show i + (r + 1) = i + 1 + r by omega, ih (i + 1) k (at_ + 16) _ (by omega) (by simp [h2]) (by omega) (by omega) (by omega), List.drop_drop]
    cases dls GD r (l.drop (at_ + 16)) with
    | error x => rfl
    | ok q =>
      obtain ⟨ys, v⟩ := q
      simp [Nat.add_assoc]
theorem weirgateref01_GetInts_l0 (l : List Int) (hb : Bts l) (hl : LB l) : ∀ (r i k at_ : Nat) (acc : List Int), at_ ≤ l.length → acc.length = i → i + r ≤ l.length → r + 40 ≤ k →
    weirgateref01_GetInts.l0 k l ((i + r : Nat) : Int) (at_ : Int) acc (i : Int) = match dls GI r (l.drop at_) with
      | .error e => some ([], 0, e)
      | .ok (xs, v) => some (acc ++ xs, ((at_ + v : Nat) : Int), 0) := by
  unfold LB at hl
  intro r
  induction r with
  | zero =>
    intro i k at_ acc h1 h2 h3 hk
    obtain ⟨k, rfl⟩ : ∃ m, k = m + 1 := ⟨k - 1, by omega⟩
    simp only [weirgateref01_GetInts.l0, dls]
    rw [if_neg (by omega)]
    simp
  | succ r ih =>
    intro i k at_ acc h1 h2 h3 hk
    obtain ⟨k, rfl⟩ : ∃ m, k = m + 1 := ⟨k - 1, by omega⟩
    have hdl : (l.drop at_).length = l.length - at_ := List.length_drop
    simp only [weirgateref01_GetInts.l0, dls]
    rw [if_pos (by omega), if_pos (by omega), if_pos (by omega), Int.toNat_natCast, rgetint_eq (Bts_drop hb at_) (by omega) (by omega), bt _ _ (fun _ h => GI_err h)]
    cases e : GI (l.drop at_) with
    | error x => rfl
    | ok p =>
      obtain ⟨x, u⟩ := p
      obtain ⟨_, _, hu, _⟩ := GI_can (Bts_drop hb at_) e
      rw [hdl] at hu
      rw [onR_ok]
      dsimp only
      rw [if_pos (by omega), show ((at_ : Int) + (u : Int)) = ((at_ + u : Nat) : Int) by omega, wrap64_id (a := ((at_ + u : Nat) : Int)) (by omega) (by omega), show ((i : Int) + 1) = ((i + 1 : Nat) : Int) by omega, wrap64_id (by omega) (by omega), show i + (r + 1) = i + 1 + r by omega, ih (i + 1) k (at_ + u) (acc ++ [x]) (by omega) (by simp [h2]) (by omega) (by omega), List.drop_drop]
      cases dls GI r (l.drop (at_ + u)) with
      | error x => rfl
      | ok q =>
        obtain ⟨ys, v⟩ := q
        simp [Nat.add_assoc]
theorem weirgateref01_GetStrings_l0 (l : List Int) (hb : Bts l) (hl : LB l) : ∀ (r i k at_ : Nat) (acc : List ByteArray), at_ ≤ l.length → acc.length = i → i + r ≤ l.length → r + 40 ≤ k →
    weirgateref01_GetStrings.l0 k l ((i + r : Nat) : Int) (at_ : Int) acc (i : Int) = match dls GB r (l.drop at_) with
      | .error e => some ([], 0, e)
      | .ok (xs, v) => some (acc ++ xs, ((at_ + v : Nat) : Int), 0) := by
  unfold LB at hl
  intro r
  induction r with
  | zero =>
    intro i k at_ acc h1 h2 h3 hk
    obtain ⟨k, rfl⟩ : ∃ m, k = m + 1 := ⟨k - 1, by omega⟩
    simp only [weirgateref01_GetStrings.l0, dls]
    rw [if_neg (by omega)]
    simp
  | succ r ih =>
    intro i k at_ acc h1 h2 h3 hk
    obtain ⟨k, rfl⟩ : ∃ m, k = m + 1 := ⟨k - 1, by omega⟩
    have hdl : (l.drop at_).length = l.length - at_ := List.length_drop
    simp only [weirgateref01_GetStrings.l0, dls]
    rw [if_pos (by omega), if_pos (by omega), if_pos (by omega), Int.toNat_natCast, weirgateref01_GetBytes_eq (Bts_drop hb at_) (by unfold LB; omega) (by omega), bt _ _ (fun _ h => GB_err h)]
    cases e : GB (l.drop at_) with
    | error x => rfl
    | ok p =>
      obtain ⟨x, u⟩ := p
      obtain ⟨_, _, hu, _⟩ := GB_can (Bts_drop hb at_) e
      rw [hdl] at hu
      rw [onR_ok]
      dsimp only
      rw [if_pos (by omega), show ((at_ : Int) + (u : Int)) = ((at_ + u : Nat) : Int) by omega, wrap64_id (a := ((at_ + u : Nat) : Int)) (by omega) (by omega), show ((i : Int) + 1) = ((i + 1 : Nat) : Int) by omega, wrap64_id (by omega) (by omega), show i + (r + 1) = i + 1 + r by omega, ih (i + 1) k (at_ + u) (acc ++ [x]) (by omega) (by simp [h2]) (by omega) (by omega), List.drop_drop]
      cases dls GB r (l.drop (at_ + u)) with
      | error x => rfl
      | ok q =>
        obtain ⟨ys, v⟩ := q
        simp [Nat.add_assoc]
theorem wire_GetInts_eq {l : List Int} (hb : Bts l) (hl : LB l) {k : Nat} (hk : l.length + 40 ≤ k) : wire_GetInts.f k l = some (tri [] (GL GI 1 l)) := by
  unfold wire_GetInts.f wire_get_int.f
  rw [wire_length_eq (least := 1) (q := 1) hb hl (by omega) (by omega) rfl, btN _ _ (fun _ h => GN_err h)]
  unfold GL
  cases e : GN 1 l with
  | error x => rfl
  | ok p =>
    obtain ⟨n, u⟩ := p
    obtain ⟨i1, i2, i3, i4, i5⟩ := GN_can hb (by omega) e
    rw [onR_ok]
    dsimp only
    have := wire_get_int_l0 l hb hl n 0 k u [] i3 rfl (by omega) (by omega)
    rw [show (((0 : Nat) : Int)) = 0 from rfl, Nat.zero_add] at this
    rw [this]
    cases dls GI n (l.drop u) with
    | error x => rfl
    | ok q => rfl
theorem wire_GetStrings_eq {l : List Int} (hb : Bts l) (hl : LB l) {k : Nat} (hk : l.length + 40 ≤ k) : wire_GetStrings.f k l = some (tri [] (GL GB 1 l)) := by
  unfold wire_GetStrings.f wire_get_string.f
  rw [wire_length_eq (least := 1) (q := 1) hb hl (by omega) (by omega) rfl, btN _ _ (fun _ h => GN_err h)]
  unfold GL
  cases e : GN 1 l with
  | error x => rfl
  | ok p =>
    obtain ⟨n, u⟩ := p
    obtain ⟨i1, i2, i3, i4, i5⟩ := GN_can hb (by omega) e
    rw [onR_ok]
    dsimp only
    have := wire_get_string_l0 l hb hl n 0 k u [] i3 rfl (by omega) (by omega)
    rw [show (((0 : Nat) : Int)) = 0 from rfl, Nat.zero_add] at this
    rw [this]
    cases dls GB n (l.drop u) with
    | error x => rfl
    | ok q => rfl
theorem wire_GetDigests_eq {l : List Int} (hb : Bts l) (hl : LB l) {k : Nat} (hk : l.length + 40 ≤ k) : wire_GetDigests.f k l = some (tri [] (GL GD 16 l)) := by
  unfold wire_GetDigests.f api_Digest_46.f
  rw [wire_length_eq (least := 16) (q := 16) hb hl (by omega) (by omega) rfl, btN _ _ (fun _ h => GN_err h)]
  unfold GL
  cases e : GN 16 l with
  | error x => rfl
  | ok p =>
    obtain ⟨n, u⟩ := p
    obtain ⟨i1, i2, i3, i4, i5⟩ := GN_can hb (by omega) e
    rw [onR_ok]
    dsimp only
    have := api_Digest_46_l0 l hb hl n 0 k u [] i3 rfl (by omega) (by omega) (by omega)
    rw [show (((0 : Nat) : Int)) = 0 from rfl, Nat.zero_add] at this
    rw [this]
    cases dls GD n (l.drop u) with
    | error x => rfl
    | ok q => rfl
theorem weirgateref01_GetInts_eq {l : List Int} (hb : Bts l) (hl : LB l) {k : Nat} (hk : l.length + 40 ≤ k) : weirgateref01_GetInts.f k l = some (tri [] (GL GI 1 l)) := by
  unfold weirgateref01_GetInts.f
  rw [weirgateref01_length_eq (least := 1) (q := 1) hb hl (by omega) (by omega) rfl, btN _ _ (fun _ h => GN_err h)]
  unfold GL
  cases e : GN 1 l with
  | error x => rfl
  | ok p =>
    obtain ⟨n, u⟩ := p
    obtain ⟨i1, i2, i3, i4, i5⟩ := GN_can hb (by omega) e
    rw [onR_ok]
    dsimp only
    have := weirgateref01_GetInts_l0 l hb hl n 0 k u [] i3 rfl (by omega) (by omega)
    rw [show (((0 : Nat) : Int)) = 0 from rfl, Nat.zero_add] at this
    rw [this]
    cases dls GI n (l.drop u) with
    | error x => rfl
    | ok q => rfl
theorem weirgateref01_GetStrings_eq {l : List Int} (hb : Bts l) (hl : LB l) {k : Nat} (hk : l.length + 40 ≤ k) : weirgateref01_GetStrings.f k l = some (tri [] (GL GB 1 l)) := by
  unfold weirgateref01_GetStrings.f
  rw [weirgateref01_length_eq (least := 1) (q := 1) hb hl (by omega) (by omega) rfl, btN _ _ (fun _ h => GN_err h)]
  unfold GL
  cases e : GN 1 l with
  | error x => rfl
  | ok p =>
    obtain ⟨n, u⟩ := p
    obtain ⟨i1, i2, i3, i4, i5⟩ := GN_can hb (by omega) e
    rw [onR_ok]
    dsimp only
    have := weirgateref01_GetStrings_l0 l hb hl n 0 k u [] i3 rfl (by omega) (by omega)
    rw [show (((0 : Nat) : Int)) = 0 from rfl, Nat.zero_add] at this
    rw [this]
    cases dls GB n (l.drop u) with
    | error x => rfl
    | ok q => rfl
theorem dls_dAt (l : List Int) : ∀ (n a : Nat), a + 16 * n ≤ l.length → dls GD n (l.drop a) = .ok ((List.range n).map (fun i : Nat => dAt l ((a : Int) + 16 * (i : Int))), 16 * n)
  | 0, a, h => rfl
  | n + 1, a, h => by
    have hdl : (l.drop a).length = l.length - a := List.length_drop
    simp only [dls]
    rw [GD_ok (by omega), List.range_succ_eq_map, List.map_cons, List.map_map]
    simp only [List.drop_drop]
    rw [dls_dAt l n (a + 16) (by omega)]
    simp only
    rw [dAt_drop, show ((a : Int) + 16 * ((0 : Nat) : Int)) = a by omega, show 16 + 16 * n = 16 * (n + 1) by omega]
    congr 3
    refine List.map_congr_left fun i _ => ?_
    show dAt l _ = dAt l _
    congr 1
    show (((a + 16 : Nat) : Int) + 16 * (i : Int)) = (a : Int) + 16 * ((i + 1 : Nat) : Int)
    omega
theorem weirgateref01_GetDigests_eq {l : List Int} (hb : Bts l) (hl : LB l) {k : Nat} (hk : l.length + 40 ≤ k) : weirgateref01_GetDigests.f k l = some (tri [] (GL GD 16 l)) := by
  unfold weirgateref01_GetDigests.f
  rw [weirgateref01_length_eq (least := 16) (q := 16) hb hl (by omega) (by omega) rfl, btN _ _ (fun _ h => GN_err h)]
  unfold GL
  cases e : GN 16 l with
  | error x => rfl
  | ok p =>
    obtain ⟨n, u⟩ := p
    obtain ⟨i1, i2, i3, i4, i5⟩ := GN_can hb (by omega) e
    rw [onR_ok]
    dsimp only
    unfold LB at hl
    rw [if_pos (by omega), dls_dAt l n u (by omega), Int.toNat_natCast]
    rw [show ((u : Int) + 16 * (n : Int)) = ((u + 16 * n : Nat) : Int) by omega]
    rfl
theorem wire_Bytes_eq {s : ByteArray} (hs : s.size ≤ 140737488351232) {k : Nat} (hk : 11 ≤ k) : wire_Bytes.f k s = some (EB s) := by
  have h10 := VI_le (W64_len (n := s.size) (by omega))
  unfold wire_Bytes.f
  rw [int_eq (W64_len (by omega)) (by omega)]
  simp only [Option.bind_some]
  rw [if_pos (by omega)]
  rfl
theorem weirgateref01_Bytes_eq {s : ByteArray} (hs : s.size ≤ 140737488351232) {k : Nat} (hk : 11 ≤ k) : weirgateref01_Bytes.f k s = some (EB s) := by
  have h10 := VI_le (W64_len (n := s.size) (by omega))
  unfold weirgateref01_Bytes.f
  rw [rint_eq (W64_len (by omega)) (by omega)]
  simp only [Option.bind_some]
  rw [if_pos (by omega)]
  rfl
theorem wire_list_int_l0 (l : List Int) (hw : ∀ x ∈ l, W64 x) (hl : l.length ≤ 140737488355328) : ∀ (r i k : Nat) (acc : List Int), i + r = l.length → r + 40 ≤ k → acc.length + ((l.drop i).flatMap VI).length < 140737488355328 →
    wire_list_int.l0 k acc l (l.length : Int) (i : Int) = some (acc ++ (l.drop i).flatMap VI) := by
  intro r
  induction r with
  | zero =>
    intro i k acc h1 hk h2
    obtain ⟨k, rfl⟩ : ∃ m, k = m + 1 := ⟨k - 1, by omega⟩
    simp only [wire_list_int.l0]
    rw [if_neg (by omega), List.drop_of_length_le (by omega)]
    simp
  | succ r ih =>
    intro i k acc h1 hk h2
    obtain ⟨k, rfl⟩ : ∃ m, k = m + 1 := ⟨k - 1, by omega⟩
    have hil : i < l.length := by omega
    have hx := hw l[i] (List.getElem_mem hil)
    have hd : (l.drop i).flatMap VI = VI l[i] ++ (l.drop (i + 1)).flatMap VI := by rw [drop_at hil, List.flatMap_cons]
    rw [hd, List.length_append] at h2
    simp only [wire_list_int.l0]
    rw [if_pos (by omega), if_pos (by omega), if_pos (by omega), rd_at hil]
    rw [int_eq hx (by omega)]
    simp only [Option.bind_some]
    rw [if_pos (by omega), show ((i : Int) + 1) = ((i + 1 : Nat) : Int) by omega, wrap64_id (by omega) (by omega), ih (i + 1) k _ (by omega) (by omega) (by rw [List.length_append]; omega), hd, List.append_assoc]
theorem wire_list_string_l0 (l : List ByteArray) (hw : ∀ x ∈ l, x.size ≤ 140737488351232) (hl : l.length ≤ 140737488355328) : ∀ (r i k : Nat) (acc : List Int), i + r = l.length → r + 40 ≤ k → acc.length + ((l.drop i).flatMap EB).length < 140737488355328 →
    wire_list_string.l0 k acc l (l.length : Int) (i : Int) = some (acc ++ (l.drop i).flatMap EB) := by
  intro r
  induction r with
  | zero =>
    intro i k acc h1 hk h2
    obtain ⟨k, rfl⟩ : ∃ m, k = m + 1 := ⟨k - 1, by omega⟩
    simp only [wire_list_string.l0]
    rw [if_neg (by omega), List.drop_of_length_le (by omega)]
    simp
  | succ r ih =>
    intro i k acc h1 hk h2
    obtain ⟨k, rfl⟩ : ∃ m, k = m + 1 := ⟨k - 1, by omega⟩
    have hil : i < l.length := by omega
    have hx := hw l[i] (List.getElem_mem hil)
    have hd : (l.drop i).flatMap EB = EB l[i] ++ (l.drop (i + 1)).flatMap EB := by rw [drop_at hil, List.flatMap_cons]
    rw [hd, List.length_append] at h2
    simp only [wire_list_string.l0]
    rw [if_pos (by omega), if_pos (by omega), if_pos (by omega), rdOf_at hil]
    rw [wire_Bytes_eq hx (by omega)]
    simp only [Option.bind_some]
    rw [if_pos (by omega), show ((i : Int) + 1) = ((i + 1 : Nat) : Int) by omega, wrap64_id (by omega) (by omega), ih (i + 1) k _ (by omega) (by omega) (by rw [List.length_append]; omega), hd, List.append_assoc]
theorem api_Digest_40_l0 (l : List S57) (hw : ∀ x ∈ l, True) (hl : l.length ≤ 140737488355328) : ∀ (r i k : Nat) (acc : List Int), i + r = l.length → r + 40 ≤ k → acc.length + ((l.drop i).flatMap dl).length < 140737488355328 →
    api_Digest_40.l0 k acc l (l.length : Int) (i : Int) = some (acc ++ (l.drop i).flatMap dl) := by
  intro r
  induction r with
  | zero =>
    intro i k acc h1 hk h2
    obtain ⟨k, rfl⟩ : ∃ m, k = m + 1 := ⟨k - 1, by omega⟩
    simp only [api_Digest_40.l0]
    rw [if_neg (by omega), List.drop_of_length_le (by omega)]
    simp
  | succ r ih =>
    intro i k acc h1 hk h2
    obtain ⟨k, rfl⟩ : ∃ m, k = m + 1 := ⟨k - 1, by omega⟩
    have hil : i < l.length := by omega
    have hx := hw l[i] (List.getElem_mem hil)
    have hd : (l.drop i).flatMap dl = dl l[i] ++ (l.drop (i + 1)).flatMap dl := by rw [drop_at hil, List.flatMap_cons]
    rw [hd, List.length_append] at h2
    simp only [api_Digest_40.l0]
    rw [if_pos (by omega), if_pos (by omega), if_pos (by omega), rdT_at hil]
    rw [show wire_digest.f (l[i]).f0 (l[i]).f1 (l[i]).f2 (l[i]).f3 (l[i]).f4 (l[i]).f5 (l[i]).f6 (l[i]).f7 (l[i]).f8 (l[i]).f9 (l[i]).f10 (l[i]).f11 (l[i]).f12 (l[i]).f13 (l[i]).f14 (l[i]).f15 = some (dl l[i]) from rfl]
    simp only [Option.bind_some]
    rw [if_pos (by omega), show ((i : Int) + 1) = ((i + 1 : Nat) : Int) by omega, wrap64_id (by omega) (by omega), ih (i + 1) k _ (by omega) (by omega) (by rw [List.length_append]; omega), hd, List.append_assoc]
theorem weirgateref01_Ints_l0 (l : List Int) (hw : ∀ x ∈ l, W64 x) (hl : l.length ≤ 140737488355328) : ∀ (r i k : Nat) (acc : List Int), i + r = l.length → r + 40 ≤ k → acc.length + ((l.drop i).flatMap VI).length < 140737488355328 →
    weirgateref01_Ints.l0 k l acc (i : Int) = some (acc ++ (l.drop i).flatMap VI) := by
  intro r
  induction r with
  | zero =>
    intro i k acc h1 hk h2
    obtain ⟨k, rfl⟩ : ∃ m, k = m + 1 := ⟨k - 1, by omega⟩
    simp only [weirgateref01_Ints.l0]
    rw [if_neg (by omega), List.drop_of_length_le (by omega)]
    simp
  | succ r ih =>
    intro i k acc h1 hk h2
    obtain ⟨k, rfl⟩ : ∃ m, k = m + 1 := ⟨k - 1, by omega⟩
    have hil : i < l.length := by omega
    have hx := hw l[i] (List.getElem_mem hil)
    have hd : (l.drop i).flatMap VI = VI l[i] ++ (l.drop (i + 1)).flatMap VI := by rw [drop_at hil, List.flatMap_cons]
    rw [hd, List.length_append] at h2
    simp only [weirgateref01_Ints.l0]
    rw [if_pos (by omega), if_pos (by omega), rd_at hil]
    rw [rint_eq hx (by omega)]
    simp only [Option.bind_some]
    rw [if_pos (by omega), show ((i : Int) + 1) = ((i + 1 : Nat) : Int) by omega, wrap64_id (by omega) (by omega), ih (i + 1) k _ (by omega) (by omega) (by rw [List.length_append]; omega), hd, List.append_assoc]
theorem weirgateref01_Strings_l0 (l : List ByteArray) (hw : ∀ x ∈ l, x.size ≤ 140737488351232) (hl : l.length ≤ 140737488355328) : ∀ (r i k : Nat) (acc : List Int), i + r = l.length → r + 40 ≤ k → acc.length + ((l.drop i).flatMap EB).length < 140737488355328 →
    weirgateref01_Strings.l0 k l acc (i : Int) = some (acc ++ (l.drop i).flatMap EB) := by
  intro r
  induction r with
  | zero =>
    intro i k acc h1 hk h2
    obtain ⟨k, rfl⟩ : ∃ m, k = m + 1 := ⟨k - 1, by omega⟩
    simp only [weirgateref01_Strings.l0]
    rw [if_neg (by omega), List.drop_of_length_le (by omega)]
    simp
  | succ r ih =>
    intro i k acc h1 hk h2
    obtain ⟨k, rfl⟩ : ∃ m, k = m + 1 := ⟨k - 1, by omega⟩
    have hil : i < l.length := by omega
    have hx := hw l[i] (List.getElem_mem hil)
    have hd : (l.drop i).flatMap EB = EB l[i] ++ (l.drop (i + 1)).flatMap EB := by rw [drop_at hil, List.flatMap_cons]
    rw [hd, List.length_append] at h2
    simp only [weirgateref01_Strings.l0]
    rw [if_pos (by omega), if_pos (by omega), rdOf_at hil]
    rw [weirgateref01_Bytes_eq hx (by omega)]
    simp only [Option.bind_some]
    rw [if_pos (by omega), show ((i : Int) + 1) = ((i + 1 : Nat) : Int) by omega, wrap64_id (by omega) (by omega), ih (i + 1) k _ (by omega) (by omega) (by rw [List.length_append]; omega), hd, List.append_assoc]
theorem wire_Ints_eq {l : List Int} (hw : ∀ x ∈ l, W64 x) (hl : (l.flatMap VI).length ≤ 140737488355000) (hn : l.length ≤ 140737488355000) {k : Nat} (hk : l.length + 40 ≤ k) : wire_Ints.f k l = some (EL VI l) := by
  have h10 := VI_le (W64_len (n := l.length) (by omega))
  unfold wire_Ints.f wire_list_int.f
  rw [int_eq (W64_len (by omega)) (by omega)]
  simp only [Option.bind_some]
  have := wire_list_int_l0 l hw (by omega) l.length 0 k (VI l.length) (by omega) (by omega) (by rw [List.drop_zero]; omega)
  rw [show (((0 : Nat) : Int)) = 0 from rfl, List.drop_zero] at this
  rw [this]
  rfl
theorem wire_Strings_eq {l : List ByteArray} (hw : ∀ x ∈ l, x.size ≤ 140737488351232) (hl : (l.flatMap EB).length ≤ 140737488355000) (hn : l.length ≤ 140737488355000) {k : Nat} (hk : l.length + 40 ≤ k) : wire_Strings.f k l = some (EL EB l) := by
  have h10 := VI_le (W64_len (n := l.length) (by omega))
  unfold wire_Strings.f wire_list_string.f
  rw [int_eq (W64_len (by omega)) (by omega)]
  simp only [Option.bind_some]
  have := wire_list_string_l0 l hw (by omega) l.length 0 k (VI l.length) (by omega) (by omega) (by rw [List.drop_zero]; omega)
  rw [show (((0 : Nat) : Int)) = 0 from rfl, List.drop_zero] at this
  rw [this]
  rfl
theorem wire_Digests_eq {l : List S57} (hw : ∀ x ∈ l, True) (hl : (l.flatMap dl).length ≤ 140737488355000) (hn : l.length ≤ 140737488355000) {k : Nat} (hk : l.length + 40 ≤ k) : wire_Digests.f k l = some (EL dl l) := by
  have h10 := VI_le (W64_len (n := l.length) (by omega))
  unfold wire_Digests.f api_Digest_40.f
  rw [int_eq (W64_len (by omega)) (by omega)]
  simp only [Option.bind_some]
  have := api_Digest_40_l0 l hw (by omega) l.length 0 k (VI l.length) (by omega) (by omega) (by rw [List.drop_zero]; omega)
  rw [show (((0 : Nat) : Int)) = 0 from rfl, List.drop_zero] at this
  rw [this]
  rfl
theorem weirgateref01_Ints_eq {l : List Int} (hw : ∀ x ∈ l, W64 x) (hl : (l.flatMap VI).length ≤ 140737488355000) (hn : l.length ≤ 140737488355000) {k : Nat} (hk : l.length + 40 ≤ k) : weirgateref01_Ints.f k l = some (EL VI l) := by
  have h10 := VI_le (W64_len (n := l.length) (by omega))
  unfold weirgateref01_Ints.f
  rw [rint_eq (W64_len (by omega)) (by omega)]
  simp only [Option.bind_some]
  have := weirgateref01_Ints_l0 l hw (by omega) l.length 0 k (VI l.length) (by omega) (by omega) (by rw [List.drop_zero]; omega)
  rw [show (((0 : Nat) : Int)) = 0 from rfl, List.drop_zero] at this
  rw [this]
  rfl
theorem weirgateref01_Strings_eq {l : List ByteArray} (hw : ∀ x ∈ l, x.size ≤ 140737488351232) (hl : (l.flatMap EB).length ≤ 140737488355000) (hn : l.length ≤ 140737488355000) {k : Nat} (hk : l.length + 40 ≤ k) : weirgateref01_Strings.f k l = some (EL EB l) := by
  have h10 := VI_le (W64_len (n := l.length) (by omega))
  unfold weirgateref01_Strings.f
  rw [rint_eq (W64_len (by omega)) (by omega)]
  simp only [Option.bind_some]
  have := weirgateref01_Strings_l0 l hw (by omega) l.length 0 k (VI l.length) (by omega) (by omega) (by rw [List.drop_zero]; omega)
  rw [show (((0 : Nat) : Int)) = 0 from rfl, List.drop_zero] at this
  rw [this]
  rfl
theorem flat_dl (l : List S57) : (l.flatMap dl).length = 16 * l.length := by
  induction l with
  | nil => rfl
  | cons x r ih => rw [List.flatMap_cons, List.length_append, ih, dl_len, List.length_cons]; omega
theorem weirgateref01_Digests_eq {l : List S57} (hn : l.length ≤ 1099511627776) {k : Nat} (hk : 40 ≤ k) : weirgateref01_Digests.f k l = some (EL dl l) := by
  have h10 := VI_le (W64_len (n := l.length) (by omega))
  unfold weirgateref01_Digests.f
  rw [rint_eq (W64_len (by omega)) (by omega)]
  simp only [Option.bind_some]
  rw [if_pos (by omega)]
  rfl
end Go.Proofs.Ytekbhcciabgnhaa.PureW
