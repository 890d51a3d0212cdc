import Derived.Test.YtijeiemdhpkklaaPP0
import Derived.Test.YtijeiemdhpkklaaPP10
import Derived.Test.YtijeiemdhpkklaaPP3
import Derived.Shelf.Abstract
namespace Go.Proofs.Ytijeiemdhpkklaa.PP
open Go.RowKit Go.Proofs.YtijeiemdhpkklaaW.PrintWords Go.Proofs.YtijeiemdhpkklaaW.PrintLast
set_option linter.unusedVariables false

def clock_Until.late (a0 a1 a2 a3 t : Int) (i : Int) : Bool :=
  match clock_Read.f 1 a0 a1 a2 a3 (a0 + i) with
  | some r => !decide (r.2.1 < t)
  | none => false
def bs (p : Int → Bool) : Nat → Int → Int → Int
  | 0, lo, _ => lo
  | k + 1, lo, hi => if lo < hi then (if p ((lo + hi) / 2) = true then bs p k lo ((lo + hi) / 2) else bs p k ((lo + hi) / 2 + 1) hi) else lo
def clock_Until.f (a0_0 : Int) (a0_1 : Int) (a0_2 : Int) (a0_3 : Int) (a1 : Int) : Option (Int) :=
  if 0 ≤ a0_0 ∧ a0_0 ≤ 2199023255552 ∧ 0 ≤ a0_3 ∧ a0_3 ≤ 100000 then
    some (if bs (clock_Until.late a0_0 a0_1 a0_2 a0_3 a1) 64 0 (2199023255553 - a0_0) = 0 then -1 else a0_0 + bs (clock_Until.late a0_0 a0_1 a0_2 a0_3 a1) 64 0 (2199023255553 - a0_0) - 1)
  else none

theorem read_some (a0 a1 a2 a3 x : Int) (h0 : 0 ≤ a3) (h1 : a3 ≤ 100000) : ∃ r, clock_Read.f 1 a0 a1 a2 a3 x = some r := by
  have e1 : wrap64 (1000000 + a3) = 1000000 + a3 := by unfold wrap64; omega
  have e2 : wrap64 (1000000 - a3) = 1000000 - a3 := by unfold wrap64; omega
  unfold clock_Read.f
  split
  · exact ⟨(0, 0, 1), by simp [clock_Read.j0]⟩
  · simp only [clock_Read.j0, e1, e2]
    rw [if_neg (show ¬ (1000000 + a3 = 0) by omega), if_neg (show ¬ (1000000 - a3 = 0) by omega)]
    split
    · exact ⟨_, rfl⟩
    · split
      · exact ⟨_, rfl⟩
      · exact ⟨_, rfl⟩

theorem cell_below {W W1 : World} (hb : Below W.heap.size W W1) {a : Addr} {v : Value} (h : W.cell? a = some v) : W1.cell? a = some v := (hb.cell (World.block_lt_of_cell? W a h)).trans h

theorem ne_of_cell {w : World} {g b o : Nat} {v : Value} (hg : g = w.heap.size) (h : w.cell? ⟨b, o, none⟩ = some v) : g ≠ b := by
  have := World.block_lt_of_cell? w ⟨b, o, none⟩ h
  simp only at this
  omega

theorem bs_bound (p : Int → Bool) : ∀ (k : Nat) (lo hi : Int), lo ≤ hi → lo ≤ bs p k lo hi ∧ bs p k lo hi ≤ hi
  | 0, lo, hi, h => ⟨Int.le_refl _, h⟩
  | k + 1, lo, hi, h => by
    unfold bs
    split
    · split
      · have := bs_bound p k lo ((lo + hi) / 2) (by omega)
        omega
      · have := bs_bound p k ((lo + hi) / 2 + 1) hi (by omega)
        omega
    · omega

attribute [local go_sem] isSome_put
theorem late_calls (a0 a1 a2 a3 t i : Int) (W : World) (bc bt : Nat) (hc0 : W.cell? ⟨bc, 0, none⟩ = some (.int .i64 a0)) (hc1 : W.cell? ⟨bc, 1, none⟩ = some (.int .i64 a1)) (hc2 : W.cell? ⟨bc, 2, none⟩ = some (.int .i64 a2)) (hc3 : W.cell? ⟨bc, 3, none⟩ = some (.int .i64 a3))
    (ht : W.cell? ⟨bt, 0, none⟩ = some (.int .i64 t)) (hd0 : 0 ≤ a3) (hd1 : a3 ≤ 100000) (h0 : 0 ≤ a0) (hi0 : 0 ≤ i) (hi1 : a0 + i ≤ 4398046511104) :
    Calls Try.prog 41 #[.int .i64 i, .pointer (some ⟨bc, 0, none⟩), .pointer (some ⟨bt, 0, none⟩)] W fun e W' => e = .returned (.bool (clock_Until.late a0 a1 a2 a3 t i)) ∧ Below W.heap.size W W' := by
  obtain ⟨⟨r1, r2, r3⟩, hr⟩ := read_some a0 a1 a2 a3 (a0 + i) hd0 hd1
  have hl : Hid (clock_Until.late a0 a1 a2 a3 t i = !decide (r2 < t)) := by unfold clock_Until.late; rw [hr]; exact rfl
  have hR := Aside0.mk hr
  clear hr
  have hu23 := Try.underlying23
  have hu25 := Try.underlying25
  go_enter Try.func41, Try.ntmps41
  go_wp2_with (first
    | (go_at_call 14; refine (clock_Read.calls 1 a0 a1 a2 a3 (a0 + i) r1 r2 r3 _ hR.out).mono ?_; rintro e w' ⟨rfl, hb⟩; have ht' := (cell_below hb ht); have HB := Aside0.mk hb; clear hb)
    | ((with_reducible refine gate_dst (N := 5) rfl ?_); refine box_event ?hg (N := 5) ?hd (cs := #[.int .i64 0, .int .i64 0]) (t := 23) ?hr ?_; (case hd => rfl); (case hg => rfl); (case hr => first | (go_simp; done) | (go_simp; rfl)); intro gb hg w3 hbox hb3; have hz0 : w3.cell? ⟨gb, 0, none⟩ = some (.int .i64 0) := (blk_cell hbox 0).trans rfl; have hz1 : w3.cell? ⟨gb, 1, none⟩ = some (.int .i64 0) := (blk_cell hbox 1).trans rfl; have hz2 := blk_frozen hbox 0; have hz3 := blk_frozen hbox 1; have ht3 := cell_below hb3 ht'; have HB3 := Aside0.mk (below_step HB.out hb3); have HG := Aside0.mk (show W.heap.size ≤ gb by rw [hg]; exact HB.out.size); have hne := ne_of_cell hg ht'; clear hbox hb3 HB hg ht ht' hc0 hc1 hc2 hc3)
    | (go_at_call 23; refine (clock_Before.calls r1 r2 t (decide (r2 < t)) _ rfl).mono ?_; rintro e w2 ⟨rfl, hb2⟩; have HB4 := Aside0.mk (below_step (w := W) (by repeat (first | exact HB3.out | refine below_set ?_ HG.out)) hb2)))
  go_ret
  exact ⟨by rw [hl.out]; rfl, HB4.out⟩

theorem search_calls (n : Int) (p : Int → Bool) (g : Nat) (cb : Array Value) (w : World) (hn0 : 0 ≤ n) (hn1 : n ≤ 4398046511104)
    (hf : ∀ (i : Int) (W : World), 0 ≤ i → i < n → Below w.heap.size w W → Calls Try.prog g (#[.int .i64 i] ++ cb) W fun e W' => e = .returned (.bool (p i)) ∧ Below W.heap.size W W')
    (eg : ∀ args w, (callFunc g args).run Try.prog w = .ok (.enter g args) w) :
    Calls Try.prog 42 #[.int .i64 n, .func (.func g) #[] cb] w fun e W' => e = .returned (.int .i64 (bs p 64 0 n)) ∧ Below w.heap.size w W' := by
  have HF := Aside0.mk hf
  clear hf
  have HR := Aside0.mk (rfl : bs p 64 0 n = bs p 64 0 n)
  generalize hR : bs p 64 0 n = R at HR ⊢
  have HR2 := Aside0.mk hR
  clear hR HR
  go_enter Try.func42, Try.ntmps42
  go_wp2
  go_loopg [5, 6, 7] 64 (fun kx s5 s6 s7 wr => ∃ (lo hi : Int) (v7 : Value), s5 = .int .i64 lo ∧ s6 = .int .i64 hi ∧ s7 = v7 ∧ 0 ≤ lo ∧ lo ≤ hi ∧ hi ≤ n ∧ Aside0 (hi - lo < 2 ^ kx) ∧ Aside0 (Below w.heap.size w wr) ∧
    Aside0 (bs p kx lo hi = R))
  case atStart => exact ⟨0, n, _, rfl, rfl, rfl, Int.le_refl _, hn0, Int.le_refl _, ⟨by omega⟩, ⟨Below.refl _ _⟩, HR2⟩
  case round =>
    obtain ⟨lo, hi, v7, rfl, rfl, rfl, hlo, hlh, hhn, HM, HB, HE⟩ := hrel
    by_cases hlt : lo < hi
    · cases gk with
      | zero => exact absurd HM.out (by simp; omega)
      | succ kx =>
        have hc := HF.out ((lo + hi) / 2) wr (by omega) (by omega) HB.out
        have he := HE.out
        unfold bs at he
        rw [if_pos hlt] at he
        have hm : hi - lo < 2 * 2 ^ kx := by have := HM.out; rw [Int.pow_succ] at this; omega
        have HM2 := Aside0.mk hm
        clear hm
        cases hp : p ((lo + hi) / 2) <;> rw [hp] at hc he
        · have HE2 := Aside0.mk he
          have HC := Aside0.mk hc
          clear he hc hp
          go_wp2_with (go_at_fn g; refine HC.out.mono ?_; rintro e w2 ⟨rfl, hb⟩; have HB2 := Aside0.mk hb; clear hb)
          go_roundg kx
          case measure => omega
          case rel => exact ⟨(lo + hi) / 2 + 1, hi, _, rfl, rfl, rfl, by omega, by omega, hhn, ⟨by have := HM2.out; omega⟩, ⟨below_step HB.out HB2.out⟩, ⟨by simpa using HE2.out⟩⟩
        · have HE2 := Aside0.mk he
          have HC := Aside0.mk hc
          clear he hc hp
          go_wp2_with (go_at_fn g; refine HC.out.mono ?_; rintro e w2 ⟨rfl, hb⟩; have HB2 := Aside0.mk hb; clear hb)
          go_roundg kx
          case measure => omega
          case rel => exact ⟨lo, (lo + hi) / 2, _, rfl, rfl, rfl, by omega, by omega, by omega, ⟨by have := HM2.out; omega⟩, ⟨below_step HB.out HB2.out⟩, ⟨by simpa using HE2.out⟩⟩
    · obtain rfl : hi = lo := by omega
      have hr : Aside0 (R = hi) := ⟨by
        have he := HE.out
        cases gk with
        | zero => exact he.symm
        | succ kx => unfold bs at he; rw [if_neg hlt] at he; exact he.symm⟩
      go_wp2
      go_ret
      exact ⟨by rw [hr.out]; rfl, HB.out⟩

set_option maxHeartbeats 4000000 in
theorem clock_Until.calls (a0_0 : Int) (a0_1 : Int) (a0_2 : Int) (a0_3 : Int) (a1 : Int) (r : Int) (w : World) (h : clock_Until.f a0_0 a0_1 a0_2 a0_3 a1 = some r) :
    Calls Try.prog 19 #[.agg #[.int .i64 a0_0, .int .i64 a0_1, .int .i64 a0_2, .int .i64 a0_3], .int .i64 a1] w fun e w' => e = .returned (.int .i64 r) ∧ Below w.heap.size w w' := by
  unfold clock_Until.f at h
  by_cases hv : 0 ≤ a0_0 ∧ a0_0 ≤ 2199023255552 ∧ 0 ≤ a0_3 ∧ a0_3 ≤ 100000
  · rw [if_pos hv] at h
    obtain ⟨h0, h1, h2, h3⟩ := hv
    have hb := bs_bound (clock_Until.late a0_0 a0_1 a0_2 a0_3 a1) 64 0 (2199023255553 - a0_0) (by omega)
    have hs := fun (wx : World) (cb : Array Value) hf => search_calls (2199023255553 - a0_0) (clock_Until.late a0_0 a0_1 a0_2 a0_3 a1) 41 cb wx (by omega) (by omega) hf (enters_of Try.func41 (by kernel_rfl) rfl)
    generalize bs (clock_Until.late a0_0 a0_1 a0_2 a0_3 a1) 64 0 (2199023255553 - a0_0) = N at h hb hs
    obtain rfl := Option.some.inj h
    clear h
    have HS := Aside0.mk hs
    clear hs
    have HB := Aside0.mk (Below.refl w.heap.size w)
    by_cases hN : N = 0
    · rw [if_pos hN]
      have hN' : (N == 0) = true := by simp [hN]
      clear hN
      have hu25 := Try.underlying25
      go_enter Try.func19, Try.ntmps19
      go_wp2_with (first
        | ((with_reducible refine gate_dst (N := 2) rfl ?_); refine box_event ?hg (N := 2) ?hd (cs := #[.int .i64 a0_0, .int .i64 a0_1, .int .i64 a0_2, .int .i64 a0_3]) (t := 25) ?hr ?_; (case hd => rfl); (case hg => rfl); (case hr => first | (go_simp; done) | (go_simp; rfl)); intro gc hg w3 hbox hb3; have HB3 := Aside0.mk (below_step HB.out hb3); have BC := Aside0.mk hbox; clear HB hb3 hg hbox)
        | ((with_reducible refine gate_dst (N := 3) rfl ?_); refine box_event ?hg (N := 3) ?hd (cs := #[.int .i64 a1]) (t := 3) ?hr ?_; (case hd => rfl); (case hg => rfl); (case hr => first | (go_simp; done) | (go_simp; rfl)); intro gt hg w4 hbox hb4; have HB4 := Aside0.mk (below_step HB3.out hb4); have BC4 := Aside0.mk (blk_below BC.out hb4); have BT := Aside0.mk hbox; have hc0 : w4.cell? ⟨gc, 0, none⟩ = some (.int .i64 a0_0) := (blk_cell BC4.out 0).trans rfl; clear HB3 BC hb4 hg hbox)
        | (go_at_call 42; refine (HS.out _ #[.pointer (some ⟨gc, 0, none⟩), .pointer (some ⟨gt, 0, none⟩)] ?side).mono ?_; (case side => intro i W hi0 hi1 hbW; exact late_calls a0_0 a0_1 a0_2 a0_3 a1 i W gc gt ((blk_cell (blk_below BC4.out hbW) 0).trans rfl) ((blk_cell (blk_below BC4.out hbW) 1).trans rfl) ((blk_cell (blk_below BC4.out hbW) 2).trans rfl) ((blk_cell (blk_below BC4.out hbW) 3).trans rfl) ((blk_cell (blk_below BT.out hbW) 0).trans rfl) h2 h3 h0 hi0 (by omega)); rintro e w5 ⟨rfl, hb5⟩; have HB5 := Aside0.mk (below_step HB4.out hb5); have hc5 := cell_below hb5 hc0; clear hb5))
      go_ret
      exact ⟨rfl, HB5.out⟩
    · rw [if_neg hN]
      have hN' : (N == 0) = false := by simp [hN]
      clear hN
      have hu25 := Try.underlying25
      go_enter Try.func19, Try.ntmps19
      go_wp2_with (first
        | ((with_reducible refine gate_dst (N := 2) rfl ?_); refine box_event ?hg (N := 2) ?hd (cs := #[.int .i64 a0_0, .int .i64 a0_1, .int .i64 a0_2, .int .i64 a0_3]) (t := 25) ?hr ?_; (case hd => rfl); (case hg => rfl); (case hr => first | (go_simp; done) | (go_simp; rfl)); intro gc hg w3 hbox hb3; have HB3 := Aside0.mk (below_step HB.out hb3); have BC := Aside0.mk hbox; clear HB hb3 hg hbox)
        | ((with_reducible refine gate_dst (N := 3) rfl ?_); refine box_event ?hg (N := 3) ?hd (cs := #[.int .i64 a1]) (t := 3) ?hr ?_; (case hd => rfl); (case hg => rfl); (case hr => first | (go_simp; done) | (go_simp; rfl)); intro gt hg w4 hbox hb4; have HB4 := Aside0.mk (below_step HB3.out hb4); have BC4 := Aside0.mk (blk_below BC.out hb4); have BT := Aside0.mk hbox; have hc0 : w4.cell? ⟨gc, 0, none⟩ = some (.int .i64 a0_0) := (blk_cell BC4.out 0).trans rfl; clear HB3 BC hb4 hg hbox)
        | (go_at_call 42; refine (HS.out _ #[.pointer (some ⟨gc, 0, none⟩), .pointer (some ⟨gt, 0, none⟩)] ?side).mono ?_; (case side => intro i W hi0 hi1 hbW; exact late_calls a0_0 a0_1 a0_2 a0_3 a1 i W gc gt ((blk_cell (blk_below BC4.out hbW) 0).trans rfl) ((blk_cell (blk_below BC4.out hbW) 1).trans rfl) ((blk_cell (blk_below BC4.out hbW) 2).trans rfl) ((blk_cell (blk_below BC4.out hbW) 3).trans rfl) ((blk_cell (blk_below BT.out hbW) 0).trans rfl) h2 h3 h0 hi0 (by omega)); rintro e w5 ⟨rfl, hb5⟩; have HB5 := Aside0.mk (below_step HB4.out hb5); have hc5 := cell_below hb5 hc0; clear hb5))
      go_ret
      exact ⟨rfl, HB5.out⟩
  · rw [if_neg hv] at h
    cases h
end Go.Proofs.Ytijeiemdhpkklaa.PP
