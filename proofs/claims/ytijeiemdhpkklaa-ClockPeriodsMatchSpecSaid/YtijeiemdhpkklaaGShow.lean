import Derived.Test.YtijeiemdhpkklaaPP0
import Derived.Test.YtijeiemdhpkklaaPP5
import Derived.Test.YtijeiemdhpkklaaGRange
import Derived.Shelf.Abstract
import Derived.Shelf.RegionOpen
import Derived.WalkKit
import Derived.OwnWalkIn
import Derived.TacticsInMore
import Derived.LoopNIn
import Derived.LoopIn
import Derived.RangeFuncBox
namespace Go.Proofs.Ytijeiemdhpkklaa.PP
open Go.RowKit Go.Proofs.YtijeiemdhpkklaaW.PrintWords Go.Proofs.YtijeiemdhpkklaaW.PrintLast Go.Proofs.YtijeiemdhpkklaaW.PrintMore Go.Proofs.YtijeiemdhpkklaaG
set_option linter.unusedVariables false
attribute [local go_sem] Oper.semAt_some
attribute [local go_sem] isSome_put
attribute [local go_sem] max2_int min2_int max_two min_two max_three min_three max_four min_four

/-- What the iterator hands out. -/
def pl : List S70 → Int → List S70
  | [], t => [⟨t, 0⟩]
  | p :: r, t => ⟨mn p.f0 t, p.f1⟩ :: pl r (t - mn p.f0 t)
/-- What is left of t behind k paces. -/
def rem (l : List S70) (t : Int) (k : Nat) : Int := (l.take k).foldl (fun t p => t - mn p.f0 t) t
def okPaces (l : List S70) : Prop := ∀ p ∈ l, 0 ≤ p.f0 ∧ p.f0 ≤ 1099511627776 ∧ -100000 ≤ p.f1 ∧ p.f1 ≤ 100000

theorem rem_succ (l : List S70) (t : Int) (k : Nat) (h : k < l.length) : rem l t (k + 1) = rem l t k - mn l[k].f0 (rem l t k) := by
  unfold rem
  rw [List.take_succ_eq_append_getElem h, List.foldl_append]
  rfl
theorem rem_bound (l : List S70) (t : Int) (ht : 0 ≤ t) (hl : okPaces l) : ∀ k, k ≤ l.length → 0 ≤ rem l t k ∧ rem l t k ≤ t
  | 0, _ => ⟨by simpa [rem] using ht, by simp [rem]⟩
  | k + 1, h => by
    have ih := rem_bound l t ht hl k (by omega)
    have hp := hl l[k] (List.getElem_mem (by omega))
    rw [rem_succ l t k (by omega)]
    unfold mn
    split <;> omega
theorem pl_take (l : List S70) : ∀ (t : Int) (k : Nat) (h : k < l.length), (pl l t).take (k + 1) = (pl l t).take k ++ [⟨mn l[k].f0 (rem l t k), l[k].f1⟩] := by
  induction l with
  | nil => intro t k h; simp at h
  | cons p r ih =>
    intro t k h
    cases k with
    | zero => simp [pl, rem]
    | succ k =>
      have := ih (t - mn p.f0 t) k (by simpa using h)
      simp only [pl, List.take_succ_cons, List.cons_append, List.getElem_cons_succ]
      rw [this]
      rfl
theorem pl_all (l : List S70) : ∀ (t : Int), (pl l t) = (pl l t).take l.length ++ [⟨rem l t l.length, 0⟩] := by
  induction l with
  | nil => intro t; simp [pl, rem]
  | cons p r ih =>
    intro t
    have := ih (t - mn p.f0 t)
    simp only [pl, List.length_cons, List.take_succ_cons, List.cons_append]
    conv => lhs; rw [this]
    rfl
theorem pl_length (l : List S70) : ∀ t, (pl l t).length = l.length + 1 := by
  induction l with
  | nil => intro t; rfl
  | cons p r ih => intro t; simp [pl, ih]

theorem grownBy_setAny (W : World) (b j : Nat) (v : Value) : W.grownBy (W.setCell ⟨b, j, none⟩ v) (some b) :=
  ⟨rfl, rfl, rfl, (KeepsWalks.setCell W _ v).size, fun k _ hk => Below.heap_setCell _ _ _ k (fun e => hk (by rw [e]))⟩

def KpT (B Bt : Nat) (W W' : World) : Prop := Below B W W' ∧ W'.heap[Bt]? = W.heap[Bt]?
def TkT (L Bt : Nat) (A B : World) : Prop := ∃ b j v, (b = Bt ∨ L ≤ b) ∧ B = A.setCell ⟨b, j, none⟩ v

set_option maxRecDepth 100000 in
set_option maxHeartbeats 2000000 in
theorem parts_seq (F : Fence) (n : Nat) (hF : F.fn 47) (hro : F.round = none) (hn : 1 ≤ n) (w0 wL : World) (A : Option Addr) (l : List S70) (c : Nat) (t : Int) (Bl Bt : Nat)
    (hr : Kd.C k70 w0 A l.length l) (hB : Below w0.heap.size w0 wL) (h1 : Boxed wL Bl 46 (.slice A l.length c)) (h2 : Boxed wL Bt 3 (.int .i64 t)) (hne : Bl ≠ Bt) (hlt0 : w0.heap.size ≤ Bt)
    (hok : okPaces l) (ht0 : 0 ≤ t) (ht1 : t ≤ 1099511627776) (hlen : l.length ≤ 100) :
    SeqT F n Try.prog 47 #[.pointer (some ⟨Bl, 0, none⟩), .pointer (some ⟨Bt, 0, none⟩)] (fun x : S70 => #[.agg #[.int .i64 x.f0, .int .i64 x.f1]]) (KpT w0.heap.size Bt) (TkT wL.heap.size Bt) (fun xs => xs = pl l t) (fun _ => True) (l.length + 1) wL := by
  intro lp J Jx W hW hJ hJx hJT hJxT hY h0
  have HRR := Aside0.mk hr
  have HOK := Aside0.mk hok
  have b1 := (Boxed.kept h1 (grown_of_below hW none) (by simp)).cell
  have b2 := Boxed.kept h2 (grown_of_below hW none) (by simp)
  have hBW := Aside0.mk (below_then hB hB.size hW)
  refine callsIn_of_wp Try.func47 rfl hF ?_ hro
  simp only [Try.ntmps47, List.size_toArray, List.length_cons, List.length_nil, Nat.reduceAdd, Nat.reduceSub, Array.replicate_succ, Array.replicate_zero, List.push_toArray, List.append_toArray, List.nil_append, List.cons_append]
  gi_wp2
  gi_loopw [8] (fun i wr => ∃ k : Nat, k ≤ l.length ∧ i = .int .i64 k ∧ J ((pl l t).take k) wr ∧ Aside0 (Boxed wr Bt 3 (.int .i64 (rem l t k))) ∧ Aside0 (Below w0.heap.size w0 wr) ∧ wL.heap.size ≤ wr.heap.size) (fun i _ => l.length - (intOf i).toNat)
  case atStart => exact ⟨0, Nat.zero_le _, rfl, by simpa using h0, ⟨by simpa [rem] using b2⟩, hBW, hW.size⟩
  case round =>
    obtain ⟨k, hk, rfl, hJk, HT, HBr, hsz⟩ := hrel
    by_cases hlt : k < l.length
    · obtain ⟨ad, rfl, hx0, hx1⟩ := at_T70 (Kd.C_below HRR.out HBr.out) (k : Int) (by omega) (by omega)
      have hbt := HT.out.cell
      have hft := HT.out.frozen
      have hbl : Bt < wr.heap.size := HT.out.lt
      have hnl : ¬ (Bt = wr.heap.size) := by omega
      have hnm : ¬ (wr.heap.size = Bt) := by omega
      have hrb := rem_bound l t ht0 HOK.out k (by omega)
      obtain ⟨q1, q2⟩ := hrb
      simp only [Go.IntWalk.toNatUp] at hx0 hx1
      have hrd : rd_T70 l (k : Int) = l[k] := by unfold rd_T70; simp [hlt]
      rw [hrd] at hx0 hx1
      have hp := HOK.out l[k] (List.getElem_mem hlt)
      have HPL := Aside0.mk (pl_take l t k hlt)
      have HRM := Aside0.mk (rem_succ l t k hlt)
      generalize rem l t k = tk at HT hbt q1 q2 HPL HRM
      generalize l[k] = p at hx0 hx1 hp HPL HRM
      clear hrd
      by_cases hm : tk < p.f0
      · have hw : J ((pl l t).take k) ((wr.setCell ⟨Bt, 0, none⟩ (.int .i64 (0))).alloc (.cells #[.int .i64 tk, .int .i64 p.f1] 70)) :=
          hJ _ _ _ none (hJT _ _ _ hJk ⟨Bt, 0, _, .inl rfl, rfl⟩) (World.grownBy_alloc _ _ none) (by simp)
        obtain ⟨fn, tmps, assign, body, hy, hR⟩ := hY _ ⟨tk, p.f1⟩ _ hw (by rw [List.length_take, pl_length]; omega)
        have HR := Aside0.mk hR
        have HS := Aside0.mk (show (pl l t).take (k + 1) = (pl l t).take k ++ [⟨tk, p.f1⟩] by rw [HPL.out, show mn p.f0 tk = tk from by unfold mn; first | rw [if_pos hm] | rw [if_neg (by omega)]])
        have HE := Aside0.mk (show rem l t (k + 1) = 0 by rw [HRM.out, show mn p.f0 tk = tk from by unfold mn; first | rw [if_pos hm] | rw [if_neg (by omega)]] <;> omega)
        have HB1 := Aside0.mk (Boxed.alloc (Boxed.set (.int .i64 (0)) HT.out) (.cells #[.int .i64 tk, .int .i64 p.f1] 70))
        have HB2 := Aside0.mk ((HBr.out.setCell (p := ⟨Bt, 0, none⟩) hlt0 (.int .i64 (0))).alloc (by have := HBr.out.size; simp; omega) (.cells #[.int .i64 tk, .int .i64 p.f1] 70))
        clear hR hw hJk
        gi_wp2
        refine HR.out.mono ?_
        rintro e W3 (⟨rfl, hJ3, hk3⟩ | ⟨rfl, hJ3⟩)
        · have HK3 := Aside0.mk hk3
          clear hk3
          gi_wp2
          go_roundw
          case rel => exact ⟨k + 1, by omega, by go_num, by rw [HS.out]; exact hJ3, ⟨by rw [HE.out]; exact HK3.out.2.trans HB1.out⟩, ⟨HB2.out.trans HK3.out.1⟩, by have := HK3.out.1.size; simp at this; omega⟩
          case measure => simp [intOf]; omega
        · gi_wp2
          refine bodyPost_ret (results_none rfl _ _ _) rfl ?_
          exact ⟨⟨_, rfl⟩, .inr ⟨_, trivial, hJ3⟩⟩
      · have hw : J ((pl l t).take k) ((wr.setCell ⟨Bt, 0, none⟩ (.int .i64 (tk - p.f0))).alloc (.cells #[.int .i64 p.f0, .int .i64 p.f1] 70)) :=
          hJ _ _ _ none (hJT _ _ _ hJk ⟨Bt, 0, _, .inl rfl, rfl⟩) (World.grownBy_alloc _ _ none) (by simp)
        obtain ⟨fn, tmps, assign, body, hy, hR⟩ := hY _ ⟨p.f0, p.f1⟩ _ hw (by rw [List.length_take, pl_length]; omega)
        have HR := Aside0.mk hR
        have HS := Aside0.mk (show (pl l t).take (k + 1) = (pl l t).take k ++ [⟨p.f0, p.f1⟩] by rw [HPL.out, show mn p.f0 tk = p.f0 from by unfold mn; first | rw [if_pos hm] | rw [if_neg (by omega)]])
        have HE := Aside0.mk (show rem l t (k + 1) = tk - p.f0 by rw [HRM.out, show mn p.f0 tk = p.f0 from by unfold mn; first | rw [if_pos hm] | rw [if_neg (by omega)]] <;> omega)
        have HB1 := Aside0.mk (Boxed.alloc (Boxed.set (.int .i64 (tk - p.f0)) HT.out) (.cells #[.int .i64 p.f0, .int .i64 p.f1] 70))
        have HB2 := Aside0.mk ((HBr.out.setCell (p := ⟨Bt, 0, none⟩) hlt0 (.int .i64 (tk - p.f0))).alloc (by have := HBr.out.size; simp; omega) (.cells #[.int .i64 p.f0, .int .i64 p.f1] 70))
        clear hR hw hJk
        gi_wp2
        refine HR.out.mono ?_
        rintro e W3 (⟨rfl, hJ3, hk3⟩ | ⟨rfl, hJ3⟩)
        · have HK3 := Aside0.mk hk3
          clear hk3
          gi_wp2
          go_roundw
          case rel => exact ⟨k + 1, by omega, by go_num, by rw [HS.out]; exact hJ3, ⟨by rw [HE.out]; exact HK3.out.2.trans HB1.out⟩, ⟨HB2.out.trans HK3.out.1⟩, by have := HK3.out.1.size; simp at this; omega⟩
          case measure => simp [intOf]; omega
        · gi_wp2
          refine bodyPost_ret (results_none rfl _ _ _) rfl ?_
          exact ⟨⟨_, rfl⟩, .inr ⟨_, trivial, hJ3⟩⟩
    · obtain rfl : k = l.length := by omega
      have hbt := HT.out.cell
      have hq := rem_bound l t ht0 HOK.out l.length (by omega)
      have HPL := Aside0.mk (pl_all l t)
      obtain ⟨fn, tmps, assign, body, hy, hR⟩ := hY _ ⟨rem l t l.length, 0⟩ _ hJk (by rw [List.length_take, pl_length]; omega)
      have HR := Aside0.mk hR
      clear hR
      gi_wp2
      refine HR.out.mono ?_
      rintro e W3 (⟨rfl, hJ3, hk3⟩ | ⟨rfl, hJ3⟩)
      · gi_wp2
        go_end0
        exact ⟨⟨_, rfl⟩, .inl ⟨_, rfl, by rw [HPL.out]; exact hJ3⟩⟩
      · gi_wp2
        go_end0
        exact ⟨⟨_, rfl⟩, .inr ⟨_, trivial, hJ3⟩⟩

theorem parts_calls (A : Option Addr) (m c : Nat) (t : Int) (w : World) : Calls Try.prog 46 #[.slice A m c, .int .i64 t] w fun e w' =>
    e = .returned (.func (.func 47) #[] #[.pointer (some ⟨w.heap.size, 0, none⟩), .pointer (some ⟨w.heap.size + 1, 0, none⟩)]) ∧ (w.alloc (.cells #[.slice A m c] 46)).alloc (.cells #[.int .i64 t] 3) = w' := by
  go_enter Try.func46, Try.ntmps46
  go_wp2
  go_ret
  exact ⟨rfl, rfl⟩

def okp (D : Int) (p : S70) : Bool := decide (0 ≤ p.f0) && decide (p.f0 ≤ 1099511627776) && decide (p.f1 ≤ D) && decide (-D ≤ p.f1)
def rightB (l : List S70) (D : Int) : Bool := l.all (okp D) && decide (l.length ≤ 100)

theorem right_ev (l : List S70) (D : Int) (h0 : -1000000000 ≤ D) (h1 : D ≤ 1000000000) (hl : l.length ≤ 8796093022208) : ∀ (d i : Nat), i + d = l.length →
    Ev (fun k => clock_right.l0 k l D l (l.length : Int) (i : Int)) ((l.drop i).all (okp D) && decide (l.length ≤ 100)) := by
  have hn : wrap64 (-D) = -D := by unfold wrap64; omega
  intro d
  induction d with
  | zero =>
    intro i hi
    refine ⟨1, fun k hk => ?_⟩
    obtain ⟨k, rfl⟩ : ∃ m, k = m + 1 := ⟨k - 1, by omega⟩
    simp only [clock_right.l0]
    rw [if_neg (by omega), List.drop_of_length_le (by omega)]
    simp only [List.all_nil, Bool.true_and, Option.some.injEq, decide_eq_decide]
    omega
  | succ d ih =>
    intro i hi
    obtain ⟨K, hK⟩ := ih (i + 1) (by omega)
    refine ⟨K + 1, fun k hk => ?_⟩
    obtain ⟨k, rfl⟩ : ∃ m, k = m + 1 := ⟨k - 1, by omega⟩
    have hlt : i < l.length := by omega
    have hrd : rd_T70 l (i : Int) = l[i] := by unfold rd_T70; simp [hlt]
    have hw : wrap64 ((i : Int) + 1) = ((i + 1 : Nat) : Int) := by unfold wrap64; omega
    have hd : l.drop i = l[i] :: l.drop (i + 1) := List.drop_eq_getElem_cons hlt
    have hk' : clock_right.l0 k l D l (l.length : Int) ((i + 1 : Nat) : Int) = some ((l.drop (i + 1)).all (okp D) && decide (l.length ≤ 100)) := hK k (by omega)
    simp only [clock_right.l0, hrd, hn, hw]
    rw [if_pos (by omega), if_pos (by omega), if_pos (by omega), hd, List.all_cons]
    generalize l[i] = p at *
    unfold okp at *
    by_cases c1 : p.f0 < 0
    · rw [if_pos c1]; simp [show ¬ (0 ≤ p.f0) by omega]
    rw [if_neg c1]
    by_cases c2 : p.f0 > 1099511627776
    · rw [if_pos c2]; simp [show ¬ (p.f0 ≤ 1099511627776) by omega]
    rw [if_neg c2]
    by_cases c3 : p.f1 > D
    · rw [if_pos c3]; simp [show ¬ (p.f1 ≤ D) by omega]
    rw [if_neg c3]
    by_cases c4 : p.f1 < -D
    · rw [if_pos c4]; simp [show ¬ (-D ≤ p.f1) by omega]
    rw [if_neg c4, hk']
    simp [show 0 ≤ p.f0 by omega, show p.f0 ≤ 1099511627776 by omega, show p.f1 ≤ D by omega, show -D ≤ p.f1 by omega]

theorem right_rounds (l : List S70) (D : Int) (h0 : -1000000000 ≤ D) (h1 : D ≤ 1000000000) (hl : l.length ≤ 8796093022208) : ∃ k, clock_right.f k l D = some (rightB l D) := by
  obtain ⟨k, hk⟩ := (right_ev l D h0 h1 hl l.length 0 (by omega)).rounds
  exact ⟨k, by unfold clock_right.f rightB; simpa using hk⟩

def stepP (s : Int) (p : S70) : Int := wrap64 (s + wrap64 (p.f0 * wrap64 (1000000 + p.f1)))
def sumP (xs : List S70) : Int := xs.foldl stepP 0
def clock_Show.f (a0 : Int) (l1 : List (S70)) (a2 : Int) : Option (Int × Int) :=
  if l1.length ≤ 8796093022208 then
    if a0 < 0 ∨ a0 > 1099511627776 ∨ a2 < 0 ∨ a2 > 1099511627776 ∨ rightB l1 100000 = false then some (0, 1)
    else if wrap64 (a0 + wrap64 (Int.tdiv (sumP (pl l1 a2)) 1000000)) > 2199023255552 then some (0, 2)
    else some (wrap64 (a0 + wrap64 (Int.tdiv (sumP (pl l1 a2)) 1000000)), 0)
  else none

theorem okPaces_of (l : List S70) (h : rightB l 100000 = true) : okPaces l ∧ l.length ≤ 100 := by
  unfold rightB at h
  simp only [Bool.and_eq_true, List.all_eq_true, decide_eq_true_eq] at h
  refine ⟨fun p hp => ?_, h.2⟩
  have := h.1 p hp
  unfold okp at this
  simp only [Bool.and_eq_true, decide_eq_true_eq] at this
  omega

theorem sumP_snoc (xs : List S70) (x : S70) : sumP (xs ++ [x]) = stepP (sumP xs) x := by unfold sumP; rw [List.foldl_append]; rfl

set_option maxRecDepth 100000 in
set_option maxHeartbeats 4000000 in
theorem clock_Show.calls (a0 : Int) (A1 : Option Addr) (c1 : Nat) (l1 : List (S70)) (a2 : Int) (r1 : Int) (r2 : Int) (w : World) (hr1 : Kd.C k70 w A1 l1.length l1) (hc1 : l1.length ≤ c1) (h : clock_Show.f a0 l1 a2 = some (r1, r2)) :
    Calls Try.prog 26 #[.int .i64 a0, .slice A1 l1.length c1, .int .i64 a2] w fun e w' => e = .returned (.tuple #[.int .i64 r1, .int .i64 r2]) ∧ Below w.heap.size w w' := by
  unfold clock_Show.f at h
  by_cases hlen' : ¬ l1.length ≤ 8796093022208
  · rw [if_neg hlen'] at h; cases h
  have hlen : l1.length ≤ 8796093022208 := by omega
  clear hlen'
  rw [if_pos hlen] at h
  obtain ⟨kr, hkr⟩ := right_rounds l1 100000 (by omega) (by omega) hlen
  have HR := Aside0.mk hr1
  have HC := Aside0.mk hc1
  have HK := Aside0.mk hkr
  clear hr1 hc1 hkr
  by_cases q1 : a0 < 0
  · rw [if_pos (.inl q1)] at h
    obtain ⟨rfl, rfl⟩ : (0 : Int) = r1 ∧ (1 : Int) = r2 := by simpa using h
    clear h
    go_enter Try.func26, Try.ntmps26
    go_wp2
    go_ret2
    exact ⟨rfl, Below.refl _ _⟩
  by_cases q2 : a0 > 1099511627776
  · rw [if_pos (.inr (.inl q2))] at h
    obtain ⟨rfl, rfl⟩ : (0 : Int) = r1 ∧ (1 : Int) = r2 := by simpa using h
    clear h
    go_enter Try.func26, Try.ntmps26
    go_wp2
    go_ret2
    exact ⟨rfl, Below.refl _ _⟩
  by_cases q3 : a2 < 0
  · rw [if_pos (.inr (.inr (.inl q3)))] at h
    obtain ⟨rfl, rfl⟩ : (0 : Int) = r1 ∧ (1 : Int) = r2 := by simpa using h
    clear h
    go_enter Try.func26, Try.ntmps26
    go_wp2
    go_ret2
    exact ⟨rfl, Below.refl _ _⟩
  by_cases q4 : a2 > 1099511627776
  · rw [if_pos (.inr (.inr (.inr (.inl q4))))] at h
    obtain ⟨rfl, rfl⟩ : (0 : Int) = r1 ∧ (1 : Int) = r2 := by simpa using h
    clear h
    go_enter Try.func26, Try.ntmps26
    go_wp2
    go_ret2
    exact ⟨rfl, Below.refl _ _⟩
  cases hb : rightB l1 100000 with
  | false =>
    rw [if_pos (.inr (.inr (.inr (.inr hb))))] at h
    obtain ⟨rfl, rfl⟩ : (0 : Int) = r1 ∧ (1 : Int) = r2 := by simpa using h
    clear h
    have HK2 := Aside0.mk (show clock_right.f kr l1 100000 = some false by rw [HK.out, hb])
    clear hb HK
    go_enter Try.func26, Try.ntmps26
    go_wp2_with (go_at_call 45; refine (clock_right.calls kr A1 c1 l1 100000 false _ HR.out HC.out HK2.out).mono ?_; rintro e w1 ⟨rfl, hb1⟩; have HB1 := Aside0.mk hb1; clear hb1)
    go_ret2
    exact ⟨rfl, HB1.out⟩
  | true =>
    have HK2 := Aside0.mk (show clock_right.f kr l1 100000 = some true by rw [HK.out, hb])
    obtain ⟨hok, hlen2⟩ := okPaces_of l1 hb
    rw [if_neg (by rw [hb]; simp; omega)] at h
    have HOK := Aside0.mk hok
    have HH := Aside0.mk h
    clear hb HK h hok
    refine (callsIn_wide (n := 9)).1 ?_
    refine callsIn_of_wp_marks Try.func26 rfl trivial ?_ rfl
    simp only [Try.ntmps26, List.size_toArray, List.length_cons, List.length_nil, Nat.reduceAdd, Nat.reduceSub, Array.replicate_succ, Array.replicate_zero, List.push_toArray, List.append_toArray, List.nil_append, List.cons_append]
    gi_wp2_with (first
      | (refine ⟨trivial, ?_⟩; gi_at_call 45; refine (callsIn_wide.2 (clock_right.calls kr A1 c1 l1 100000 true _ HR.out HC.out HK2.out)).mono ?_; rintro e w1 ⟨rfl, hb1⟩; have HB1 := Aside0.mk hb1; clear hb1)
      | (refine ⟨trivial, ?_⟩; gi_at_call 46; refine (callsIn_wide.2 (parts_calls A1 l1.length c1 a2 _)).mono ?_; rintro e w2 ⟨rfl, rfl⟩))
    have bS := (Boxed.new w1 3 (.int .i64 0)).alloc (.cells #[.slice A1 l1.length c1] 46) |>.alloc (.cells #[.int .i64 a2] 3)
    have bL := (Boxed.new (w1.alloc (.cells #[.int .i64 0] 3)) 46 (.slice A1 l1.length c1)).alloc (.cells #[.int .i64 a2] 3)
    have bT := Boxed.new ((w1.alloc (.cells #[.int .i64 0] 3)).alloc (.cells #[.slice A1 l1.length c1] 46)) 3 (.int .i64 a2)
    simp only [World.size_alloc] at bL bT
    have hB0 : Below w1.heap.size w1 (((w1.alloc (.cells #[.int .i64 0] 3)).alloc (.cells #[.slice A1 l1.length c1] 46)).alloc (.cells #[.int .i64 a2] 3)) := (((Below.refl _ w1).alloc (Nat.le_refl _) _).alloc (by simp) _).alloc (by simp; omega) _
    have hsz : (((w1.alloc (.cells #[.int .i64 0] 3)).alloc (.cells #[.slice A1 l1.length c1] 46)).alloc (.cells #[.int .i64 a2] 3)).heap.size = w1.heap.size + 3 := by simp
    obtain ⟨W0, hW0⟩ : ∃ W0, ((w1.alloc (.cells #[.int .i64 0] 3)).alloc (.cells #[.slice A1 l1.length c1] 46)).alloc (.cells #[.int .i64 a2] 3) = W0 := ⟨_, rfl⟩
    rw [hW0] at bS bL bT hB0 hsz ⊢
    clear hW0
    refine range_T (n := 9) rfl (by omega) (gf := 47) (lb := #[.pointer (some ⟨w1.heap.size + 1, 0, none⟩), .pointer (some ⟨w1.heap.size + 1 + 1, 0, none⟩)]) rfl trivial (enters_of Try.func47 (by kernel_rfl) rfl)
      (parts_seq Fence.wide (9 - 1) trivial rfl (by omega) w1 W0 A1 l1 c1 a2 (w1.heap.size + 1) (w1.heap.size + 1 + 1) (Kd.C_below HR.out HB1.out) hB0 bL bT (by omega) (by omega) HOK.out q3 q4 hlen2)
      (fun A B k o hT hk ho => by obtain ⟨b, j, v, _, rfl⟩ := hT; exact (KeepsOthers.setCell A ⟨b, j, none⟩ v).same k o hk ho)
      (fun h k => ⟨h.1.trans k.1, k.2.trans h.2⟩)
      (fun W l o o' hl h1 h2 h3 => ⟨belowK_b (w := w1) (Nat.le_refl _) W l o o' (by omega) h1 h2 h3, World.putObj_heap_other (by omega)⟩)
      (Below.refl _ _) (fun _ => rfl)
      (fun pre W => (Boxed W w1.heap.size 3 (.int .i64 (sumP pre)) ∧ Below w1.heap.size w1 W) ∧ w1.heap.size + 3 ≤ W.heap.size)
      (fun _ _ _ => False)
      (OwnFrom.and (OwnFrom.and (Own.from (boxed_own _ _ _) _) (ownFrom_below (Nat.le_refl _) (by omega))) (fun _ _ _ _ hs hg _ => Nat.le_trans hs hg.size))
      (fun _ _ _ _ _ hs _ _ => hs)
      (fun s A B hs hT => by obtain ⟨b, j, v, hb, rfl⟩ := hT; exact ⟨⟨hs.1.1.kept (grownBy_setAny A b j v) (fun e => by cases e; omega), hs.1.2.setCell (p := ⟨b, j, none⟩) (by show w1.heap.size ≤ b; omega) _⟩, Nat.le_trans hs.2 (grownBy_setAny A b j v).size⟩)
      (fun _ _ _ _ hs _ => hs)
      ⟨⟨bS, hB0⟩, by omega⟩
      (fun x a' W => ∃ Bx, w1.heap.size + 1 + 1 < Bx ∧ W.heap[Bx]? = some (.cells #[.int .i64 x.f0, .int .i64 x.f1] 70 (0, 0)) ∧ a' = { tmps := #[.int .i64 a0, .slice A1 l1.length c1, .int .i64 a2, undef, undef, undef, .int .i64 0, .int .i64 0, .pointer (some ⟨w1.heap.size, 0, none⟩), .pointer (some ⟨Bx, 0, none⟩), undef, .int .i64 a0, .bool false, .bool false, .int .i64 a0, .bool false, .bool false, .bool false, .int .i64 a2, .bool false, .bool false, .bool false, .int .i64 a2, .bool false, .bool false, .bool false, .slice A1 l1.length c1, .bool true, .bool false, .bool false, .slice A1 l1.length c1, .int .i64 a2, .func (.func 47) #[] #[.pointer (some ⟨w1.heap.size + 1, 0, none⟩), .pointer (some ⟨w1.heap.size + 1 + 1, 0, none⟩)], .agg #[.int .i64 x.f0, .int .i64 x.f1], undef, undef, undef, undef, undef, undef, undef, undef, undef, undef, undef, undef, undef, undef, undef], defers := [] })
      (fun x a' _ X Y row hs hg hr => by obtain ⟨Bx, h1, h2, h3⟩ := hs; exact ⟨Bx, h1, (hg.block Bx (blk_lt h2) (fun e => by obtain ⟨_, o, ho, hc⟩ := hr Bx e.symm; rw [h2] at ho; cases ho; cases hc)).trans h2, h3⟩)
      ?assign ?body ?done ?stop
    case assign =>
      rintro l pre x W K ⟨⟨bS1, hB1⟩, hs1⟩ hK
      gi_wp2
      exact hK _ _ ((KeepsOthers.alloc _ _).from _) ⟨(Below.refl _ W).alloc hB1.size _, Below.heap_alloc W _ _ (by omega)⟩ ⟨⟨bS1.alloc _, hB1.alloc hB1.size _⟩, by simp; omega⟩ ⟨W.heap.size, by omega, blk_new W _, rfl⟩
    case body =>
      rintro l pre x a' W hl ⟨r, hr⟩ ⟨⟨bS1, hB1⟩, hs1⟩ ⟨Bx, hBx, bX, rfl⟩ hlt
      have cS := bS1.cell
      have fS := bS1.frozen
      have cX0 : W.cell? ⟨Bx, 0, none⟩ = some (.int .i64 x.f0) := (blk_cell bX 0).trans rfl
      have cX1 : W.cell? ⟨Bx, 1, none⟩ = some (.int .i64 x.f1) := (blk_cell bX 1).trans rfl
      gi_wp2
      exact ⟨(KeepsOthers.setCell _ _ _).from _, ⟨(Below.refl _ W).setCell (p := ⟨w1.heap.size, 0, none⟩) (Nat.le_refl _) _, (grownBy_setCell' W w1.heap.size _).block _ (by omega) (by simp; omega)⟩, ⟨by rw [sumP_snoc]; exact bS1.set _, hB1.setCell (p := ⟨w1.heap.size, 0, none⟩) (Nat.le_refl _) _⟩, Nat.le_trans hs1 (grownBy_setCell' W w1.heap.size _).size⟩
    case done =>
      rintro D xs W hD rfl ⟨⟨bS1, hB2⟩, hs1⟩ hK
      have cS := bS1.cell
      have hh := HH.out
      clear HH
      generalize sumP (pl l1 a2) = N at cS hh bS1
      have HBE := Aside0.mk (below_then HB1.out HB1.out.size hB2)
      by_cases hq : wrap64 (a0 + wrap64 (Int.tdiv N 1000000)) > 2199023255552
      · rw [if_pos hq] at hh
        obtain ⟨rfl, rfl⟩ : (0 : Int) = r1 ∧ (2 : Int) = r2 := by simpa using hh
        clear hh
        gi_wp2
        refine ⟨by simp, .inl ⟨_, _, rfl, run_takeDeferred hK, ?_⟩⟩
        exact ⟨_, results_tmp2 rfl _ _ _, rfl, HBE.out.trans (belowK_b (w := w) (Nat.le_refl _) W D _ _ (by have := HB1.out.size; omega) hK rfl rfl)⟩
      · rw [if_neg hq] at hh
        obtain ⟨hr1, rfl⟩ : wrap64 (a0 + wrap64 (Int.tdiv N 1000000)) = r1 ∧ (0 : Int) = r2 := by simpa using hh
        have HR1 := Aside0.mk hr1
        clear hh hr1
        gi_wp2
        refine ⟨by simp, .inl ⟨_, _, rfl, run_takeDeferred hK, ?_⟩⟩
        exact ⟨_, results_tmp2 rfl _ _ _, by rw [← HR1.out]; rfl, HBE.out.trans (belowK_b (w := w) (Nat.le_refl _) W D _ _ (by have := HB1.out.size; omega) hK rfl rfl)⟩
    case stop =>
      rintro D c pre W _ _ h _
      exact h.elim
end Go.Proofs.Ytijeiemdhpkklaa.PP
