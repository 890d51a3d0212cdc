import Derived.Test.YtekbhcciabgnhaaPP0
import Derived.Test.YtekbhcciabgnhaaPP1
import Derived.Test.YtekbhcciabgnhaaPP2
import Derived.Test.YtekbhcciabgnhaaPP3
import Derived.Test.YtekbhcciabgnhaaPP4
import Derived.Test.YtekbhcciabgnhaaPP5
import Derived.Test.YtekbhcciabgnhaaPP6
import Derived.Test.YtekbhcciabgnhaaGFull
import Derived.Test.YtekbhcciabgnhaaGSame
import Derived.Shelf.Abstract
import Derived.Lib.SliceRun
import Derived.Laws.Cover3
import Derived.Shelf.RegionOpen
import Derived.WalkKit
import Derived.OwnWalkIn
import Derived.TacticsInMore
import Derived.LoopNIn
namespace Go.Proofs.Ytekbhcciabgnhaa.PP
open Go.RowKit Go.Proofs.YtekbhcciabgnhaaW.PrintWords Go.Proofs.YtekbhcciabgnhaaW.PrintLast Go.Proofs.YtekbhcciabgnhaaW.PrintMore
set_option linter.unusedVariables false
attribute [local go_sem] isSome_put
def weirgatelaw01_WireListRoundTrip.f (k : Nat) (a0 : ByteArray) (l1 : List Int) (l2 : List ByteArray) (l3 : List (S57)) (l4 : List Int) : Option Bool :=
  if (wrap64 ((wrap64 ((wrap64 ((a0.size : Int) + (l1.length : Int))) + (l3.length : Int))) + (l4.length : Int))) > 2000 then weirgatelaw01_sanity.f k else (weirgatelaw01_few.f k l2).bind fun fw => if fw = false then weirgatelaw01_sanity.f k else
  (wire_Bytes.f k a0).bind fun a => (wire_Ints.f k l1).bind fun b => (wire_Digests.f k l3).bind fun c => (wire_Strings.f k l2).bind fun o =>
  if a.length + l4.length ≤ 140737488355328 ∧ b.length + l4.length ≤ 140737488355328 ∧ c.length + l4.length ≤ 140737488355328 ∧ o.length + l4.length ≤ 140737488355328 then
  (wire_GetBytes.f k (a ++ l4)).bind fun t1 => (wire_GetInts.f k (b ++ l4)).bind fun t2 => (wire_GetDigests.f k (c ++ l4)).bind fun t3 => (wire_GetStrings.f k (o ++ l4)).bind fun t4 =>
  (weirgatelaw01_sanity.f k).bind fun sn => (weirgateref01_SameTexts.f k t4.1 l2).bind fun st => (weirgateref01_SameInts.f k t2.1 l1).bind fun si => (weirgateref01_SameDigests.f t3.1 l3).bind fun sd =>
  if sn = true ∧ st = true ∧ t4.2.1 = (o.length : Int) ∧ t4.2.2 = 0 ∧ t1.1 = a0 ∧ t1.2.1 = (a.length : Int) ∧ t1.2.2 = 0 ∧ si = true ∧ t2.2.1 = (b.length : Int) ∧ t2.2.2 = 0 ∧ sd = true ∧ t3.2.1 = (c.length : Int) ∧ t3.2.2 = 0 then some true else none
  else none
theorem weirgatelaw01_WireListRoundTrip.mono : ∀ a0 l1 l2 l3 l4 k, LeO (weirgatelaw01_WireListRoundTrip.f k a0 l1 l2 l3 l4) (weirgatelaw01_WireListRoundTrip.f (k + 1) a0 l1 l2 l3 l4) := fun a0 l1 l2 l3 l4 k =>
  LeO.ite (weirgatelaw01_sanity.mono _) (LeO.bind (weirgatelaw01_few.mono _ _) fun _ => LeO.ite (weirgatelaw01_sanity.mono _) (LeO.bind (wire_Bytes.mono _ _) fun _ => LeO.bind (wire_Ints.mono _ _) fun _ => LeO.bind (wire_Digests.mono _ _) fun _ => LeO.bind (wire_Strings.mono _ _) fun _ => LeO.ite (LeO.bind (wire_GetBytes.mono _ _) fun _ => LeO.bind (wire_GetInts.mono _ _) fun _ => LeO.bind (wire_GetDigests.mono _ _) fun _ => LeO.bind (wire_GetStrings.mono _ _) fun _ => LeO.bind (weirgatelaw01_sanity.mono _) fun _ => LeO.bind (weirgateref01_SameTexts.mono _ _ _) fun _ => LeO.bind (weirgateref01_SameInts.mono _ _ _) fun _ => LeO.refl _) (LeO.refl _)))
set_option maxHeartbeats 8000000 in
set_option maxRecDepth 100000 in
theorem weirgatelaw01_WireListRoundTrip.calls (k : Nat) (a0 : ByteArray) (A1 : Option Addr) (c1 : Nat) (l1 : List Int) (A2 : Option Addr) (c2 : Nat) (l2 : List ByteArray) (A3 : Option Addr) (c3 : Nat) (l3 : List (S57)) (A4 : Option Addr) (c4 : Nat) (l4 : List Int) (r : Bool) (w : World) (hr1 : Kd.C (Kd.int .i64) w A1 l1.length l1) (hc1 : l1.length ≤ c1) (hr2 : Kd.C Kd.string w A2 l2.length l2) (hc2 : l2.length ≤ c2) (hr3 : Kd.C k57 w A3 l3.length l3) (hc3 : l3.length ≤ c3) (hr4 : Kd.C (Kd.int .u8) w A4 l4.length l4) (hc4 : l4.length ≤ c4) (h : weirgatelaw01_WireListRoundTrip.f k a0 l1 l2 l3 l4 = some r) :
    Calls Try.prog 8 #[.string a0, .slice A1 l1.length c1, .slice A2 l2.length c2, .slice A3 l3.length c3, .slice A4 l4.length c4] w fun e w' => e = .returned (.bool r) ∧ Below w.heap.size w w' := by
  have HR1 := Aside0.mk hr1
  have HC1 := Aside0.mk hc1
  have HR2 := Aside0.mk hr2
  have HC2 := Aside0.mk hc2
  have HR3 := Aside0.mk hr3
  have HC3 := Aside0.mk hc3
  have HR4 := Aside0.mk hr4
  have HC4 := Aside0.mk hc4
  clear hr1 hc1 hr2 hc2 hr3 hc3 hr4 hc4
  have HB := Aside0.mk (Below.refl w.heap.size w)
  unfold weirgatelaw01_WireListRoundTrip.f at h
  by_cases q1 : (wrap64 ((wrap64 ((wrap64 ((a0.size : Int) + (l1.length : Int))) + (l3.length : Int))) + (l4.length : Int))) > 2000
  · rw [if_pos q1] at h
    have q1b : decide (2000 < (wrap64 ((wrap64 ((wrap64 ((a0.size : Int) + (l1.length : Int))) + (l3.length : Int))) + (l4.length : Int)))) = true := decide_eq_true q1
    have A1 := Aside0.mk h
    clear h q1
    go_enter Try.func8, Try.ntmps8
    go_wp2_with (first | (go_at_call 12; (refine (weirgatelaw01_sanity.calls k r _ A1.out).mono ?_); rintro e w3 ⟨rfl, hb⟩; have n1_ := Aside0.mk (below_step (bk HB.out) hb); clear HB; have HB := n1_; clear n1_ hb))
    go_ret
    exact ⟨rfl, bk HB.out⟩
  · rw [if_neg q1] at h
    have q1b : decide (2000 < (wrap64 ((wrap64 ((wrap64 ((a0.size : Int) + (l1.length : Int))) + (l3.length : Int))) + (l4.length : Int)))) = false := decide_eq_false q1
    clear q1
    obtain ⟨fw, AF0, h⟩ := Option.bind_eq_some_iff.mp h
    have AF := Aside0.mk AF0
    clear AF0
    cases fw with
    | false =>
      rw [if_pos rfl] at h
      have A1 := Aside0.mk h
      clear h
      go_enter Try.func8, Try.ntmps8
      go_wp2_with (first | (go_at_call 11; (refine (weirgatelaw01_few.calls k _ _ l2 false _ ?side1 HC2.out AF.out).mono ?_); (case side1 => repeat (first | exact (Kd.C_below HR2.out (bk HB.out)) | (with_reducible refine Kd.C_alloc ?_ _) | (with_reducible refine Kd.C_drewN ?_ _) | (with_reducible refine Kd.C_drew ?_))); rintro e w1 ⟨rfl, ⟨nd, rfl⟩⟩) | (go_at_call 12; (refine (weirgatelaw01_sanity.calls k r _ A1.out).mono ?_); rintro e w3 ⟨rfl, hb⟩; have n1_ := Aside0.mk (below_step (bk HB.out) hb); clear HB; have HB := n1_; clear n1_ hb))
      go_ret
      exact ⟨rfl, bk HB.out⟩
    | true =>
      rw [if_neg (by decide)] at h
      obtain ⟨a, t_, h⟩ := Option.bind_eq_some_iff.mp h
      have Aa := Aside0.mk t_
      clear t_
      obtain ⟨b, t_, h⟩ := Option.bind_eq_some_iff.mp h
      have Ab := Aside0.mk t_
      clear t_
      obtain ⟨c, t_, h⟩ := Option.bind_eq_some_iff.mp h
      have Ac := Aside0.mk t_
      clear t_
      obtain ⟨o, t_, h⟩ := Option.bind_eq_some_iff.mp h
      have Ao := Aside0.mk t_
      clear t_
      by_cases q2 : a.length + l4.length ≤ 140737488355328 ∧ b.length + l4.length ≤ 140737488355328 ∧ c.length + l4.length ≤ 140737488355328 ∧ o.length + l4.length ≤ 140737488355328
      · rw [if_pos q2] at h
        have LMa := Aside0.mk q2.1
        have LMb := Aside0.mk q2.2.1
        have LMc := Aside0.mk q2.2.2.1
        have LMo := Aside0.mk q2.2.2.2
        clear q2
        obtain ⟨⟨t, i, e⟩, t_, h⟩ := Option.bind_eq_some_iff.mp h
        have G1 := Aside0.mk t_
        clear t_
        obtain ⟨⟨kk, j, f⟩, t_, h⟩ := Option.bind_eq_some_iff.mp h
        have G2 := Aside0.mk t_
        clear t_
        obtain ⟨⟨y, m, g⟩, t_, h⟩ := Option.bind_eq_some_iff.mp h
        have G3 := Aside0.mk t_
        clear t_
        obtain ⟨⟨z, p, hh⟩, t_, h⟩ := Option.bind_eq_some_iff.mp h
        have G4 := Aside0.mk t_
        clear t_
        obtain ⟨sn, t_, h⟩ := Option.bind_eq_some_iff.mp h
        have S0 := Aside0.mk t_
        clear t_
        obtain ⟨st, t_, h⟩ := Option.bind_eq_some_iff.mp h
        have S1 := Aside0.mk t_
        clear t_
        obtain ⟨si, t_, h⟩ := Option.bind_eq_some_iff.mp h
        have S2 := Aside0.mk t_
        clear t_
        obtain ⟨sd, t_, h⟩ := Option.bind_eq_some_iff.mp h
        have S3 := Aside0.mk t_
        clear t_
        by_cases ct : sn = true ∧ st = true ∧ p = (o.length : Int) ∧ hh = 0 ∧ t = a0 ∧ i = (a.length : Int) ∧ e = 0 ∧ si = true ∧ j = (b.length : Int) ∧ f = 0 ∧ sd = true ∧ m = (c.length : Int) ∧ g = 0
        · replace h := (if_pos ct).symm.trans h
          obtain rfl := Option.some.inj h
          clear h
          obtain ⟨rfl, rfl, rfl, rfl, rfl, rfl, rfl, rfl, rfl, rfl, rfl, rfl, rfl⟩ := ct
          go_enter Try.func8, Try.ntmps8
          go_wp2_with (first | (go_at_call 11; (refine (weirgatelaw01_few.calls k _ _ l2 true _ ?side1 HC2.out AF.out).mono ?_); (case side1 => repeat (first | exact (Kd.C_below HR2.out (bk HB.out)) | (with_reducible refine Kd.C_alloc ?_ _) | (with_reducible refine Kd.C_drewN ?_ _) | (with_reducible refine Kd.C_drew ?_))); rintro e w1 ⟨rfl, ⟨nd, rfl⟩⟩) | (go_at_call 16; (refine (wire_Bytes.calls k t a _ Aa.out).mono ?_); rintro e w3 ⟨v, rfl, ho, hb⟩; have nn_ := Aside0.mk (Kd.R_lower ho (below_size (bk HB.out))); have nb_ := Aside0.mk (below_step (bk HB.out) hb); clear HB; have HB := nb_; have HOa := nn_; clear nb_ nn_; clear ho hb; obtain ⟨Aa_, ca_, ea_⟩ := Kd.R_slice HOa.out; subst ea_; have hlea_ := (Kd.R_reads' HOa.out).2.1) | (go_at_call 18; (refine (wire_Ints.calls k _ _ l1 b _ ?side1 HC1.out Ab.out).mono ?_); (case side1 => repeat (first | exact (Kd.C_below HR1.out (bk HB.out)) | (with_reducible refine Kd.C_alloc ?_ _) | (with_reducible refine Kd.C_drewN ?_ _) | (with_reducible refine Kd.C_drew ?_))); rintro e w3 ⟨v, rfl, ho, hb⟩; have n0_ := Aside0.mk (Kd.R_below (rk HOa.out) hb); have nn_ := Aside0.mk (Kd.R_lower ho (below_size (bk HB.out))); have nb_ := Aside0.mk (below_step (bk HB.out) hb); clear HB HOa; have HB := nb_; have HOa := n0_; have HOb := nn_; clear nb_ n0_ nn_; clear ho hb; obtain ⟨Ab_, cb_, eb_⟩ := Kd.R_slice HOb.out; subst eb_; have hleb_ := (Kd.R_reads' HOb.out).2.1) | (go_at_call 22; (refine (wire_Digests.calls k _ _ l3 c _ ?side1 HC3.out Ac.out).mono ?_); (case side1 => repeat (first | exact (Kd.C_below HR3.out (bk HB.out)) | (with_reducible refine Kd.C_alloc ?_ _) | (with_reducible refine Kd.C_drewN ?_ _) | (with_reducible refine Kd.C_drew ?_))); rintro e w3 ⟨v, rfl, ho, hb⟩; have n0_ := Aside0.mk (Kd.R_below (rk HOa.out) hb); have n1_ := Aside0.mk (Kd.R_below (rk HOb.out) hb); have nn_ := Aside0.mk (Kd.R_lower ho (below_size (bk HB.out))); have nb_ := Aside0.mk (below_step (bk HB.out) hb); clear HB HOa HOb; have HB := nb_; have HOa := n0_; have HOb := n1_; have HOc := nn_; clear nb_ n0_ n1_ nn_; clear ho hb; obtain ⟨Ac_, cc_, ec_⟩ := Kd.R_slice HOc.out; subst ec_; have hlec_ := (Kd.R_reads' HOc.out).2.1) | (go_at_call 20; (refine (wire_Strings.calls k _ _ l2 o _ ?side1 HC2.out Ao.out).mono ?_); (case side1 => repeat (first | exact (Kd.C_below HR2.out (bk HB.out)) | (with_reducible refine Kd.C_alloc ?_ _) | (with_reducible refine Kd.C_drewN ?_ _) | (with_reducible refine Kd.C_drew ?_))); rintro e w3 ⟨v, rfl, ho, hb⟩; have n0_ := Aside0.mk (Kd.R_below (rk HOa.out) hb); have n1_ := Aside0.mk (Kd.R_below (rk HOb.out) hb); have n2_ := Aside0.mk (Kd.R_below (rk HOc.out) hb); have nn_ := Aside0.mk (Kd.R_lower ho (below_size (bk HB.out))); have nb_ := Aside0.mk (below_step (bk HB.out) hb); clear HB HOa HOb HOc; have HB := nb_; have HOa := n0_; have HOb := n1_; have HOc := n2_; have HOo := nn_; clear nb_ n0_ n1_ n2_ nn_; clear ho hb; obtain ⟨Ao_, co_, eo_⟩ := Kd.R_slice HOo.out; subst eo_; have hleo_ := (Kd.R_reads' HOo.out).2.1) | ((with_reducible refine gate_builtin (b := .append) (xs := #[.tmp 59, .tmp 60]) rfl ?_); at_builtin; refine append_full rfl (.tmp 59) (.tmp 60) rfl a l4 rfl rfl ?cA ?cB LMa.out ?_; (case cA => repeat (first | exact (Kd.R_reads' HOa.out).2.2 | (with_reducible refine Kd.C_alloc ?_ _) | (with_reducible refine Kd.C_drewN ?_ _) | (with_reducible refine Kd.C_drew ?_))); (case cB => repeat (first | exact (Kd.C_below HR4.out (bk HB.out)) | (with_reducible refine Kd.C_alloc ?_ _) | (with_reducible refine Kd.C_drewN ?_ _) | (with_reducible refine Kd.C_drew ?_))); intro A9 c9 w9 hc9 hl9 hb; have C9 := Aside0.mk hc9; have L9 := Aside0.mk hl9; have n0_ := Aside0.mk (Kd.R_below (rk HOa.out) hb); have n1_ := Aside0.mk (Kd.R_below (rk HOb.out) hb); have n2_ := Aside0.mk (Kd.R_below (rk HOc.out) hb); have n3_ := Aside0.mk (Kd.R_below (rk HOo.out) hb); have nb_ := Aside0.mk (below_step (bk HB.out) hb); clear HB HOa HOb HOc HOo; have HB := nb_; have HOa := n0_; have HOb := n1_; have HOc := n2_; have HOo := n3_; clear nb_ n0_ n1_ n2_ n3_; clear hb hc9 hl9) | (go_at_call 26; (refine calls_of_args (args' := #[.slice A9 (a ++ l4).length c9]) (by first | rfl | simp) ?_); (refine (wire_GetBytes.calls k _ _ (a ++ l4) t (a.length : Int) 0 _ ?side1 ?side2 G1.out).mono ?_); (case side1 => repeat (first | exact C9.out | (with_reducible refine Kd.C_alloc ?_ _) | (with_reducible refine Kd.C_drewN ?_ _) | (with_reducible refine Kd.C_drew ?_))); (case side2 => exact L9.out); rintro e w5 ⟨rfl, ⟨nd, rfl⟩⟩; clear C9 L9) | ((with_reducible refine gate_builtin (b := .append) (xs := #[.tmp 72, .tmp 73]) rfl ?_); at_builtin; refine append_full rfl (.tmp 72) (.tmp 73) rfl b l4 rfl rfl ?cA ?cB LMb.out ?_; (case cA => repeat (first | exact (Kd.R_reads' HOb.out).2.2 | (with_reducible refine Kd.C_alloc ?_ _) | (with_reducible refine Kd.C_drewN ?_ _) | (with_reducible refine Kd.C_drew ?_))); (case cB => repeat (first | exact (Kd.C_below HR4.out (bk HB.out)) | (with_reducible refine Kd.C_alloc ?_ _) | (with_reducible refine Kd.C_drewN ?_ _) | (with_reducible refine Kd.C_drew ?_))); intro A9 c9 w9 hc9 hl9 hb; have C9 := Aside0.mk hc9; have L9 := Aside0.mk hl9; have n0_ := Aside0.mk (Kd.R_below (rk HOa.out) hb); have n1_ := Aside0.mk (Kd.R_below (rk HOb.out) hb); have n2_ := Aside0.mk (Kd.R_below (rk HOc.out) hb); have n3_ := Aside0.mk (Kd.R_below (rk HOo.out) hb); have nb_ := Aside0.mk (below_step (bk HB.out) hb); clear HB HOa HOb HOc HOo; have HB := nb_; have HOa := n0_; have HOb := n1_; have HOc := n2_; have HOo := n3_; clear nb_ n0_ n1_ n2_ n3_; clear hb hc9 hl9) | (go_at_call 28; (refine calls_of_args (args' := #[.slice A9 (b ++ l4).length c9]) (by first | rfl | simp) ?_); (refine (wire_GetInts.calls k _ _ (b ++ l4) kk (b.length : Int) 0 _ ?side1 ?side2 G2.out).mono ?_); (case side1 => repeat (first | exact C9.out | (with_reducible refine Kd.C_alloc ?_ _) | (with_reducible refine Kd.C_drewN ?_ _) | (with_reducible refine Kd.C_drew ?_))); (case side2 => exact L9.out); rintro e w5 ⟨v, rfl, ho, hb⟩; have n0_ := Aside0.mk (Kd.R_below (rk HOa.out) hb); have n1_ := Aside0.mk (Kd.R_below (rk HOb.out) hb); have n2_ := Aside0.mk (Kd.R_below (rk HOc.out) hb); have n3_ := Aside0.mk (Kd.R_below (rk HOo.out) hb); have nn_ := Aside0.mk (Kd.R_lower ho (below_size (bk HB.out))); have nb_ := Aside0.mk (below_step (bk HB.out) hb); clear HB HOa HOb HOc HOo; have HB := nb_; have HOa := n0_; have HOb := n1_; have HOc := n2_; have HOo := n3_; have HOk := nn_; clear nb_ n0_ n1_ n2_ n3_ nn_; clear ho hb C9 L9; obtain ⟨Ak_, ck_, ek_⟩ := Kd.R_slice HOk.out; subst ek_) | ((with_reducible refine gate_builtin (b := .append) (xs := #[.tmp 85, .tmp 86]) rfl ?_); at_builtin; refine append_full rfl (.tmp 85) (.tmp 86) rfl c l4 rfl rfl ?cA ?cB LMc.out ?_; (case cA => repeat (first | exact (Kd.R_reads' HOc.out).2.2 | (with_reducible refine Kd.C_alloc ?_ _) | (with_reducible refine Kd.C_drewN ?_ _) | (with_reducible refine Kd.C_drew ?_))); (case cB => repeat (first | exact (Kd.C_below HR4.out (bk HB.out)) | (with_reducible refine Kd.C_alloc ?_ _) | (with_reducible refine Kd.C_drewN ?_ _) | (with_reducible refine Kd.C_drew ?_))); intro A9 c9 w9 hc9 hl9 hb; have C9 := Aside0.mk hc9; have L9 := Aside0.mk hl9; have n0_ := Aside0.mk (Kd.R_below (rk HOa.out) hb); have n1_ := Aside0.mk (Kd.R_below (rk HOb.out) hb); have n2_ := Aside0.mk (Kd.R_below (rk HOc.out) hb); have n3_ := Aside0.mk (Kd.R_below (rk HOo.out) hb); have n4_ := Aside0.mk (Kd.R_below (rk HOk.out) hb); have nb_ := Aside0.mk (below_step (bk HB.out) hb); clear HB HOa HOb HOc HOo HOk; have HB := nb_; have HOa := n0_; have HOb := n1_; have HOc := n2_; have HOo := n3_; have HOk := n4_; clear nb_ n0_ n1_ n2_ n3_ n4_; clear hb hc9 hl9) | (go_at_call 34; (refine calls_of_args (args' := #[.slice A9 (c ++ l4).length c9]) (by first | rfl | simp) ?_); (refine (wire_GetDigests.calls k _ _ (c ++ l4) y (c.length : Int) 0 _ ?side1 ?side2 G3.out).mono ?_); (case side1 => repeat (first | exact C9.out | (with_reducible refine Kd.C_alloc ?_ _) | (with_reducible refine Kd.C_drewN ?_ _) | (with_reducible refine Kd.C_drew ?_))); (case side2 => exact L9.out); rintro e w5 ⟨v, rfl, ho, hb⟩; have n0_ := Aside0.mk (Kd.R_below (rk HOa.out) hb); have n1_ := Aside0.mk (Kd.R_below (rk HOb.out) hb); have n2_ := Aside0.mk (Kd.R_below (rk HOc.out) hb); have n3_ := Aside0.mk (Kd.R_below (rk HOo.out) hb); have n4_ := Aside0.mk (Kd.R_below (rk HOk.out) hb); have nn_ := Aside0.mk (Kd.R_lower ho (below_size (bk HB.out))); have nb_ := Aside0.mk (below_step (bk HB.out) hb); clear HB HOa HOb HOc HOo HOk; have HB := nb_; have HOa := n0_; have HOb := n1_; have HOc := n2_; have HOo := n3_; have HOk := n4_; have HOy := nn_; clear nb_ n0_ n1_ n2_ n3_ n4_ nn_; clear ho hb C9 L9; obtain ⟨Ay_, cy_, ey_⟩ := Kd.R_slice HOy.out; subst ey_) | ((with_reducible refine gate_builtin (b := .append) (xs := #[.tmp 98, .tmp 99]) rfl ?_); at_builtin; refine append_full rfl (.tmp 98) (.tmp 99) rfl o l4 rfl rfl ?cA ?cB LMo.out ?_; (case cA => repeat (first | exact (Kd.R_reads' HOo.out).2.2 | (with_reducible refine Kd.C_alloc ?_ _) | (with_reducible refine Kd.C_drewN ?_ _) | (with_reducible refine Kd.C_drew ?_))); (case cB => repeat (first | exact (Kd.C_below HR4.out (bk HB.out)) | (with_reducible refine Kd.C_alloc ?_ _) | (with_reducible refine Kd.C_drewN ?_ _) | (with_reducible refine Kd.C_drew ?_))); intro A9 c9 w9 hc9 hl9 hb; have C9 := Aside0.mk hc9; have L9 := Aside0.mk hl9; have n0_ := Aside0.mk (Kd.R_below (rk HOa.out) hb); have n1_ := Aside0.mk (Kd.R_below (rk HOb.out) hb); have n2_ := Aside0.mk (Kd.R_below (rk HOc.out) hb); have n3_ := Aside0.mk (Kd.R_below (rk HOo.out) hb); have n4_ := Aside0.mk (Kd.R_below (rk HOk.out) hb); have n5_ := Aside0.mk (Kd.R_below (rk HOy.out) hb); have nb_ := Aside0.mk (below_step (bk HB.out) hb); clear HB HOa HOb HOc HOo HOk HOy; have HB := nb_; have HOa := n0_; have HOb := n1_; have HOc := n2_; have HOo := n3_; have HOk := n4_; have HOy := n5_; clear nb_ n0_ n1_ n2_ n3_ n4_ n5_; clear hb hc9 hl9) | (go_at_call 31; (refine calls_of_args (args' := #[.slice A9 (o ++ l4).length c9]) (by first | rfl | simp) ?_); (refine (wire_GetStrings.calls k _ _ (o ++ l4) z (o.length : Int) 0 _ ?side1 ?side2 G4.out).mono ?_); (case side1 => repeat (first | exact C9.out | (with_reducible refine Kd.C_alloc ?_ _) | (with_reducible refine Kd.C_drewN ?_ _) | (with_reducible refine Kd.C_drew ?_))); (case side2 => exact L9.out); rintro e w5 ⟨v, rfl, ho, hb⟩; have n0_ := Aside0.mk (Kd.R_below (rk HOa.out) hb); have n1_ := Aside0.mk (Kd.R_below (rk HOb.out) hb); have n2_ := Aside0.mk (Kd.R_below (rk HOc.out) hb); have n3_ := Aside0.mk (Kd.R_below (rk HOo.out) hb); have n4_ := Aside0.mk (Kd.R_below (rk HOk.out) hb); have n5_ := Aside0.mk (Kd.R_below (rk HOy.out) hb); have nn_ := Aside0.mk (Kd.R_lower ho (below_size (bk HB.out))); have nb_ := Aside0.mk (below_step (bk HB.out) hb); clear HB HOa HOb HOc HOo HOk HOy; have HB := nb_; have HOa := n0_; have HOb := n1_; have HOc := n2_; have HOo := n3_; have HOk := n4_; have HOy := n5_; have HOz := nn_; clear nb_ n0_ n1_ n2_ n3_ n4_ n5_ nn_; clear ho hb C9 L9; obtain ⟨Az_, cz_, ez_⟩ := Kd.R_slice HOz.out; subst ez_) | (go_at_call 12; (refine (weirgatelaw01_sanity.calls k true _ S0.out).mono ?_); rintro e w6 ⟨rfl, hb⟩; have n0_ := Aside0.mk (Kd.R_below (rk HOa.out) hb); have n1_ := Aside0.mk (Kd.R_below (rk HOb.out) hb); have n2_ := Aside0.mk (Kd.R_below (rk HOc.out) hb); have n3_ := Aside0.mk (Kd.R_below (rk HOo.out) hb); have n4_ := Aside0.mk (Kd.R_below (rk HOk.out) hb); have n5_ := Aside0.mk (Kd.R_below (rk HOy.out) hb); have n6_ := Aside0.mk (Kd.R_below (rk HOz.out) hb); have nb_ := Aside0.mk (below_step (bk HB.out) hb); clear HB HOa HOb HOc HOo HOk HOy HOz; have HB := nb_; have HOa := n0_; have HOb := n1_; have HOc := n2_; have HOo := n3_; have HOk := n4_; have HOy := n5_; have HOz := n6_; clear nb_ n0_ n1_ n2_ n3_ n4_ n5_ n6_; clear hb) | (go_at_call 33; (refine (weirgateref01_SameTexts.calls k _ _ z _ _ l2 true _ ?side1 ?side2 ?side3 HC2.out S1.out).mono ?_); (case side1 => repeat (first | exact (Kd.R_reads' HOz.out).2.2 | (with_reducible refine Kd.C_alloc ?_ _) | (with_reducible refine Kd.C_drewN ?_ _) | (with_reducible refine Kd.C_drew ?_))); (case side2 => exact (Kd.R_reads' HOz.out).2.1); (case side3 => repeat (first | exact (Kd.C_below HR2.out (bk HB.out)) | (with_reducible refine Kd.C_alloc ?_ _) | (with_reducible refine Kd.C_drewN ?_ _) | (with_reducible refine Kd.C_drew ?_))); rintro e w' ⟨rfl, ⟨nd, rfl⟩⟩) | (go_at_call 30; (refine (weirgateref01_SameInts.calls k _ _ kk _ _ l1 true _ ?side1 ?side2 ?side3 HC1.out S2.out).mono ?_); (case side1 => repeat (first | exact (Kd.R_reads' HOk.out).2.2 | (with_reducible refine Kd.C_alloc ?_ _) | (with_reducible refine Kd.C_drewN ?_ _) | (with_reducible refine Kd.C_drew ?_))); (case side2 => exact (Kd.R_reads' HOk.out).2.1); (case side3 => repeat (first | exact (Kd.C_below HR1.out (bk HB.out)) | (with_reducible refine Kd.C_alloc ?_ _) | (with_reducible refine Kd.C_drewN ?_ _) | (with_reducible refine Kd.C_drew ?_))); rintro e w' ⟨rfl, ⟨nd, rfl⟩⟩) | (go_at_call 36; (refine (weirgateref01_SameDigests.calls _ _ y _ _ l3 true _ ?side1 ?side2 ?side3 HC3.out S3.out).mono ?_); (case side1 => repeat (first | exact (Kd.R_reads' HOy.out).2.2 | (with_reducible refine Kd.C_alloc ?_ _) | (with_reducible refine Kd.C_drewN ?_ _) | (with_reducible refine Kd.C_drew ?_))); (case side2 => exact (Kd.R_reads' HOy.out).2.1); (case side3 => repeat (first | exact (Kd.C_below HR3.out (bk HB.out)) | (with_reducible refine Kd.C_alloc ?_ _) | (with_reducible refine Kd.C_drewN ?_ _) | (with_reducible refine Kd.C_drew ?_))); rintro e w' ⟨rfl, ⟨nd, rfl⟩⟩))
          go_ret
          exact ⟨by first | rfl | simp, bk HB.out⟩
        · replace h := (if_neg ct).symm.trans h
          cases h
      · rw [if_neg q2] at h
        cases h
end Go.Proofs.Ytekbhcciabgnhaa.PP
