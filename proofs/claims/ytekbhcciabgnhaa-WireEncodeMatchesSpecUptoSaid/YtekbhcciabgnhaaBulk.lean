/- What a bound of the reading's bulk gives: the measure of a value is at most the bulk of its reading. -/
import Derived.Test.YtekbhcciabgnhaaPP0
import Derived.Test.YtekbhcciabgnhaaRows
import Derived.Test.YtekbhcciabgnhaaOpen
namespace Go.Proofs.YtekbhcciabgnhaaO
open Go.RowKit Go.Proofs.YtekbhcciabgnhaaW.PrintWords Go.Proofs.Ytekbhcciabgnhaa

def BkAt {α : Type} (n : Nat) (P : Program) (t : TypeId) (d : Kd α) (m : α → Nat) : Prop :=
  ∀ (H : Type) (enc : TypeId × Value → H) (w : World) (cs : List Value) (x : DataW H × List MemPlace),
    DataW.trod enc P w 0 (fun _ => true) true n t cs = some x → ∀ a, d.K w a cs → m a ≤ Rows.uptoBulk x.1

variable {P : Program} {α β : Type}

theorem bulk_pos {H : Type} (d : DataW H) : 1 ≤ Rows.uptoBulk d := by
  cases d with
  | lit l => cases l <;> simp [Rows.uptoBulk]
  | nil => simp [Rows.uptoBulk]
  | ptr d => simp [Rows.uptoBulk]
  | slice elems spare => simp [Rows.uptoBulk]
  | agg parts => simp [Rows.uptoBulk]
  | iface t d => simp [Rows.uptoBulk]
  | map entries => simp [Rows.uptoBulk]
  | held h => simp [Rows.uptoBulk]
/-- The measure of a list. -/
def msum (m : α → Nat) (l : List α) : Nat := (l.map m).sum
theorem msum_nil (m : α → Nat) : msum m [] = 0 := rfl
theorem msum_cons (m : α → Nat) (x : α) (r : List α) : msum m (x :: r) = m x + msum m r := by simp [msum]
theorem msum_mem {m : α → Nat} {l : List α} {x : α} (h : x ∈ l) : m x ≤ msum m l := by
  induction l with
  | nil => cases h
  | cons y r ih =>
    rw [msum_cons]
    rcases List.mem_cons.1 h with rfl | h
    · omega
    · have := ih h
      omega
theorem msum_len {m : α → Nat} (hm : ∀ x, 1 ≤ m x) (l : List α) : l.length ≤ msum m l := by
  induction l with
  | nil => simp [msum]
  | cons y r ih =>
    rw [msum_cons, List.length_cons]
    have := hm y
    omega
theorem msum_le {H : Type} {m : α → Nat} : ∀ (l : List α) (ys : List (DataW H)), l.length = ys.length → (∀ (i : Nat) (p : α) (y : DataW H), l[i]? = some p → ys[i]? = some y → m p ≤ Rows.uptoBulk y) → msum m l ≤ Rows.uptoBulkAll ys
  | [], _, _, _ => by simp [msum]
  | p :: l, [], h, _ => by simp at h
  | p :: l, y :: ys, h, hi => by
    have h0 := hi 0 p y rfl rfl
    have h1 := msum_le l ys (by simpa using h) (fun i p' y' hp hy => hi (i + 1) p' y' (by simpa using hp) (by simpa using hy))
    rw [msum_cons]
    simp only [Rows.uptoBulkAll]
    omega

theorem BkAt.one {t : TypeId} {d : Kd α} (n : Nat) : BkAt n P t d (fun _ => 1) := fun _ _ _ _ x _ _ _ => bulk_pos x.1
theorem BkAt.string {t : TypeId} (ht : P.underlying t = some .string) (n : Nat) : BkAt n P t Kd.string (fun s => s.size + 1) := by
  intro H enc w cs x h a ha
  obtain ⟨s, rfl, rfl, _⟩ := DataW.trod_string ht h
  obtain rfl : s = a := by
    have e : [Value.string s] = [Value.string a] := ha
    injection e with e _
    injection e
  simp only [Rows.uptoBulk]
  have : s.data.toList.length = s.size := by rw [Array.length_toList]; rfl
  omega
theorem BkAt.slice {t e : TypeId} {d : Kd α} {m : α → Nat} {n : Nat} (ht : P.underlying t = some (.slice e)) (hc : P.cellsOf e = d.sz) (h : BkAt n P e d m) : BkAt (n + 1) P t (Kd.slice e d) (fun l => msum m l + 1) := by
  intro H enc w cs x hx l hl
  obtain ⟨A, c, rfl, hlc, hC⟩ := hl
  rcases DataW.trod_slice ht hx with ⟨e1, rfl⟩ | ⟨a, len, cap, elems, rest, m', hm, e1, rfl, _, _, hcm, hlen, hget, hrest, _⟩
  · injection e1 with e1 _
    injection e1 with _ e2 _
    have : l = [] := List.length_eq_zero_iff.1 e2
    subst this
    simp [msum, Rows.uptoBulk]
  · obtain rfl : m' = n := by omega
    injection e1 with e1 _
    injection e1 with eA e2 _
    subst eA
    simp only [Rows.uptoBulk]
    have hle : msum m l ≤ Rows.uptoBulkAll (elems.map (·.1)) := by
      refine msum_le l _ (by rw [List.length_map]; omega) fun i p y hp hy => ?_
      have hil : i < l.length := (List.getElem?_eq_some_iff.1 hp).1
      obtain ⟨ad, e3, hrow⟩ := hC.2.2 (by omega)
      injection e3 with e3
      subst e3
      obtain ⟨c', hcl, hK, hcell⟩ := hrow i p hp
      have hg := hget i (by omega)
      cases hcs : w.cells? 0 (a.add (i * P.cellsOf e)) (P.cellsOf e) with
      | none =>
        rw [hcs] at hg
        have hn : elems[i]? = none := hg.symm
        rw [List.getElem?_map, hn] at hy
        cases hy
      | some c2 =>
        rw [hcs] at hg
        obtain ⟨_, hcl2, hcell2⟩ := World.cells?_some hcs
        have ec : c2 = c' := by
          refine List.ext_getElem (by rw [hcl2, hcl, hc]) fun j h1 h2 => ?_
          have q1 := hcell2 j (by rw [← hcl2]; exact h1)
          have q2 := hcell j c'[j] (List.getElem?_eq_getElem h2)
          rw [hc, Addr.add_add, q2, List.getElem?_eq_getElem h1] at q1
          exact (Option.some.inj q1).symm
        subst ec
        rw [List.getElem?_map] at hy
        cases he : elems[i]? with
        | none => rw [he] at hy; cases hy
        | some z =>
          rw [he] at hy hg
          obtain rfl := Option.some.inj hy
          exact h H enc w c2 z hg p hK
    omega
/-- Fields from a place on. -/
def FBk {α : Type} (n : Nat) (P : Program) (fs : List Field) (off : Nat) (d : Kd α) (m : α → Nat) : Prop :=
  ∀ (H : Type) (enc : TypeId × Value → H) (w : World) (cs : List Value) (xs : List (DataW H × List MemPlace)),
    (∀ (i : Nat) (f : Field), fs[i]? = some f → DataW.trod enc P w 0 (fun _ => true) true n f.type ((cs.drop f.offset).take (P.cellsOf f.type)) = xs[i]?) → xs.length = fs.length →
    cs.length = off + d.sz → ∀ a, d.K w a (cs.drop off) → m a ≤ Rows.uptoBulkAll (xs.map (·.1))
theorem FBk.one {f : Field} {off n : Nat} {d : Kd α} {m : α → Nat} (ho : f.offset = off) (hc : P.cellsOf f.type = d.sz) (h : BkAt n P f.type d m) : FBk n P [f] off d m := by
  intro H enc w cs xs hg hl hcs a ha
  have h0 := hg 0 f rfl
  obtain ⟨x, rfl⟩ : ∃ x, xs = [x] := by
    cases xs with
    | nil => simp at hl
    | cons x r => cases r with
      | nil => exact ⟨x, rfl⟩
      | cons y r => simp at hl
  rw [ho, hc, List.take_of_length_le (by rw [List.length_drop]; omega)] at h0
  have := h H enc w _ x h0 a ha
  simp only [List.map_cons, List.map_nil, Rows.uptoBulkAll]
  omega
theorem FBk.cons {f : Field} {fs : List Field} {off n : Nat} {a : Kd α} {b : Kd β} {ma : α → Nat} {mb : β → Nat} (ho : f.offset = off) (hc : P.cellsOf f.type = a.sz) (h : BkAt n P f.type a ma) (hr : FBk n P fs (off + a.sz) b mb) :
    FBk n P (f :: fs) off (Kd.pair a b) (fun x => ma x.1 + mb x.2) := by
  intro H enc w cs xs hg hl hcs p hp
  have h0 := hg 0 f rfl
  cases xs with
  | nil => simp at hl
  | cons x r =>
    have hcs' : cs.length = off + (a.sz + b.sz) := hcs
    obtain ⟨c0, c1, e, hK0, hK1⟩ := hp
    have hl0 := a.K_len hK0
    have e0 : (cs.drop off).take a.sz = c0 := by rw [e, ← hl0, List.take_left]
    have e1 : cs.drop (off + a.sz) = c1 := by rw [← List.drop_drop, e, ← hl0, List.drop_left]
    rw [ho, hc, e0] at h0
    have q0 := h H enc w _ x h0 p.1 hK0
    have q1 := hr H enc w cs r (fun i f' hf => by have := hg (i + 1) f' (by simpa using hf); simpa using this) (by simpa using hl) (by omega) p.2 (by rw [e1]; exact hK1)
    simp only [List.map_cons, Rows.uptoBulkAll]
    omega
theorem BkAt.struct {t : TypeId} {fs : Array Field} {l : List Field} {d : Kd α} {m : α → Nat} {n : Nat} (ht : P.underlying t = some (.struct fs)) (hfs : fs.toList = l) (hc : P.cellsOf t = d.sz) (h : FBk n P l 0 d m) (f : β → α) :
    BkAt (n + 1) P t (Kd.iso d f) (fun x => m (f x) + 1) := by
  intro H enc w cs x hx a ha
  subst hfs
  obtain ⟨xs, m', hm, rfl, hcl, hxl, hget⟩ := DataW.trod_struct ht hx
  obtain rfl : m' = n := by omega
  have := h H enc w cs xs (fun i f hf => hget i f (by simpa using hf)) (by simpa using hxl) (by omega) (f a) (by rw [List.drop_zero]; exact ha)
  simp only [Rows.uptoBulk]
  omega
/-- Any depth. -/
def Bk {α : Type} (P : Program) (t : TypeId) (d : Kd α) (m : α → Nat) : Prop := ∀ n, BkAt n P t d m
theorem BkAt.zero {t : TypeId} {d : Kd α} {m : α → Nat} : BkAt 0 P t d m := by
  intro H enc w cs x h
  simp [DataW.trod] at h
theorem Bk.slice {t e : TypeId} {d : Kd α} {m : α → Nat} (ht : P.underlying t = some (.slice e)) (hc : P.cellsOf e = d.sz) (h : Bk P e d m) : Bk P t (Kd.slice e d) (fun l => msum m l + 1)
  | 0 => BkAt.zero
  | n + 1 => BkAt.slice ht hc (h n)
theorem Bk.struct {t : TypeId} {fs : Array Field} {l : List Field} {d : Kd α} {m : α → Nat} (ht : P.underlying t = some (.struct fs)) (hfs : fs.toList = l) (hc : P.cellsOf t = d.sz) (h : ∀ n, FBk n P l 0 d m) (f : β → α) :
    Bk P t (Kd.iso d f) (fun x => m (f x) + 1)
  | 0 => BkAt.zero
  | n + 1 => BkAt.struct ht hfs hc (h n) f
theorem Bk.le {t : TypeId} {d : Kd α} {m m' : α → Nat} (h : Bk P t d m) (hm : ∀ a, m' a ≤ m a) : Bk P t d m' := fun n H enc w cs x hx a ha => Nat.le_trans (hm a) (h n H enc w cs x hx a ha)
end Go.Proofs.YtekbhcciabgnhaaO
