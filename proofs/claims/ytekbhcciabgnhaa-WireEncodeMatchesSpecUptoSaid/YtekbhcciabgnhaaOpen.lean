/- What an argument reads as: a value of its kind, by the type's shape. -/
import Derived.Test.YtekbhcciabgnhaaPP0
import Derived.Test.YtekbhcciabgnhaaWWords
import Derived.ProofKit
import Derived.OpenShut
import Derived.SizedLaws
namespace Go.Proofs.YtekbhcciabgnhaaO
open Go.RowKit Go.Proofs.YtekbhcciabgnhaaW.PrintWords

def At {α : Type} (n : Nat) (P : Program) (t : TypeId) (d : Kd α) (G : α → Prop) : Prop :=
  ∀ (H : Type) (enc : TypeId × Value → H) (w : World) (cs : List Value) (x : DataW H × List MemPlace),
    DataW.trod enc P w 0 (fun _ => true) true n t cs = some x → (DataW.weights P t x.1).all (· ≤ reachBytes) = true → ∃ a, d.K w a cs ∧ G a

variable {P : Program} {α β : Type}

theorem At.zero {t : TypeId} {d : Kd α} {G : α → Prop} : At 0 P t d G := by
  intro H enc w cs x h
  simp [DataW.trod] at h
theorem At.int {t : TypeId} {k : IntKind} (ht : P.underlying t = some (.int k)) (n : Nat) : At n P t (Kd.int k) (fun a => (Lit.int k a).wf = true) := by
  intro H enc w cs x h _
  obtain ⟨a, rfl, _, wa⟩ := DataW.trod_int ht h
  exact ⟨a, rfl, wa⟩
theorem At.bool {t : TypeId} (ht : P.underlying t = some .bool) (n : Nat) : At n P t Kd.bool (fun _ => True) := by
  intro H enc w cs x h _
  obtain ⟨a, rfl, _⟩ := DataW.trod_bool ht h
  exact ⟨a, rfl, trivial⟩
theorem At.string {t : TypeId} (ht : P.underlying t = some .string) (n : Nat) : At n P t Kd.string (fun a => a.size ≤ 140737488351232) := by
  intro H enc w cs x h hw
  obtain ⟨a, rfl, hx, _⟩ := DataW.trod_string ht h
  refine ⟨a, rfl, ?_⟩
  rw [hx] at hw
  simp [DataW.weights, reachBytes] at hw
  exact of_decide_eq_true hw

theorem weights_mem {H : Type} {e : TypeId} : ∀ {l : List (DataW H)} {d : DataW H}, (DataW.weightsAll P e l).all (· ≤ reachBytes) = true → d ∈ l → (DataW.weights P e d).all (· ≤ reachBytes) = true
  | [], _, _, h => by simp at h
  | x :: r, d, hw, h => by
    simp only [DataW.weightsAll, List.all_append, Bool.and_eq_true] at hw
    rcases List.mem_cons.1 h with rfl | h
    · exact hw.1
    · exact weights_mem hw.2 h

theorem choose_list {γ δ : Type} {p : γ → δ → Prop} : ∀ (l : List γ), (∀ x ∈ l, ∃ y, p x y) → ∃ ys : List δ, ys.length = l.length ∧ ∀ (i : Nat) (x : γ) (y : δ), l[i]? = some x → ys[i]? = some y → p x y
  | [], _ => ⟨[], rfl, fun i x y h _ => by simp at h⟩
  | x :: r, h => by
    obtain ⟨y, hy⟩ := h x (by simp)
    obtain ⟨ys, hl, hp⟩ := choose_list r (fun z hz => h z (by simp [hz]))
    refine ⟨y :: ys, by simp [hl], fun i a b ha hb => ?_⟩
    cases i with
    | zero => simp at ha hb; subst ha; subst hb; exact hy
    | succ i => simp at ha hb; exact hp i a b ha hb

theorem At.slice {t e : TypeId} {d : Kd α} {G : α → Prop} {b n : Nat} (ht : P.underlying t = some (.slice e)) (hc : P.cellsOf e = d.sz) (hb : P.bytesOf e = b) (h : At n P e d G) :
    At (n + 1) P t (Kd.slice e d) (fun l => l.length ≤ 9223372036854775807 ∧ l.length * b ≤ 140737488351232 ∧ ∀ a ∈ l, G a) := by
  intro H enc w cs x hx hw
  rcases DataW.trod_slice ht hx with ⟨rfl, rfl⟩ | ⟨a, len, cap, elems, rest, m, hm, rfl, rfl, _, hlc, hcm, hlen, hget, hrest, _⟩
  · exact ⟨[], ⟨none, 0, rfl, Nat.le_refl _, rfl, Nat.zero_le _, fun h => absurd h (by simp)⟩, by simp, by simp, by simp⟩
  · obtain rfl : m = n := by omega
    simp only [DataW.weights, ht, List.all_cons, List.all_append, Bool.and_eq_true, decide_eq_true_eq] at hw
    obtain ⟨hw1, hw2, _⟩ := hw
    obtain ⟨ys, hyl, hyp⟩ := choose_list (p := fun (i : Nat) (y : α) => ∃ c, c.length = d.sz ∧ d.K w y c ∧ (∀ j u, c[j]? = some u → w.cell? (a.add (i * d.sz + j)) = some u) ∧ G y) (List.range len) (fun i hi => by
      have hil : i < len := by simpa using hi
      have hg := hget i hil
      cases hcs : w.cells? 0 (a.add (i * P.cellsOf e)) (P.cellsOf e) with
      | none =>
        rw [hcs] at hg
        have hn : elems[i]? = none := hg.symm
        rw [List.getElem?_eq_none_iff] at hn
        omega
      | some c =>
        rw [hcs] at hg
        obtain ⟨_, hcl, hcell⟩ := World.cells?_some hcs
        obtain ⟨y, hy⟩ : ∃ y, elems[i]? = some y := ⟨elems[i]'(by omega), by simp [hlen, hil]⟩
        rw [hy] at hg
        have hmem : y.1 ∈ elems.map (·.1) := List.mem_map.2 ⟨y, List.mem_of_getElem? hy, rfl⟩
        obtain ⟨z, hz, hG⟩ := h H enc w c y hg (weights_mem hw2 hmem)
        refine ⟨z, c, by rw [hcl, hc], hz, fun j u hj => ?_, hG⟩
        have hjl : j < P.cellsOf e := by rw [← hcl]; exact (List.getElem?_eq_some_iff.1 hj).1
        have := hcell j hjl
        rw [hj, hc, Addr.add_add] at this
        exact this)
    rw [List.length_range] at hyl
    refine ⟨ys, ⟨some a, cap, by rw [hyl], by omega, by simp, by have := hcm; unfold maxLen at this; omega, fun _ => ⟨a, rfl, fun j p hj => ?_⟩⟩, by have := hcm; unfold maxLen at this; omega, ?_, fun q hq => ?_⟩
    · have hjl : j < len := by rw [← hyl]; exact (List.getElem?_eq_some_iff.1 hj).1
      obtain ⟨c, h1, h2, h3, _⟩ := hyp j j p (by simp [hjl]) hj
      exact ⟨c, h1, h2, h3⟩
    · rw [hb] at hw1
      unfold reachBytes at hw1
      have : ys.length * b ≤ (elems.length + rest.length) * b := Nat.mul_le_mul_right _ (by omega)
      simp only [List.length_map] at hw1
      omega
    · obtain ⟨i, hi⟩ := List.getElem?_of_mem hq
      have hil : i < len := by rw [← hyl]; exact (List.getElem?_eq_some_iff.1 hi).1
      obtain ⟨_, _, _, _, hG⟩ := hyp i i q (by simp [hil]) hi
      exact hG

/-- Fields from a place on. -/
def FAt {α : Type} (n : Nat) (P : Program) (fs : List Field) (off : Nat) (d : Kd α) (G : α → Prop) : Prop :=
  ∀ (H : Type) (enc : TypeId × Value → H) (w : World) (cs : List Value) (xs : List (DataW H × List MemPlace)),
    (∀ (i : Nat) (f : Field), fs[i]? = some f → DataW.trod enc P w 0 (fun _ => true) true n f.type ((cs.drop f.offset).take (P.cellsOf f.type)) = xs[i]?) → xs.length = fs.length →
    (DataW.weightsEach P (fs.map (·.type)) (xs.map (·.1))).all (· ≤ reachBytes) = true → cs.length = off + d.sz → ∃ a, d.K w a (cs.drop off) ∧ G a

theorem FAt.one {f : Field} {off n : Nat} {d : Kd α} {G : α → Prop} (ho : f.offset = off) (hc : P.cellsOf f.type = d.sz) (h : At n P f.type d G) : FAt n P [f] off d G := by
  intro H enc w cs xs hg hl hw hcs
  have h0 := hg 0 f rfl
  obtain ⟨x, rfl⟩ : ∃ x, xs = [x] := by
    cases xs with
    | nil => simp at hl
    | cons x r => cases r with
      | nil => exact ⟨x, rfl⟩
      | cons y r => simp at hl
  rw [ho, hc, List.take_of_length_le (by rw [List.length_drop]; omega)] at h0
  simp only [List.map_cons, List.map_nil, DataW.weightsEach, List.append_nil] at hw
  exact h H enc w _ x h0 hw
theorem FAt.cons {f : Field} {fs : List Field} {off n : Nat} {a : Kd α} {b : Kd β} {Ga : α → Prop} {Gb : β → Prop} (ho : f.offset = off) (hc : P.cellsOf f.type = a.sz) (h : At n P f.type a Ga) (hr : FAt n P fs (off + a.sz) b Gb) :
    FAt n P (f :: fs) off (Kd.pair a b) (fun x => Ga x.1 ∧ Gb x.2) := by
  intro H enc w cs xs hg hl hw hcs
  have h0 := hg 0 f rfl
  cases xs with
  | nil => simp at hl
  | cons x r =>
    simp only [List.map_cons, DataW.weightsEach, List.all_append, Bool.and_eq_true] at hw
    have hcs' : cs.length = off + (a.sz + b.sz) := hcs
    rw [ho, hc] at h0
    obtain ⟨y, hy, hgy⟩ := h H enc w _ x h0 hw.1
    obtain ⟨z, hz, hgz⟩ := hr H enc w cs r (fun i f' hf => by have := hg (i + 1) f' (by simpa using hf); simpa using this) (by simpa using hl) hw.2 (by omega)
    refine ⟨(y, z), ⟨_, _, ?_, hy, hz⟩, hgy, hgz⟩
    rw [← List.drop_drop, List.take_append_drop]
theorem At.struct {t : TypeId} {fs : Array Field} {l : List Field} {d : Kd α} {G : α → Prop} {n : Nat} (ht : P.underlying t = some (.struct fs)) (hfs : fs.toList = l) (hc : P.cellsOf t = d.sz) (h : FAt n P l 0 d G) (f : β → α) (g : α → β) (hfg : ∀ y, f (g y) = y) :
    At (n + 1) P t (Kd.iso d f) (fun x => G (f x)) := by
  intro H enc w cs x hx hw
  subst hfs
  obtain ⟨xs, m, hm, rfl, hcl, hxl, hget⟩ := DataW.trod_struct ht hx
  obtain rfl : m = n := by omega
  simp only [DataW.weights, ht] at hw
  obtain ⟨a, ha, hG⟩ := h H enc w cs xs (fun i f hf => hget i f (by simpa using hf)) (by simpa using hxl) hw (by omega)
  rw [List.drop_zero] at ha
  exact ⟨g a, by show d.K w (f (g a)) cs; rw [hfg]; exact ha, by show G (f (g a)); rw [hfg]; exact hG⟩
/-- An array's elements as fields. -/
def afs (e : TypeId) (s : Nat) : Nat → Nat → List Field
  | 0, _ => []
  | n + 1, i => { name := "", type := e, offset := i * s, embedded := false, tag := "", pkgPath := "", byteOffset := 0 } :: afs e s n (i + 1)
theorem afs_length (e : TypeId) (s : Nat) : ∀ n i, (afs e s n i).length = n
  | 0, _ => rfl
  | n + 1, i => by simp [afs, afs_length e s n (i + 1)]
theorem afs_get (e : TypeId) (s : Nat) : ∀ n i j (f : Field), (afs e s n i)[j]? = some f → j < n ∧ f.type = e ∧ f.offset = (i + j) * s
  | 0, _, j, f, h => by simp [afs] at h
  | n + 1, i, 0, f, h => by simp [afs] at h; subst h; exact ⟨Nat.succ_pos _, rfl, rfl⟩
  | n + 1, i, j + 1, f, h => by
    have h' : (afs e s n (i + 1))[j]? = some f := by simpa [afs] using h
    obtain ⟨a, b, c⟩ := afs_get e s n (i + 1) j f h'
    exact ⟨by omega, b, by rw [c]; congr 1; omega⟩
theorem weights_afs {H : Type} (P : Program) (e : TypeId) (s : Nat) : ∀ (n i : Nat) (l : List (DataW H)), l.length = n → DataW.weightsEach P ((afs e s n i).map (·.type)) l = DataW.weightsAll P e l
  | 0, _, l, h => by
    cases l with
    | nil => simp [afs, DataW.weightsEach, DataW.weightsAll]
    | cons x r => simp at h
  | n + 1, i, l, h => by
    cases l with
    | nil => simp at h
    | cons x r =>
      have := weights_afs P e s n (i + 1) r (by simpa using h)
      simp only [afs, List.map_cons, DataW.weightsEach, DataW.weightsAll, this]
theorem At.array {t e : TypeId} {m s : Nat} {l : List Field} {d : Kd α} {G : α → Prop} {n : Nat} (ht : P.underlying t = some (.array m e)) (hs : P.cellsOf e = s) (hfs : afs e s m 0 = l) (hc : P.cellsOf t = d.sz) (h : FAt n P l 0 d G) (f : β → α) (g : α → β) (hfg : ∀ y, f (g y) = y) :
    At (n + 1) P t (Kd.iso d f) (fun x => G (f x)) := by
  intro H enc w cs x hx hw
  subst hfs
  obtain ⟨xs, k, hk, rfl, hcl, hxl, hget⟩ := DataW.trod_array ht hx
  obtain rfl : k = n := by omega
  simp only [DataW.weights, ht] at hw
  obtain ⟨a, ha, hG⟩ := h H enc w cs xs (fun i f hf => by
    obtain ⟨hi, h1, h2⟩ := afs_get e s m 0 i f hf
    rw [h1, h2, Nat.zero_add]
    have := hget i hi
    rw [hs] at this
    rw [hs]
    exact this) (by rw [hxl, afs_length]) (by rw [weights_afs P e s m 0 _ (by simp [hxl])]; exact hw) (by omega)
  rw [List.drop_zero] at ha
  exact ⟨g a, by show d.K w (f (g a)) cs; rw [hfg]; exact ha, by show G (f (g a)); rw [hfg]; exact hG⟩
/-- Any depth. -/
def Opn {α : Type} (P : Program) (t : TypeId) (d : Kd α) (G : α → Prop) : Prop := ∀ n, At n P t d G
theorem Opn.mono {t : TypeId} {d : Kd α} {G G' : α → Prop} (h : Opn P t d G) (hg : ∀ a, G a → G' a) : Opn P t d G' := fun n H enc w cs x hx hw => by
  obtain ⟨a, ha, hG⟩ := h n H enc w cs x hx hw
  exact ⟨a, ha, hg a hG⟩
theorem Opn.slice {t e : TypeId} {d : Kd α} {G : α → Prop} {b : Nat} (ht : P.underlying t = some (.slice e)) (hc : P.cellsOf e = d.sz) (hb : P.bytesOf e = b) (h : Opn P e d G) :
    Opn P t (Kd.slice e d) (fun l => l.length ≤ 9223372036854775807 ∧ l.length * b ≤ 140737488351232 ∧ ∀ a ∈ l, G a)
  | 0 => At.zero
  | n + 1 => At.slice ht hc hb (h n)
theorem Opn.struct {t : TypeId} {fs : Array Field} {l : List Field} {d : Kd α} {G : α → Prop} (ht : P.underlying t = some (.struct fs)) (hfs : fs.toList = l) (hc : P.cellsOf t = d.sz) (h : ∀ n, FAt n P l 0 d G) (f : β → α) (g : α → β) (hfg : ∀ y, f (g y) = y) :
    Opn P t (Kd.iso d f) (fun x => G (f x))
  | 0 => At.zero
  | n + 1 => At.struct ht hfs hc (h n) f g hfg
theorem Opn.array {t e : TypeId} {m s : Nat} {l : List Field} {d : Kd α} {G : α → Prop} (ht : P.underlying t = some (.array m e)) (hs : P.cellsOf e = s) (hfs : afs e s m 0 = l) (hc : P.cellsOf t = d.sz) (h : ∀ n, FAt n P l 0 d G) (f : β → α) (g : α → β) (hfg : ∀ y, f (g y) = y) :
    Opn P t (Kd.iso d f) (fun x => G (f x))
  | 0 => At.zero
  | n + 1 => At.array ht hs hfs hc (h n) f g hfg
/-- Of a call's argument, out of its weight among all. -/
theorem weight_at {H : Type} : ∀ {ts : List TypeId} {ds : List (DataW H)} {j : Nat} {t : TypeId} {d : DataW H}, (DataW.weightsEach P ts ds).all (· ≤ reachBytes) = true → ts[j]? = some t → ds[j]? = some d → (DataW.weights P t d).all (· ≤ reachBytes) = true
  | [], _, _, _, _, _, ht, _ => by simp at ht
  | _ :: _, [], _, _, _, _, _, hd => by simp at hd
  | t :: ts, d :: ds, j, t', d', hw, ht, hd => by
    simp only [DataW.weightsEach, List.all_append, Bool.and_eq_true] at hw
    cases j with
    | zero => simp at ht hd; subst ht; subst hd; exact hw.1
    | succ j => simp at ht hd; exact weight_at hw.2 ht hd
end Go.Proofs.YtekbhcciabgnhaaO
