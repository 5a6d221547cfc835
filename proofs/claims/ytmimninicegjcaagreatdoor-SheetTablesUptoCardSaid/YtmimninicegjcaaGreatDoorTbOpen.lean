/- What memory reads as a datum holds a value of the kind; what the datum's bulk tells of it. -/
import Derived.Test.YtmimninicegjcaaGreatDoorRows
import Derived.Deep.Slices
import Derived.ChangeSame
import Derived.Test.YtmimninicegjcaaGreatDoorTbWWords
namespace Go.Proofs.YtmimninicegjcaaGreatDoor
open Go.RowKit Go.ChangeShapes Go.WideShapes Go.Deep Go.Proofs.YtmimninicegjcaaGreatDoorW.PrintWords
set_option linter.unusedVariables false
namespace Opn
/-- Whatever reads as a datum of type t holds a value v of the kind d; q tells something of v by the datum's bulk. -/
def Opens {α : Type} (P : Program) (t : TypeId) (d : Kd α) (q : Nat → α → Prop) : Prop :=
  ∀ (H : Type) (enc : TypeId × Value → H) (w : World) (base : Nat) (spare : Nat → Bool) (held : Bool) (fuel : Nat) (cs : List Value) (x : DataW H × List MemPlace),
    DataW.trod enc P w base spare held fuel t cs = some x → ∃ v : α, d.K w v cs ∧ q (Rows.uptoBulk x.1) v
/-- .. of a struct's last fields, from a place on. -/
def OpensF {α : Type} (P : Program) (fs : List Field) (off : Nat) (d : Kd α) (q : Nat → α → Prop) : Prop :=
  ∀ (H : Type) (enc : TypeId × Value → H) (w : World) (base : Nat) (spare : Nat → Bool) (held : Bool) (n : Nat) (cs : List Value) (xs : List (DataW H × List MemPlace)),
    cs.length = off + d.sz → xs.length = fs.length → (∀ (i : Nat) (f : Field), fs[i]? = some f → DataW.trod enc P w base spare held n f.type ((cs.drop f.offset).take (P.cellsOf f.type)) = xs[i]?) →
    ∃ v : α, d.K w v (cs.drop off) ∧ q (Rows.uptoBulkAll (xs.map (·.1))) v
section
variable {P : Program}
theorem int {t : TypeId} {k : IntKind} (ht : P.underlying t = some (.int k)) : Opens P t (Kd.int k) (fun n v => 1 ≤ n ∧ (Lit.int k v).wf = true) := by
  intro H enc w base spare held fuel cs x h
  obtain ⟨v, rfl, rfl, hw⟩ := DataW.trod_int ht h
  exact ⟨v, rfl, by simp [Rows.uptoBulk], hw⟩
theorem bool {t : TypeId} (ht : P.underlying t = some .bool) : Opens P t Kd.bool (fun n _ => 1 ≤ n) := by
  intro H enc w base spare held fuel cs x h
  obtain ⟨v, rfl, rfl⟩ := DataW.trod_bool ht h
  exact ⟨v, rfl, by simp [Rows.uptoBulk]⟩
theorem str {t : TypeId} (ht : P.underlying t = some .string) : Opens P t Kd.string (fun n s => s.size + 1 ≤ n) := by
  intro H enc w base spare held fuel cs x h
  obtain ⟨v, rfl, rfl, hm⟩ := DataW.trod_string ht h
  refine ⟨v, rfl, ?_⟩
  have e : v.data.toList.length = v.size := by rw [Array.length_toList]; rfl
  simp only [Rows.uptoBulk]
  omega
theorem weaken {α : Type} {t : TypeId} {d : Kd α} {q q' : Nat → α → Prop} (h : Opens P t d q) (hq : ∀ n v, q n v → q' n v) : Opens P t d q' := by
  intro H enc w base spare held fuel cs x hx
  obtain ⟨v, hk, hv⟩ := h H enc w base spare held fuel cs x hx
  exact ⟨v, hk, hq _ _ hv⟩
theorem iso {α β : Type} {t : TypeId} {d : Kd α} {q : Nat → α → Prop} {f : β → α} (mk : α → β) (hf : ∀ x, f (mk x) = x) (h : Opens P t d q) : Opens P t (Kd.iso d f) (fun n y => q n (f y)) := by
  intro H enc w base spare held fuel cs x hx
  obtain ⟨v, hk, hv⟩ := h H enc w base spare held fuel cs x hx
  exact ⟨mk v, show d.K w (f (mk v)) cs by rw [hf]; exact hk, show q _ (f (mk v)) by rw [hf]; exact hv⟩
theorem lastField {α : Type} {f : Field} {off : Nat} {d : Kd α} {q : Nat → α → Prop} (ho : f.offset = off) (hc : P.cellsOf f.type = d.sz) (h : Opens P f.type d q) : OpensF P [f] off d q := by
  intro H enc w base spare held n cs xs hl hx hf
  match xs, hx with
  | [x], _ =>
    have h0 := hf 0 f rfl
    rw [ho, hc, List.take_of_length_le (by rw [List.length_drop]; omega)] at h0
    obtain ⟨v, hk, hv⟩ := h H enc w base spare held n _ x h0
    refine ⟨v, hk, ?_⟩
    have e : Rows.uptoBulkAll ([x].map (·.1)) = Rows.uptoBulk x.1 := by simp [Rows.uptoBulkAll]
    rw [e]; exact hv
theorem field {α β : Type} {f : Field} {fs : List Field} {off : Nat} {d : Kd α} {d2 : Kd β} {q : Nat → α → Prop} {q2 : Nat → β → Prop} (ho : f.offset = off) (hc : P.cellsOf f.type = d.sz) (h : Opens P f.type d q)
    (h2 : OpensF P fs (off + d.sz) d2 q2) : OpensF P (f :: fs) off (Kd.pair d d2) (fun n v => ∃ a b, a + b ≤ n ∧ q a v.1 ∧ q2 b v.2) := by
  intro H enc w base spare held n cs xs hl hx hf
  match xs, hx with
  | x :: xs, hx =>
    have hl2 : cs.length = off + (d.sz + d2.sz) := hl
    have h0 := hf 0 f rfl
    rw [ho, hc] at h0
    obtain ⟨v, hk, hv⟩ := h H enc w base spare held n _ x h0
    obtain ⟨v2, hk2, hv2⟩ := h2 H enc w base spare held n cs xs (by omega) (by simpa using hx) (fun i g hg => hf (i + 1) g hg)
    refine ⟨(v, v2), ⟨_, _, ?_, hk, hk2⟩, Rows.uptoBulk x.1, Rows.uptoBulkAll (xs.map (·.1)), ?_, hv, hv2⟩
    · rw [← List.drop_drop, List.take_append_drop]
    · simp [Rows.uptoBulkAll]
theorem struct {α : Type} {t : TypeId} {fs : Array Field} {d : Kd α} {q : Nat → α → Prop} (ht : P.underlying t = some (.struct fs)) (hc : P.cellsOf t = d.sz) (h : OpensF P fs.toList 0 d q) :
    Opens P t d (fun n v => ∃ m, m + 1 ≤ n ∧ q m v) := by
  intro H enc w base spare held fuel cs x hx
  obtain ⟨xs, n, _, rfl, hl, hxl, hf⟩ := DataW.trod_struct ht hx
  obtain ⟨v, hk, hv⟩ := h H enc w base spare held n cs xs (by omega) (by simpa using hxl) (fun i f hi => hf i f (by simpa using hi))
  exact ⟨v, hk, _, by simp only [Rows.uptoBulk]; omega, hv⟩
/-- Sums of an index function. -/
def sumTo (f : Nat → Nat) : Nat → Nat
  | 0 => 0
  | n + 1 => sumTo f n + f n
theorem all_range {H : Type} (D : Nat → DataW H) (n : Nat) : Rows.uptoBulkAll ((List.range n).map D) = sumTo (fun i => Rows.uptoBulk (D i)) n := by
  have happ : ∀ (l r : List (DataW H)), Rows.uptoBulkAll (l ++ r) = Rows.uptoBulkAll l + Rows.uptoBulkAll r := by
    intro l r
    induction l with
    | nil => simp [Rows.uptoBulkAll]
    | cons x l ih => simp only [List.cons_append, Rows.uptoBulkAll, ih]; omega
  induction n with
  | zero => simp [Rows.uptoBulkAll, sumTo]
  | succ n ih =>
    rw [List.range_succ, List.map_append, happ, ih]
    simp [Rows.uptoBulkAll, sumTo]
theorem one_le {H : Type} (d : DataW H) : 1 ≤ Rows.uptoBulk d := by
  cases d with
  | lit l => cases l <;> simp [Rows.uptoBulk]
  | nil => simp [Rows.uptoBulk]
  | ptr d => simp [Rows.uptoBulk]
  | slice elems spare => simp [Rows.uptoBulk]
  | agg parts => simp [Rows.uptoBulk]
  | iface t d => simp [Rows.uptoBulk]
  | map entries => simp [Rows.uptoBulk]
  | held h => simp [Rows.uptoBulk]
theorem sumTo_ge {f : Nat → Nat} (h : ∀ i, 1 ≤ f i) : ∀ n, n ≤ sumTo f n
  | 0 => Nat.le_refl _
  | n + 1 => by have := sumTo_ge h n; have := h n; simp only [sumTo]; omega
theorem sumTo_at {f : Nat → Nat} {i : Nat} : ∀ {n : Nat}, i < n → f i ≤ sumTo f n
  | n + 1, h => by
    simp only [sumTo]
    rcases Nat.lt_succ_iff_lt_or_eq.1 h with h | rfl
    · have := sumTo_at (f := f) h; omega
    · omega
/-- A slice: of its elements' weights the sum is below the whole's. -/
def AllW {α : Type} (q : Nat → α → Prop) (n : Nat) (xs : List α) : Prop := ∃ f : Nat → Nat, (∀ i, 1 ≤ f i) ∧ sumTo f xs.length + 1 ≤ n ∧ ∀ i (h : i < xs.length), q (f i) xs[i]
theorem AllW.length {α : Type} {q : Nat → α → Prop} {n : Nat} {xs : List α} (h : AllW q n xs) : xs.length + 1 ≤ n := by
  obtain ⟨f, h1, h2, _⟩ := h
  have := sumTo_ge h1 xs.length
  omega
theorem AllW.mem {α : Type} {q : Nat → α → Prop} {n : Nat} {xs : List α} (h : AllW q n xs) {x : α} (hx : x ∈ xs) : ∃ m, m + 1 ≤ n ∧ q m x := by
  obtain ⟨f, h1, h2, h3⟩ := h
  obtain ⟨i, hi, rfl⟩ := List.mem_iff_getElem.1 hx
  exact ⟨f i, by have := sumTo_at (f := f) hi; omega, h3 i hi⟩
theorem slice {α : Type} {t e : TypeId} {d : Kd α} {q : Nat → α → Prop} (ht : P.underlying t = some (.slice e)) (hc : P.cellsOf e = d.sz) (h : Opens P e d q) : Opens P t (Kd.slice e d) (AllW q) := by
  intro H enc w base spare held fuel cs x hx
  rcases open_slice ht hx with ⟨rfl, rfl⟩ | ⟨a, len, cap, m, n, D, Pl, rfl, hb, hl, hm, hmm, rfl, hi⟩
  · exact ⟨[], ⟨none, 0, rfl, Nat.le_refl _, rfl, by simp, fun h => absurd h (by simp)⟩, fun _ => 1, fun _ => Nat.le_refl _, by simp [sumTo, Rows.uptoBulk], fun i h => absurd h (by simp)⟩
  · have hlm : len ≤ m := by rw [hmm]; split <;> omega
    have each : ∀ i, i < len → ∃ v : α, (∃ c, d.K w v c ∧ ∀ j u, c[j]? = some u → w.cell? (a.add (i * d.sz + j)) = some u) ∧ q (Rows.uptoBulk (D i)) v := by
      intro i hil
      obtain ⟨c, h1, h2⟩ := hi i (by omega)
      obtain ⟨v, hk, hv⟩ := h H enc w base spare held n c _ h2
      obtain ⟨_, hcl, hat⟩ := World.cells?_some h1
      refine ⟨v, ⟨c, hk, fun j u hj => ?_⟩, hv⟩
      have hjl : j < c.length := (List.getElem?_eq_some_iff.1 hj).1
      have := hat j (by omega)
      rw [Deep.add_add, hc] at this
      rw [this, hj]
    have key : ∀ k, k ≤ len → ∃ vs : List α, vs.length = k ∧ ∀ i (hik : i < vs.length), (∃ c, d.K w vs[i] c ∧ ∀ j u, c[j]? = some u → w.cell? (a.add (i * d.sz + j)) = some u) ∧ q (Rows.uptoBulk (D i)) vs[i] := by
      intro k
      induction k with
      | zero => exact fun _ => ⟨[], rfl, fun i h => absurd h (by simp)⟩
      | succ k ih =>
        intro hk
        obtain ⟨vs, hvl, hv⟩ := ih (by omega)
        obtain ⟨v, hvk⟩ := each k (by omega)
        refine ⟨vs ++ [v], by simp [hvl], fun i hik => ?_⟩
        by_cases hlt : i < vs.length
        · rw [List.getElem_append_left hlt]; exact hv i hlt
        · have : i = vs.length := by simp at hik; omega
          subst this
          rw [List.getElem_append_right (Nat.le_refl _)]
          simp only [Nat.sub_self, List.getElem_cons_zero]
          rw [hvl]; exact hvk
    obtain ⟨vs, hvl, hv⟩ := key len (Nat.le_refl _)
    subst hvl
    refine ⟨vs, ⟨some a, cap, rfl, hl, rfl, ?_, fun _ => ⟨a, rfl, fun i p hp => ?_⟩⟩, fun i => Rows.uptoBulk (D i), fun _ => one_le _, ?_, fun i hlt => (hv i hlt).2⟩
    · unfold maxLen at hm; omega
    · obtain ⟨hlt, rfl⟩ := List.getElem?_eq_some_iff.1 hp
      obtain ⟨c, hk, hat⟩ := (hv i hlt).1
      exact ⟨c, d.K_len hk, hk, hat⟩
    · simp only [Rows.uptoBulk, all_range]
      omega
end
end Opn
end Go.Proofs.YtmimninicegjcaaGreatDoor

