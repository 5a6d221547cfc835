/- sheet.Table: what its loops read; the append to the sheet's rows in a region that draws its order. -/
import Derived.Test.YtmimninicegjcaaGreatDoorTbTableA
namespace Go.Proofs.YtmimninicegjcaaGreatDoor
open Go.RowKit Go.Shelf Go.Lib Go.Proofs.YtmimninicegjcaaGreatDoorW.PrintWords Go.Proofs.YtmimninicegjcaaGreatDoorW.PrintLast Go.Proofs.YtmimninicegjcaaGreatDoorW.PrintMore
set_option linter.unusedVariables false
set_option linter.unusedSimpArgs false
theorem cels_at {w : World} {A : Option Addr} {l : List Cel} (h : Kd.C QS.k43 w A l.length l) :
    (l = [] ∨ ∃ ad, A = some ad) ∧ ∀ ad, A = some ad → ∀ i (hi : i < l.length), w.cell? (ad.add (i * 3)) = some (.int .i64 l[i].f0) ∧
      w.cell? ⟨(ad.add (i * 3)).block, (ad.add (i * 3)).off + 1, none⟩ = some (.int .i64 l[i].f1) ∧ w.cell? ⟨(ad.add (i * 3)).block, (ad.add (i * 3)).off + 2, none⟩ = some (.string l[i].f2) := by
  have e : ∀ i (hi : i < l.length), QS.rd_T43 l (i : Int) = l[i] := fun i hi => by simp [QS.rd_T43, List.getD_eq_getElem?_getD, List.getElem?_eq_getElem hi]
  refine ⟨?_, fun ad eA i hi => ?_⟩
  · cases l with
    | nil => exact .inl rfl
    | cons x l => obtain ⟨ad, e, _⟩ := QS.at_T43 h 0 (by omega) (by simp); exact .inr ⟨ad, e⟩
  · obtain ⟨ad', e', h0, h1, h2⟩ := QS.at_T43 h (i : Int) (by omega) (by omega)
    rw [eA] at e'
    obtain rfl := Option.some.inj e'
    rw [e i hi] at h0 h1 h2
    rw [Int.toNat_natCast] at h0 h1 h2
    exact ⟨h0, h1, h2⟩
theorem crows_at {w : World} {A : Option Addr} {l : List (List Cel)} (h : Kd.C (Kd.slice 43 QS.k43) w A l.length l) :
    (l = [] ∨ ∃ ad, A = some ad) ∧ ∀ ad, A = some ad → ∀ i (hi : i < l.length), ∃ A' c', w.cell? (ad.add i) = some (.slice A' l[i].length c') ∧ l[i].length ≤ c' ∧ Kd.C QS.k43 w A' l[i].length l[i] := by
  obtain ⟨h1, h2, h3⟩ := h
  refine ⟨?_, fun ad eA i hi => ?_⟩
  · cases l with
    | nil => exact .inl rfl
    | cons x l => obtain ⟨ad, e, _⟩ := h3 (by simp); exact .inr ⟨ad, e⟩
  · obtain ⟨ad', e', hc⟩ := h3 (by omega)
    rw [eA] at e'
    obtain rfl := Option.some.inj e'
    obtain ⟨c, hl, ⟨A', c', rfl, hlc, hC⟩, hcell⟩ := hc i _ (List.getElem?_eq_getElem hi)
    have := hcell 0 _ rfl
    refine ⟨A', c', ?_, hlc, hC⟩
    rw [show i * (Kd.slice 43 QS.k43).sz + 0 = i from by show i * 1 + 0 = i; omega] at this
    exact this
theorem St.drew {W : World} {base g h : Nat} {d y : Int} {rows : List (List ByteArray)} (H : St W base g h d y rows) : St W.drew base g h d y rows := H.below (below_drew (Below.refl _ _))
section
variable {ops : Array Oper} {o : Oper} {a : Act} {Q : Exit → Act → World → Prop} {Kc : Act → World → Prop}
theorem St.appStep {W : World} {base g h : Nat} {d y : Int} {rows : List (List ByteArray)} (H : St W base g h d y rows) (h16 : 7 ≤ base) {A : Option Addr} {n c : Nat} {r : List ByteArray}
    (hr : Kd.R Kd.string 9 W base (fun _ => True) (.slice A n c) r) (hl : rows.length < 5864062014805) {vr : Value} (hvr : W.cell? ⟨g, 2, none⟩ = some vr) (s x : Operand) (hw : Region.wanted o (yielded ops a.tmps) = true)
    (ho : o.op = .call { callee := .builtin .append, args := #[s, x], argTypes := #[80, 80] }) (hs : a.eval s = vr) (hx : a.eval x = .slice (some ⟨W.heap.size, 0, none⟩) 1 1)
    (hk : ∀ A1 n1 c1 w1, w1.cell? ⟨h, 0, none⟩ = some (.pointer (some ⟨g, 0, none⟩)) → w1.cell? ⟨g, 2, none⟩ = some vr → w1.frozen? ⟨g, 2, none⟩ = false →
      Aside0 (St (w1.setCell ⟨g, 2, none⟩ (.slice A1 n1 c1)) base g h d y (rows ++ [r]) ∧ KT W (w1.setCell ⟨g, 2, none⟩ (.slice A1 n1 c1)) ∧ Below base W (w1.setCell ⟨g, 2, none⟩ (.slice A1 n1 c1))) → Kc (a.put o.dst (.slice A1 n1 c1)) w1) :
    if Region.wanted o (yielded ops a.tmps) = true then Oper.wp Tryz.prog o a (W.alloc (.cells #[.slice A n c] 90)) Kc Q else Kc (a.put o.dst undef) (W.alloc (.cells #[.slice A n c] 90)) := by
  obtain ⟨vr', h1, h2⟩ := H.sh.ex
  obtain rfl : vr = vr' := Option.some.inj (hvr.symm.trans (blk_cell h1 2))
  refine Kd.R_append_step kRows (w0 := W) base hw s x 80 90 (.slice none 0 0) 24 ho Tryz.underlying80 info_strs rfl (by decide) (by decide) vr rows r [.slice A n c] (fun _ => True) (fun k => some k ≠ vr.ownBlock) hs hx
    (Kd.M_row (Kd.R_mono (Kd.R_apartR hr h2 (by decide)) (fun _ hk => hk.2))) (fun _ hk => ⟨trivial, hk⟩) (fun _ _ => trivial) h2 (Below.refl _ _) H.sh.base_le (by omega) ?_
  intro v1 w1 ho1 hb hg hat
  obtain ⟨A1, c1, rfl⟩ := Kd.R_slice ho1
  generalize hv1 : (rows ++ [r]).length = n1 at *
  obtain ⟨v1, hv2⟩ : ∃ v1, v1 = Value.slice A1 n1 c1 := ⟨_, rfl⟩
  have hk := hk A1 n1 c1
  rw [← hv2] at hk ho1 ⊢
  have hblk := blk_grown h1 hg (Kd.R_ne h2 h1 (by decide))
  have hbox := blk_grown H.box hg (Kd.R_ne h2 H.box (by decide))
  have hkt : KT W (w1.setCell ⟨g, 2, none⟩ v1) := ⟨by simpa [World.setCell] using hg.size, fun k cs t hkk ht1 ht2 => by
    have hne : k ≠ g := by
      rintro rfl
      rw [hkk] at h1
      injection h1 with h1
      injection h1 with _ h1
      exact ht1 h1
    refine (Below.heap_setCell w1 ⟨g, 2, none⟩ _ k hne).trans ((hg.block k (blk_lt hkk) ?_).trans hkk)
    intro he
    obtain ⟨cells, hc⟩ := Kd.R_typed h2 k he.symm
    rw [hkk] at hc
    injection hc with hc
    injection hc with _ hc
    exact ht2 hc⟩
  have hbl : Below base W (w1.setCell ⟨g, 2, none⟩ v1) := hb.setCell H.sh.ge _
  refine hk w1 (blk_cell hbox 0) (blk_cell hblk 2) (blk_frozen hblk 2) ⟨H.step h16 ⟨⟨v1, by simpa using blk_set hblk 2 v1, ?_⟩, H.sh.ge⟩ hkt hbl, hkt, hbl⟩
  exact Kd.R_mono (Kd.R_far (Kd.R_types ho1 hblk (by decide)) (p := ⟨g, 2, none⟩) (fun k hk => hk.2) _) (fun _ _ => trivial)
end
end Go.Proofs.YtmimninicegjcaaGreatDoor

