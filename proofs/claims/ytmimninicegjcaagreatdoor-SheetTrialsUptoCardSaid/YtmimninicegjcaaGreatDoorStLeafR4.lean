/- daybookref01.Sum. -/
import Derived.Deep.RegionLaw
import Derived.Test.YtmimninicegjcaaGreatDoorStMLeafRLeafR2LeafR3
namespace Go.Proofs.YtmimninicegjcaaGreatDoor
open Go.RowKit Go.Shelf Go.Lib Go.Proofs.YtmimninicegjcaaGreatDoorW.PrintWords Go.Proofs.YtmimninicegjcaaGreatDoorW.PrintLast Go.Proofs.YtmimninicegjcaaGreatDoorW.PrintMore
set_option linter.unusedVariables false
set_option linter.unusedSimpArgs false
def ups (l : List Int) : Nat := (l.map fun a => if 0 ≤ a then a.natAbs else 0).sum
def downs (l : List Int) : Nat := (l.map fun a => if 0 ≤ a then 0 else a.natAbs).sum
theorem ups_snoc (l : List Int) (k : Nat) (h : k < l.length) : ups (l.take (k + 1)) = ups (l.take k) + (if 0 ≤ l[k] then l[k].natAbs else 0) := by
  rw [List.take_succ_eq_append_getElem h]
  simp only [ups, List.map_append, List.sum_append, List.map_cons, List.map_nil, List.sum_cons, List.sum_nil, Nat.add_zero]
theorem downs_snoc (l : List Int) (k : Nat) (h : k < l.length) : downs (l.take (k + 1)) = downs (l.take k) + (if 0 ≤ l[k] then 0 else l[k].natAbs) := by
  rw [List.take_succ_eq_append_getElem h]
  simp only [downs, List.map_append, List.sum_append, List.map_cons, List.map_nil, List.sum_cons, List.sum_nil, Nat.add_zero]
theorem ups_downs (l : List Int) : sumOf l = (ups l : Int) - (downs l : Int) := by
  induction l with
  | nil => rfl
  | cons a l ih =>
    have e1 : sumOf (a :: l) = a + sumOf l := rfl
    simp only [ups, downs, List.map_cons, List.sum_cons] at ih ⊢
    rw [e1, ih]
    by_cases h : 0 ≤ a
    · rw [if_pos h, if_pos h]; omega
    · rw [if_neg h, if_neg h]; omega
theorem ups_lt (l : List Int) (hl : l.length ≤ 1048576) (h : ∀ a ∈ l, -9223372036854775808 ≤ a ∧ a < 9223372036854775808) : ups l < wb 6 ∧ downs l < wb 6 := by
  have key : ∀ m : List Int, (∀ a ∈ m, -9223372036854775808 ≤ a ∧ a < 9223372036854775808) → ups m ≤ m.length * 9223372036854775808 ∧ downs m ≤ m.length * 9223372036854775808 := by
    intro m
    induction m with
    | nil => exact fun _ => ⟨by simp [ups], by simp [downs]⟩
    | cons a m ih =>
      intro hm
      have h1 := ih (fun x hx => hm x (by simp [hx]))
      have h2 := hm a (by simp)
      simp only [ups, downs, List.map_cons, List.sum_cons, List.length_cons] at h1 ⊢
      by_cases h : 0 ≤ a
      · rw [if_pos h, if_pos h]; omega
      · rw [if_neg h, if_neg h]; omega
  have := key l h
  have e : wb 6 = 6277101735386680763835789423207666416102355444464034512896 := by decide
  rw [e]
  omega
theorem sumSpec_fit {l : List Int} {s v e : Int} (hn : ∀ a ∈ l, a ≠ -9223372036854775808) (hs : sumOf l = s) (hr : -9223372036854775808 < s ∧ s < 9223372036854775808) (h : sumSpec l = (v, e)) : s = v ∧ 0 = e := by
  unfold sumSpec at h
  rw [if_pos (by rw [List.all_eq_true]; exact fun a ha => decide_eq_true (hn a ha)), hs, if_pos hr] at h
  simpa using h
theorem sumSpec_over {l : List Int} {v e : Int} (hn : ∀ a ∈ l, a ≠ -9223372036854775808) (hr : ¬ (-9223372036854775808 < sumOf l ∧ sumOf l < 9223372036854775808)) (h : sumSpec l = (v, e)) : 0 = v ∧ 11 = e := by
  unfold sumSpec at h
  rw [if_pos (by rw [List.all_eq_true]; exact fun a ha => decide_eq_true (hn a ha)), if_neg hr] at h
  simpa using h
theorem blk_far6 {W : World} {g k : Nat} {o : Obj} {v0 v1 v2 v3 v4 v5 : Value} (h : W.heap[g]? = some o) (hne : g ≠ k) :
    ((((((W.setCell ⟨k, 0, none⟩ v0).setCell ⟨k, 1, none⟩ v1).setCell ⟨k, 2, none⟩ v2).setCell ⟨k, 3, none⟩ v3).setCell ⟨k, 4, none⟩ v4).setCell ⟨k, 5, none⟩ v5).heap[g]? = some o :=
  blk_far (blk_far (blk_far (blk_far (blk_far (blk_far h hne) hne) hne) hne) hne) hne
theorem far6_below {w W : World} {g k : Nat} {v0 v1 v2 v3 v4 v5 : Value} (h : Below g w W) (hle : g ≤ k) :
    Below g w ((((((W.setCell ⟨k, 0, none⟩ v0).setCell ⟨k, 1, none⟩ v1).setCell ⟨k, 2, none⟩ v2).setCell ⟨k, 3, none⟩ v3).setCell ⟨k, 4, none⟩ v4).setCell ⟨k, 5, none⟩ v5) :=
  (((((h.setCell hle _).setCell hle _).setCell hle _).setCell hle _).setCell hle _).setCell hle _
set_option maxRecDepth 100000 in
set_option maxHeartbeats 4000000 in
theorem RefSum_walk (A : Option Addr) (cp : Nat) (l : List Int) (w : World) (hc : ∀ ad, A = some ad → ∀ k, (h : k < l.length) → w.cell? (ad.add k) = some (.int .i64 l[k])) (hA : l = [] ∨ ∃ ad, A = some ad)
    (hl : l.length ≤ 1048576) (hi : ∀ a ∈ l, -9223372036854775808 ≤ a ∧ a < 9223372036854775808) (v e : Int) (hs : sumSpec l = (v, e)) :
    Calls Tryz.prog 51 #[.slice A l.length cp] w fun en w' => en = .returned (.tuple #[.int .i64 v, .int .i64 e]) ∧ Below w.heap.size w w' := by
  have HC := Aside0.mk hc
  have HA := Aside0.mk hA
  have HL := Aside0.mk hl
  have HI := Aside0.mk hi
  have HS := Aside0.mk hs
  have i0 : (l.length : Int) ≤ 1048576 := by omega
  have HLT := Aside0.mk (ups_lt l hl hi)
  clear hc hA hl hi hs
  go_enter Tryz.func51, Tryz.ntmps51
  go_wp2_with fail
  go_loopw [6] (fun v wr => ∃ k : Nat, v = .int .i64 k ∧ k ≤ l.length ∧ Aside0 (∀ a ∈ l.take k, a ≠ -9223372036854775808) ∧ Aside0 (wr.heap[w.heap.size]? = some (.cells (wA (dg (ups (l.take k)))) 156 (0, 0))) ∧ Aside0 (wr.heap[w.heap.size + 1]? = some (.cells (wA (dg (downs (l.take k)))) 156 (0, 0))) ∧ Aside0 (Below w.heap.size w wr)) (fun v _ => l.length - (RowKit.intOf v).toNat)
  case atStart =>
    refine ⟨0, rfl, Nat.zero_le _, ⟨by simp⟩, ⟨?_⟩, ⟨?_⟩, ⟨?_⟩⟩
    · have e : wA (dg (ups (l.take 0))) = #[.int .u64 0, .int .u64 0, .int .u64 0, .int .u64 0, .int .u64 0, .int .u64 0] := by simp [wA, ups, dg]
      rw [e]
      exact blk_alloc (heap_alloc_new _ _) _
    · have e : wA (dg (downs (l.take 0))) = #[.int .u64 0, .int .u64 0, .int .u64 0, .int .u64 0, .int .u64 0, .int .u64 0] := by simp [wA, downs, dg]
      rw [e]
      exact new_at al1
    · repeat (first | exact Below.refl _ _ | apply below_alloc)
  case round =>
    obtain ⟨k, rfl, hk, HN, HU, HD, HB⟩ := hrel
    by_cases hlt : k < l.length
    · obtain ⟨ad, rfl⟩ : ∃ ad, A = some ad := by
        rcases HA.out with h | h
        · subst h; simp at hlt
        · exact h
      have hcell := HC.out ad rfl k hlt
      have hbk := World.block_lt_of_cell? w _ hcell
      replace hcell := (HB.out.cell hbk).trans hcell
      have hx := HI.out l[k] (List.getElem_mem hlt)
      have HUS := Aside0.mk (ups_snoc l k hlt)
      have HDS := Aside0.mk (downs_snoc l k hlt)
      have HNS : Aside0 (l[k] ≠ -9223372036854775808 → ∀ a ∈ l.take (k + 1), a ≠ -9223372036854775808) := ⟨fun hne a ha => by
        rw [List.take_succ_eq_append_getElem hlt, List.mem_append] at ha
        rcases ha with ha | ha
        · exact HN.out a ha
        · rw [List.mem_singleton.1 ha]; exact hne⟩
      have HMEM := Aside0.mk (List.getElem_mem hlt)
      have iK : (k : Int) < (l.length : Int) := by omega
      generalize l[k] = x at *
      have hx2 : x ≤ 9223372036854775807 := by have := hx.2; omega
      have HX1 := Aside0.mk hx.1
      have HX2 := Aside0.mk hx2
      have HBK := Aside0.mk hbk
      clear hx hbk hx2
      generalize ups (l.take k) = U at *
      generalize downs (l.take k) = D at *
      generalize hg0 : w.heap.size = g0 at *
      have HG0 := Aside0.mk hg0
      clear hg0
      go_wp2_with fail
      refine (Is_calls x _).mono ?_
      rintro en w2 ⟨rfl, rfl⟩
      by_cases hn : x = -9223372036854775808
      · have hd : decide (x ≠ -9223372036854775808) = false := by simp [hn]
        rw [hd]
        have HNX := Aside0.mk hn
        clear hd hn
        go_wp2_with fail
        go_ret2
        refine ⟨?_, by rw [HG0.out]; exact HB.out⟩
        have hs := HS.out
        unfold sumSpec at hs
        rw [if_neg (by
          rw [List.all_eq_true]
          intro h
          have := h x HMEM.out
          rw [HNX.out] at this
          simp at this)] at hs
        simp only [Prod.mk.injEq] at hs
        rw [← hs.1, ← hs.2]
        rfl
      · have hd : decide (x ≠ -9223372036854775808) = true := by simp [hn]
        rw [hd]
        have HNX := Aside0.mk (HNS.out hn)
        clear hd hn
        by_cases hp : 0 ≤ x
        · have hp' : decide (0 ≤ x) = true := decide_eq_true hp
          have HP := Aside0.mk hp
          clear hp
          have u0 : wr.cell? ⟨g0, 0, none⟩ = some (.int .u64 (dg U 0 : Nat)) := cellAt HU.out 0 (by decide)
          have u1 : wr.cell? ⟨g0, 1, none⟩ = some (.int .u64 (dg U 1 : Nat)) := cellAt HU.out 1 (by decide)
          have u2 : wr.cell? ⟨g0, 2, none⟩ = some (.int .u64 (dg U 2 : Nat)) := cellAt HU.out 2 (by decide)
          have u3 : wr.cell? ⟨g0, 3, none⟩ = some (.int .u64 (dg U 3 : Nat)) := cellAt HU.out 3 (by decide)
          have u4 : wr.cell? ⟨g0, 4, none⟩ = some (.int .u64 (dg U 4 : Nat)) := cellAt HU.out 4 (by decide)
          have u5 : wr.cell? ⟨g0, 5, none⟩ = some (.int .u64 (dg U 5 : Nat)) := cellAt HU.out 5 (by decide)
          go_wp2_with fail
          go_region_law (first
            | (go_simp; go_at_call 112; refine (Of_calls x HX1.out HX2.out _).mono ?_; rintro en w3 ⟨rfl, hb3⟩; have hb4 : Below wr.heap.size wr w3 := ⟨hb3.os, hb3.tape, hb3.output, hb3.size, hb3.block⟩; have HB4 := Aside0.mk hb4; have HV4 := Aside0.mk ((hb4.block _ (blk_lt HU.out)).trans HU.out); clear hb3 hb4; have v0 := cellAt HV4.out 0 (by decide); have v1 := cellAt HV4.out 1 (by decide); have v2 := cellAt HV4.out 2 (by decide); have v3 := cellAt HV4.out 3 (by decide); have v4 := cellAt HV4.out 4 (by decide); have v5 := cellAt HV4.out 5 (by decide); rw [wV, wA])
            | (go_simp; go_at_call 111; refine (Plus_calls U x.natAbs _).mono ?_; rintro en w4 ⟨rfl, hb5⟩; have HV5 := Aside0.mk ((hb5.block _ (blk_lt HV4.out)).trans HV4.out); have HB5 := Aside0.mk (below_step HB4.out hb5); clear hb5; have x0 := cellAt HV5.out 0 (by decide); have x1 := cellAt HV5.out 1 (by decide); have x2 := cellAt HV5.out 2 (by decide); have x3 := cellAt HV5.out 3 (by decide); have x4 := cellAt HV5.out 4 (by decide); have x5 := cellAt HV5.out 5 (by decide); have y0 := blk_frozen HV5.out 0; have y1 := blk_frozen HV5.out 1; have y2 := blk_frozen HV5.out 2; have y3 := blk_frozen HV5.out 3; have y4 := blk_frozen HV5.out 4; have y5 := blk_frozen HV5.out 5; rw [wV, wA]))
          all_goals (
            go_wp2_with fail
            go_roundw
            case measure => simp [RowKit.intOf]; omega
            case rel => exact ⟨k + 1, by go_num, hlt, HNX, ⟨by rw [HUS.out, if_pos HP.out]; exact six_set HV5.out _ _ _ _ _ _⟩, ⟨by rw [HDS.out, if_pos HP.out, Nat.add_zero]; exact blk_far6 ((HB5.out.block _ (blk_lt HD.out)).trans HD.out) (by omega)⟩, ⟨far6_below (HB.out.trans (HB5.out.mono (Nat.le_of_lt (blk_lt HU.out)))) (by omega)⟩⟩)
        · have hp' : decide (0 ≤ x) = false := decide_eq_false hp
          have HP := Aside0.mk hp
          clear hp
          have u0 : wr.cell? ⟨g0 + 1, 0, none⟩ = some (.int .u64 (dg D 0 : Nat)) := cellAt HD.out 0 (by decide)
          have u1 : wr.cell? ⟨g0 + 1, 1, none⟩ = some (.int .u64 (dg D 1 : Nat)) := cellAt HD.out 1 (by decide)
          have u2 : wr.cell? ⟨g0 + 1, 2, none⟩ = some (.int .u64 (dg D 2 : Nat)) := cellAt HD.out 2 (by decide)
          have u3 : wr.cell? ⟨g0 + 1, 3, none⟩ = some (.int .u64 (dg D 3 : Nat)) := cellAt HD.out 3 (by decide)
          have u4 : wr.cell? ⟨g0 + 1, 4, none⟩ = some (.int .u64 (dg D 4 : Nat)) := cellAt HD.out 4 (by decide)
          have u5 : wr.cell? ⟨g0 + 1, 5, none⟩ = some (.int .u64 (dg D 5 : Nat)) := cellAt HD.out 5 (by decide)
          go_wp2_with fail
          go_region_law (first
            | (go_simp; go_at_call 112; refine (Of_calls x HX1.out HX2.out _).mono ?_; rintro en w3 ⟨rfl, hb3⟩; have hb4 : Below wr.heap.size wr w3 := ⟨hb3.os, hb3.tape, hb3.output, hb3.size, hb3.block⟩; have HB4 := Aside0.mk hb4; have HV4 := Aside0.mk ((hb4.block _ (blk_lt HD.out)).trans HD.out); clear hb3 hb4; have v0 := cellAt HV4.out 0 (by decide); have v1 := cellAt HV4.out 1 (by decide); have v2 := cellAt HV4.out 2 (by decide); have v3 := cellAt HV4.out 3 (by decide); have v4 := cellAt HV4.out 4 (by decide); have v5 := cellAt HV4.out 5 (by decide); rw [wV, wA])
            | (go_simp; go_at_call 111; refine (Plus_calls D x.natAbs _).mono ?_; rintro en w4 ⟨rfl, hb5⟩; have HV5 := Aside0.mk ((hb5.block _ (blk_lt HV4.out)).trans HV4.out); have HB5 := Aside0.mk (below_step HB4.out hb5); clear hb5; have x0 := cellAt HV5.out 0 (by decide); have x1 := cellAt HV5.out 1 (by decide); have x2 := cellAt HV5.out 2 (by decide); have x3 := cellAt HV5.out 3 (by decide); have x4 := cellAt HV5.out 4 (by decide); have x5 := cellAt HV5.out 5 (by decide); have y0 := blk_frozen HV5.out 0; have y1 := blk_frozen HV5.out 1; have y2 := blk_frozen HV5.out 2; have y3 := blk_frozen HV5.out 3; have y4 := blk_frozen HV5.out 4; have y5 := blk_frozen HV5.out 5; rw [wV, wA]))
          all_goals (
            go_wp2_with fail
            go_roundw
            case measure => simp [RowKit.intOf]; omega
            case rel => exact ⟨k + 1, by go_num, hlt, HNX, ⟨by rw [HUS.out, if_neg (Int.not_le.2 HP.out), Nat.add_zero]; exact blk_far6 ((HB5.out.block _ (blk_lt HU.out)).trans HU.out) (by omega)⟩, ⟨by rw [HDS.out, if_neg (Int.not_le.2 HP.out)]; exact six_set HV5.out _ _ _ _ _ _⟩, ⟨far6_below (HB.out.trans (HB5.out.mono (Nat.le_of_lt (blk_lt HU.out)))) (by omega)⟩⟩)
    · have hk' : k = l.length := by omega
      subst hk'
      rw [List.take_length] at HN HU HD
      have HLU := Aside0.mk HLT.out.1
      have HLD := Aside0.mk HLT.out.2
      have HUD := Aside0.mk (ups_downs l)
      generalize ups l = U at *
      generalize downs l = D at *
      have hgw : w.heap.size ≤ wr.heap.size := HB.out.size
      have HGW := Aside0.mk hgw
      generalize hg0 : w.heap.size = g0 at *
      have HG0 := Aside0.mk hg0
      clear hg0 hgw hk hlt
      have u0 : wr.cell? ⟨g0, 0, none⟩ = some (.int .u64 (dg U 0 : Nat)) := cellAt HU.out 0 (by decide)
      have u1 : wr.cell? ⟨g0, 1, none⟩ = some (.int .u64 (dg U 1 : Nat)) := cellAt HU.out 1 (by decide)
      have u2 : wr.cell? ⟨g0, 2, none⟩ = some (.int .u64 (dg U 2 : Nat)) := cellAt HU.out 2 (by decide)
      have u3 : wr.cell? ⟨g0, 3, none⟩ = some (.int .u64 (dg U 3 : Nat)) := cellAt HU.out 3 (by decide)
      have u4 : wr.cell? ⟨g0, 4, none⟩ = some (.int .u64 (dg U 4 : Nat)) := cellAt HU.out 4 (by decide)
      have u5 : wr.cell? ⟨g0, 5, none⟩ = some (.int .u64 (dg U 5 : Nat)) := cellAt HU.out 5 (by decide)
      have d0 : wr.cell? ⟨g0 + 1, 0, none⟩ = some (.int .u64 (dg D 0 : Nat)) := cellAt HD.out 0 (by decide)
      have d1 : wr.cell? ⟨g0 + 1, 1, none⟩ = some (.int .u64 (dg D 1 : Nat)) := cellAt HD.out 1 (by decide)
      have d2 : wr.cell? ⟨g0 + 1, 2, none⟩ = some (.int .u64 (dg D 2 : Nat)) := cellAt HD.out 2 (by decide)
      have d3 : wr.cell? ⟨g0 + 1, 3, none⟩ = some (.int .u64 (dg D 3 : Nat)) := cellAt HD.out 3 (by decide)
      have d4 : wr.cell? ⟨g0 + 1, 4, none⟩ = some (.int .u64 (dg D 4 : Nat)) := cellAt HD.out 4 (by decide)
      have d5 : wr.cell? ⟨g0 + 1, 5, none⟩ = some (.int .u64 (dg D 5 : Nat)) := cellAt HD.out 5 (by decide)
      go_wp2_with fail
      refine (Below_calls U D HLU.out HLD.out _).mono ?_
      rintro en w2 ⟨rfl, hb2⟩
      have HU2 := Aside0.mk ((hb2.block _ (blk_lt HU.out)).trans HU.out)
      have HD2 := Aside0.mk ((hb2.block _ (blk_lt HD.out)).trans HD.out)
      have HB2 := Aside0.mk (HB.out.trans (hb2.mono HGW.out))
      have HGZ := Aside0.mk (Nat.le_trans HGW.out hb2.size)
      clear hb2 u0 u1 u2 u3 u4 u5 d0 d1 d2 d3 d4 d5
      by_cases hlt2 : U < D
      · have hd : decide (U < D) = true := decide_eq_true hlt2
        have HLE := Aside0.mk (Nat.le_of_lt hlt2)
        rw [hd]
        clear hd hlt2
        have u0 : w2.cell? ⟨g0, 0, none⟩ = some (.int .u64 (dg U 0 : Nat)) := cellAt HU2.out 0 (by decide)
        have u1 : w2.cell? ⟨g0, 1, none⟩ = some (.int .u64 (dg U 1 : Nat)) := cellAt HU2.out 1 (by decide)
        have u2 : w2.cell? ⟨g0, 2, none⟩ = some (.int .u64 (dg U 2 : Nat)) := cellAt HU2.out 2 (by decide)
        have u3 : w2.cell? ⟨g0, 3, none⟩ = some (.int .u64 (dg U 3 : Nat)) := cellAt HU2.out 3 (by decide)
        have u4 : w2.cell? ⟨g0, 4, none⟩ = some (.int .u64 (dg U 4 : Nat)) := cellAt HU2.out 4 (by decide)
        have u5 : w2.cell? ⟨g0, 5, none⟩ = some (.int .u64 (dg U 5 : Nat)) := cellAt HU2.out 5 (by decide)
        have d0 : w2.cell? ⟨g0 + 1, 0, none⟩ = some (.int .u64 (dg D 0 : Nat)) := cellAt HD2.out 0 (by decide)
        have d1 : w2.cell? ⟨g0 + 1, 1, none⟩ = some (.int .u64 (dg D 1 : Nat)) := cellAt HD2.out 1 (by decide)
        have d2 : w2.cell? ⟨g0 + 1, 2, none⟩ = some (.int .u64 (dg D 2 : Nat)) := cellAt HD2.out 2 (by decide)
        have d3 : w2.cell? ⟨g0 + 1, 3, none⟩ = some (.int .u64 (dg D 3 : Nat)) := cellAt HD2.out 3 (by decide)
        have d4 : w2.cell? ⟨g0 + 1, 4, none⟩ = some (.int .u64 (dg D 4 : Nat)) := cellAt HD2.out 4 (by decide)
        have d5 : w2.cell? ⟨g0 + 1, 5, none⟩ = some (.int .u64 (dg D 5 : Nat)) := cellAt HD2.out 5 (by decide)
        have HG9 := Aside0.mk (heap_alloc_new w2 (.cells (wA (dg U)) 156 (0, 0)))
        have HB9 := Aside0.mk (HB2.out.alloc HGZ.out (.cells (wA (dg U)) 156 (0, 0)))
        obtain ⟨g9, hg9⟩ : ∃ x, w2.heap.size = x := ⟨_, rfl⟩
        have HU9 := Aside0.mk (blk_alloc HU2.out (.cells (wA (dg U)) 156 (0, 0)))
        have HD9 := Aside0.mk (blk_alloc HD2.out (.cells (wA (dg U)) 156 (0, 0)))
        have p0 : (w2.alloc (.cells #[.int .u64 (dg U 0 : Nat), .int .u64 (dg U 1 : Nat), .int .u64 (dg U 2 : Nat), .int .u64 (dg U 3 : Nat), .int .u64 (dg U 4 : Nat), .int .u64 (dg U 5 : Nat)] 156 (0, 0))).cell? ⟨g0, 0, none⟩ = some (.int .u64 (dg U 0 : Nat)) := cellAt HU9.out 0 (by decide)
        have p1 : (w2.alloc (.cells #[.int .u64 (dg U 0 : Nat), .int .u64 (dg U 1 : Nat), .int .u64 (dg U 2 : Nat), .int .u64 (dg U 3 : Nat), .int .u64 (dg U 4 : Nat), .int .u64 (dg U 5 : Nat)] 156 (0, 0))).cell? ⟨g0, 1, none⟩ = some (.int .u64 (dg U 1 : Nat)) := cellAt HU9.out 1 (by decide)
        have p2 : (w2.alloc (.cells #[.int .u64 (dg U 0 : Nat), .int .u64 (dg U 1 : Nat), .int .u64 (dg U 2 : Nat), .int .u64 (dg U 3 : Nat), .int .u64 (dg U 4 : Nat), .int .u64 (dg U 5 : Nat)] 156 (0, 0))).cell? ⟨g0, 2, none⟩ = some (.int .u64 (dg U 2 : Nat)) := cellAt HU9.out 2 (by decide)
        have p3 : (w2.alloc (.cells #[.int .u64 (dg U 0 : Nat), .int .u64 (dg U 1 : Nat), .int .u64 (dg U 2 : Nat), .int .u64 (dg U 3 : Nat), .int .u64 (dg U 4 : Nat), .int .u64 (dg U 5 : Nat)] 156 (0, 0))).cell? ⟨g0, 3, none⟩ = some (.int .u64 (dg U 3 : Nat)) := cellAt HU9.out 3 (by decide)
        have p4 : (w2.alloc (.cells #[.int .u64 (dg U 0 : Nat), .int .u64 (dg U 1 : Nat), .int .u64 (dg U 2 : Nat), .int .u64 (dg U 3 : Nat), .int .u64 (dg U 4 : Nat), .int .u64 (dg U 5 : Nat)] 156 (0, 0))).cell? ⟨g0, 4, none⟩ = some (.int .u64 (dg U 4 : Nat)) := cellAt HU9.out 4 (by decide)
        have p5 : (w2.alloc (.cells #[.int .u64 (dg U 0 : Nat), .int .u64 (dg U 1 : Nat), .int .u64 (dg U 2 : Nat), .int .u64 (dg U 3 : Nat), .int .u64 (dg U 4 : Nat), .int .u64 (dg U 5 : Nat)] 156 (0, 0))).cell? ⟨g0, 5, none⟩ = some (.int .u64 (dg U 5 : Nat)) := cellAt HU9.out 5 (by decide)
        have q0 : (w2.alloc (.cells #[.int .u64 (dg U 0 : Nat), .int .u64 (dg U 1 : Nat), .int .u64 (dg U 2 : Nat), .int .u64 (dg U 3 : Nat), .int .u64 (dg U 4 : Nat), .int .u64 (dg U 5 : Nat)] 156 (0, 0))).cell? ⟨g0 + 1, 0, none⟩ = some (.int .u64 (dg D 0 : Nat)) := cellAt HD9.out 0 (by decide)
        have q1 : (w2.alloc (.cells #[.int .u64 (dg U 0 : Nat), .int .u64 (dg U 1 : Nat), .int .u64 (dg U 2 : Nat), .int .u64 (dg U 3 : Nat), .int .u64 (dg U 4 : Nat), .int .u64 (dg U 5 : Nat)] 156 (0, 0))).cell? ⟨g0 + 1, 1, none⟩ = some (.int .u64 (dg D 1 : Nat)) := cellAt HD9.out 1 (by decide)
        have q2 : (w2.alloc (.cells #[.int .u64 (dg U 0 : Nat), .int .u64 (dg U 1 : Nat), .int .u64 (dg U 2 : Nat), .int .u64 (dg U 3 : Nat), .int .u64 (dg U 4 : Nat), .int .u64 (dg U 5 : Nat)] 156 (0, 0))).cell? ⟨g0 + 1, 2, none⟩ = some (.int .u64 (dg D 2 : Nat)) := cellAt HD9.out 2 (by decide)
        have q3 : (w2.alloc (.cells #[.int .u64 (dg U 0 : Nat), .int .u64 (dg U 1 : Nat), .int .u64 (dg U 2 : Nat), .int .u64 (dg U 3 : Nat), .int .u64 (dg U 4 : Nat), .int .u64 (dg U 5 : Nat)] 156 (0, 0))).cell? ⟨g0 + 1, 3, none⟩ = some (.int .u64 (dg D 3 : Nat)) := cellAt HD9.out 3 (by decide)
        have q4 : (w2.alloc (.cells #[.int .u64 (dg U 0 : Nat), .int .u64 (dg U 1 : Nat), .int .u64 (dg U 2 : Nat), .int .u64 (dg U 3 : Nat), .int .u64 (dg U 4 : Nat), .int .u64 (dg U 5 : Nat)] 156 (0, 0))).cell? ⟨g0 + 1, 4, none⟩ = some (.int .u64 (dg D 4 : Nat)) := cellAt HD9.out 4 (by decide)
        have q5 : (w2.alloc (.cells #[.int .u64 (dg U 0 : Nat), .int .u64 (dg U 1 : Nat), .int .u64 (dg U 2 : Nat), .int .u64 (dg U 3 : Nat), .int .u64 (dg U 4 : Nat), .int .u64 (dg U 5 : Nat)] 156 (0, 0))).cell? ⟨g0 + 1, 5, none⟩ = some (.int .u64 (dg D 5 : Nat)) := cellAt HD9.out 5 (by decide)
        go_wp2_with fail
        refine (Minus_calls D U HLE.out _).mono ?_
        rintro en w3 ⟨rfl, hb3⟩
        have HG3 := Aside0.mk ((hb3.block _ (blk_lt HG9.out)).trans HG9.out)
        have HB3 := Aside0.mk (HB9.out.trans (hb3.mono (Nat.le_trans HGZ.out (below_alloc (Below.refl _ _) _).size)))
        clear hb3 u0 u1 u2 u3 u4 u5 d0 d1 d2 d3 d4 d5 p0 p1 p2 p3 p4 p5 q0 q1 q2 q3 q4 q5
        rw [hg9] at HG3
        have HG92 := Aside0.mk (show g0 ≤ g9 by have := HGZ.out; omega)
        clear hg9
        have u0 : w3.cell? ⟨g9, 0, none⟩ = some (.int .u64 (dg U 0 : Nat)) := cellAt HG3.out 0 (by decide)
        have u1 : w3.cell? ⟨g9, 1, none⟩ = some (.int .u64 (dg U 1 : Nat)) := cellAt HG3.out 1 (by decide)
        have u2 : w3.cell? ⟨g9, 2, none⟩ = some (.int .u64 (dg U 2 : Nat)) := cellAt HG3.out 2 (by decide)
        have u3 : w3.cell? ⟨g9, 3, none⟩ = some (.int .u64 (dg U 3 : Nat)) := cellAt HG3.out 3 (by decide)
        have u4 : w3.cell? ⟨g9, 4, none⟩ = some (.int .u64 (dg U 4 : Nat)) := cellAt HG3.out 4 (by decide)
        have u5 : w3.cell? ⟨g9, 5, none⟩ = some (.int .u64 (dg U 5 : Nat)) := cellAt HG3.out 5 (by decide)
        have f0 : w3.frozen? ⟨g9, 0, none⟩ = false := blk_frozen HG3.out 0
        have f1 : w3.frozen? ⟨g9, 1, none⟩ = false := blk_frozen HG3.out 1
        have f2 : w3.frozen? ⟨g9, 2, none⟩ = false := blk_frozen HG3.out 2
        have f3 : w3.frozen? ⟨g9, 3, none⟩ = false := blk_frozen HG3.out 3
        have f4 : w3.frozen? ⟨g9, 4, none⟩ = false := blk_frozen HG3.out 4
        have f5 : w3.frozen? ⟨g9, 5, none⟩ = false := blk_frozen HG3.out 5
        have HZB := Aside0.mk (far6_below (v0 := .int .u64 (dg (D - U) 0 : Nat)) (v1 := .int .u64 (dg (D - U) 1 : Nat)) (v2 := .int .u64 (dg (D - U) 2 : Nat)) (v3 := .int .u64 (dg (D - U) 3 : Nat)) (v4 := .int .u64 (dg (D - U) 4 : Nat)) (v5 := .int .u64 (dg (D - U) 5 : Nat)) HB3.out HG92.out)
        rw [wV, wA]
        by_cases hfit : (D - U) < 9223372036854775808
        · go_wp2_with fail
          refine (amount_fit (D - U) hfit true _).mono ?_
          rintro en w5 ⟨rfl, hb5⟩
          have HB5 := Aside0.mk (HZB.out.trans (hb5.mono (Nat.le_trans (Nat.le_of_eq HG0.out.symm) HZB.out.size)))
          have HFT := Aside0.mk hfit
          clear hb5 hfit
          go_wp2_with fail
          go_ret2
          have hres := sumSpec_fit (s := -((D - U : Nat) : Int)) HN.out (by have := HUD.out; have := HLE.out; omega) (by have := HFT.out; have := HLE.out; omega) HS.out
          obtain ⟨rfl, rfl⟩ := hres
          exact ⟨rfl, by rw [HG0.out]; exact HB5.out⟩
        · go_wp2_with fail
          refine (amount_over (D - U) (Nat.not_lt.1 hfit) (by have := HLU.out; have := HLD.out; omega) true _).mono ?_
          rintro en w5 ⟨rfl, hb5⟩
          have HB5 := Aside0.mk (HZB.out.trans (hb5.mono (Nat.le_trans (Nat.le_of_eq HG0.out.symm) HZB.out.size)))
          have HFT := Aside0.mk hfit
          clear hb5 hfit
          go_wp2_with fail
          go_ret2
          have hres := sumSpec_over HN.out (by have := HUD.out; have := HFT.out; have := HLE.out; omega) HS.out
          obtain ⟨rfl, rfl⟩ := hres
          exact ⟨rfl, by rw [HG0.out]; exact HB5.out⟩
      · have hd : decide (U < D) = false := decide_eq_false hlt2
        have HLE := Aside0.mk (Nat.not_lt.1 hlt2)
        rw [hd]
        clear hd hlt2
        have u0 : w2.cell? ⟨g0, 0, none⟩ = some (.int .u64 (dg U 0 : Nat)) := cellAt HU2.out 0 (by decide)
        have u1 : w2.cell? ⟨g0, 1, none⟩ = some (.int .u64 (dg U 1 : Nat)) := cellAt HU2.out 1 (by decide)
        have u2 : w2.cell? ⟨g0, 2, none⟩ = some (.int .u64 (dg U 2 : Nat)) := cellAt HU2.out 2 (by decide)
        have u3 : w2.cell? ⟨g0, 3, none⟩ = some (.int .u64 (dg U 3 : Nat)) := cellAt HU2.out 3 (by decide)
        have u4 : w2.cell? ⟨g0, 4, none⟩ = some (.int .u64 (dg U 4 : Nat)) := cellAt HU2.out 4 (by decide)
        have u5 : w2.cell? ⟨g0, 5, none⟩ = some (.int .u64 (dg U 5 : Nat)) := cellAt HU2.out 5 (by decide)
        have d0 : w2.cell? ⟨g0 + 1, 0, none⟩ = some (.int .u64 (dg D 0 : Nat)) := cellAt HD2.out 0 (by decide)
        have d1 : w2.cell? ⟨g0 + 1, 1, none⟩ = some (.int .u64 (dg D 1 : Nat)) := cellAt HD2.out 1 (by decide)
        have d2 : w2.cell? ⟨g0 + 1, 2, none⟩ = some (.int .u64 (dg D 2 : Nat)) := cellAt HD2.out 2 (by decide)
        have d3 : w2.cell? ⟨g0 + 1, 3, none⟩ = some (.int .u64 (dg D 3 : Nat)) := cellAt HD2.out 3 (by decide)
        have d4 : w2.cell? ⟨g0 + 1, 4, none⟩ = some (.int .u64 (dg D 4 : Nat)) := cellAt HD2.out 4 (by decide)
        have d5 : w2.cell? ⟨g0 + 1, 5, none⟩ = some (.int .u64 (dg D 5 : Nat)) := cellAt HD2.out 5 (by decide)
        have HG9 := Aside0.mk (heap_alloc_new w2 (.cells (wA (dg U)) 156 (0, 0)))
        have HB9 := Aside0.mk (HB2.out.alloc HGZ.out (.cells (wA (dg U)) 156 (0, 0)))
        obtain ⟨g9, hg9⟩ : ∃ x, w2.heap.size = x := ⟨_, rfl⟩
        have HU9 := Aside0.mk (blk_alloc HU2.out (.cells (wA (dg U)) 156 (0, 0)))
        have HD9 := Aside0.mk (blk_alloc HD2.out (.cells (wA (dg U)) 156 (0, 0)))
        have p0 : (w2.alloc (.cells #[.int .u64 (dg U 0 : Nat), .int .u64 (dg U 1 : Nat), .int .u64 (dg U 2 : Nat), .int .u64 (dg U 3 : Nat), .int .u64 (dg U 4 : Nat), .int .u64 (dg U 5 : Nat)] 156 (0, 0))).cell? ⟨g0, 0, none⟩ = some (.int .u64 (dg U 0 : Nat)) := cellAt HU9.out 0 (by decide)
        have p1 : (w2.alloc (.cells #[.int .u64 (dg U 0 : Nat), .int .u64 (dg U 1 : Nat), .int .u64 (dg U 2 : Nat), .int .u64 (dg U 3 : Nat), .int .u64 (dg U 4 : Nat), .int .u64 (dg U 5 : Nat)] 156 (0, 0))).cell? ⟨g0, 1, none⟩ = some (.int .u64 (dg U 1 : Nat)) := cellAt HU9.out 1 (by decide)
        have p2 : (w2.alloc (.cells #[.int .u64 (dg U 0 : Nat), .int .u64 (dg U 1 : Nat), .int .u64 (dg U 2 : Nat), .int .u64 (dg U 3 : Nat), .int .u64 (dg U 4 : Nat), .int .u64 (dg U 5 : Nat)] 156 (0, 0))).cell? ⟨g0, 2, none⟩ = some (.int .u64 (dg U 2 : Nat)) := cellAt HU9.out 2 (by decide)
        have p3 : (w2.alloc (.cells #[.int .u64 (dg U 0 : Nat), .int .u64 (dg U 1 : Nat), .int .u64 (dg U 2 : Nat), .int .u64 (dg U 3 : Nat), .int .u64 (dg U 4 : Nat), .int .u64 (dg U 5 : Nat)] 156 (0, 0))).cell? ⟨g0, 3, none⟩ = some (.int .u64 (dg U 3 : Nat)) := cellAt HU9.out 3 (by decide)
        have p4 : (w2.alloc (.cells #[.int .u64 (dg U 0 : Nat), .int .u64 (dg U 1 : Nat), .int .u64 (dg U 2 : Nat), .int .u64 (dg U 3 : Nat), .int .u64 (dg U 4 : Nat), .int .u64 (dg U 5 : Nat)] 156 (0, 0))).cell? ⟨g0, 4, none⟩ = some (.int .u64 (dg U 4 : Nat)) := cellAt HU9.out 4 (by decide)
        have p5 : (w2.alloc (.cells #[.int .u64 (dg U 0 : Nat), .int .u64 (dg U 1 : Nat), .int .u64 (dg U 2 : Nat), .int .u64 (dg U 3 : Nat), .int .u64 (dg U 4 : Nat), .int .u64 (dg U 5 : Nat)] 156 (0, 0))).cell? ⟨g0, 5, none⟩ = some (.int .u64 (dg U 5 : Nat)) := cellAt HU9.out 5 (by decide)
        have q0 : (w2.alloc (.cells #[.int .u64 (dg U 0 : Nat), .int .u64 (dg U 1 : Nat), .int .u64 (dg U 2 : Nat), .int .u64 (dg U 3 : Nat), .int .u64 (dg U 4 : Nat), .int .u64 (dg U 5 : Nat)] 156 (0, 0))).cell? ⟨g0 + 1, 0, none⟩ = some (.int .u64 (dg D 0 : Nat)) := cellAt HD9.out 0 (by decide)
        have q1 : (w2.alloc (.cells #[.int .u64 (dg U 0 : Nat), .int .u64 (dg U 1 : Nat), .int .u64 (dg U 2 : Nat), .int .u64 (dg U 3 : Nat), .int .u64 (dg U 4 : Nat), .int .u64 (dg U 5 : Nat)] 156 (0, 0))).cell? ⟨g0 + 1, 1, none⟩ = some (.int .u64 (dg D 1 : Nat)) := cellAt HD9.out 1 (by decide)
        have q2 : (w2.alloc (.cells #[.int .u64 (dg U 0 : Nat), .int .u64 (dg U 1 : Nat), .int .u64 (dg U 2 : Nat), .int .u64 (dg U 3 : Nat), .int .u64 (dg U 4 : Nat), .int .u64 (dg U 5 : Nat)] 156 (0, 0))).cell? ⟨g0 + 1, 2, none⟩ = some (.int .u64 (dg D 2 : Nat)) := cellAt HD9.out 2 (by decide)
        have q3 : (w2.alloc (.cells #[.int .u64 (dg U 0 : Nat), .int .u64 (dg U 1 : Nat), .int .u64 (dg U 2 : Nat), .int .u64 (dg U 3 : Nat), .int .u64 (dg U 4 : Nat), .int .u64 (dg U 5 : Nat)] 156 (0, 0))).cell? ⟨g0 + 1, 3, none⟩ = some (.int .u64 (dg D 3 : Nat)) := cellAt HD9.out 3 (by decide)
        have q4 : (w2.alloc (.cells #[.int .u64 (dg U 0 : Nat), .int .u64 (dg U 1 : Nat), .int .u64 (dg U 2 : Nat), .int .u64 (dg U 3 : Nat), .int .u64 (dg U 4 : Nat), .int .u64 (dg U 5 : Nat)] 156 (0, 0))).cell? ⟨g0 + 1, 4, none⟩ = some (.int .u64 (dg D 4 : Nat)) := cellAt HD9.out 4 (by decide)
        have q5 : (w2.alloc (.cells #[.int .u64 (dg U 0 : Nat), .int .u64 (dg U 1 : Nat), .int .u64 (dg U 2 : Nat), .int .u64 (dg U 3 : Nat), .int .u64 (dg U 4 : Nat), .int .u64 (dg U 5 : Nat)] 156 (0, 0))).cell? ⟨g0 + 1, 5, none⟩ = some (.int .u64 (dg D 5 : Nat)) := cellAt HD9.out 5 (by decide)
        go_wp2_with fail
        refine (Minus_calls U D HLE.out _).mono ?_
        rintro en w3 ⟨rfl, hb3⟩
        have HG3 := Aside0.mk ((hb3.block _ (blk_lt HG9.out)).trans HG9.out)
        have HB3 := Aside0.mk (HB9.out.trans (hb3.mono (Nat.le_trans HGZ.out (below_alloc (Below.refl _ _) _).size)))
        clear hb3 u0 u1 u2 u3 u4 u5 d0 d1 d2 d3 d4 d5 p0 p1 p2 p3 p4 p5 q0 q1 q2 q3 q4 q5
        rw [hg9] at HG3
        have HG92 := Aside0.mk (show g0 ≤ g9 by have := HGZ.out; omega)
        clear hg9
        have u0 : w3.cell? ⟨g9, 0, none⟩ = some (.int .u64 (dg U 0 : Nat)) := cellAt HG3.out 0 (by decide)
        have u1 : w3.cell? ⟨g9, 1, none⟩ = some (.int .u64 (dg U 1 : Nat)) := cellAt HG3.out 1 (by decide)
        have u2 : w3.cell? ⟨g9, 2, none⟩ = some (.int .u64 (dg U 2 : Nat)) := cellAt HG3.out 2 (by decide)
        have u3 : w3.cell? ⟨g9, 3, none⟩ = some (.int .u64 (dg U 3 : Nat)) := cellAt HG3.out 3 (by decide)
        have u4 : w3.cell? ⟨g9, 4, none⟩ = some (.int .u64 (dg U 4 : Nat)) := cellAt HG3.out 4 (by decide)
        have u5 : w3.cell? ⟨g9, 5, none⟩ = some (.int .u64 (dg U 5 : Nat)) := cellAt HG3.out 5 (by decide)
        have f0 : w3.frozen? ⟨g9, 0, none⟩ = false := blk_frozen HG3.out 0
        have f1 : w3.frozen? ⟨g9, 1, none⟩ = false := blk_frozen HG3.out 1
        have f2 : w3.frozen? ⟨g9, 2, none⟩ = false := blk_frozen HG3.out 2
        have f3 : w3.frozen? ⟨g9, 3, none⟩ = false := blk_frozen HG3.out 3
        have f4 : w3.frozen? ⟨g9, 4, none⟩ = false := blk_frozen HG3.out 4
        have f5 : w3.frozen? ⟨g9, 5, none⟩ = false := blk_frozen HG3.out 5
        have HZB := Aside0.mk (far6_below (v0 := .int .u64 (dg (U - D) 0 : Nat)) (v1 := .int .u64 (dg (U - D) 1 : Nat)) (v2 := .int .u64 (dg (U - D) 2 : Nat)) (v3 := .int .u64 (dg (U - D) 3 : Nat)) (v4 := .int .u64 (dg (U - D) 4 : Nat)) (v5 := .int .u64 (dg (U - D) 5 : Nat)) HB3.out HG92.out)
        rw [wV, wA]
        by_cases hfit : (U - D) < 9223372036854775808
        · go_wp2_with fail
          refine (amount_fit (U - D) hfit false _).mono ?_
          rintro en w5 ⟨rfl, hb5⟩
          have HB5 := Aside0.mk (HZB.out.trans (hb5.mono (Nat.le_trans (Nat.le_of_eq HG0.out.symm) HZB.out.size)))
          have HFT := Aside0.mk hfit
          clear hb5 hfit
          go_wp2_with fail
          go_ret2
          have hres := sumSpec_fit (s := ((U - D : Nat) : Int)) HN.out (by have := HUD.out; have := HLE.out; omega) (by have := HFT.out; have := HLE.out; omega) HS.out
          obtain ⟨rfl, rfl⟩ := hres
          exact ⟨rfl, by rw [HG0.out]; exact HB5.out⟩
        · go_wp2_with fail
          refine (amount_over (U - D) (Nat.not_lt.1 hfit) (by have := HLU.out; have := HLD.out; omega) false _).mono ?_
          rintro en w5 ⟨rfl, hb5⟩
          have HB5 := Aside0.mk (HZB.out.trans (hb5.mono (Nat.le_trans (Nat.le_of_eq HG0.out.symm) HZB.out.size)))
          have HFT := Aside0.mk hfit
          clear hb5 hfit
          go_wp2_with fail
          go_ret2
          have hres := sumSpec_over HN.out (by have := HUD.out; have := HFT.out; have := HLE.out; omega) HS.out
          obtain ⟨rfl, rfl⟩ := hres
          exact ⟨rfl, by rw [HG0.out]; exact HB5.out⟩
def L_RefSum.f (l0 : List Int) : Option (Int × Int) := if l0.length ≤ 1048576 ∧ (l0.all fun a => decide (-9223372036854775808 ≤ a ∧ a < 9223372036854775808)) = true then some (sumSpec l0) else none
theorem L_RefSum.calls (A0 : Option Addr) (c0 : Nat) (l0 : List Int) (r1 : Int) (r2 : Int) (w : World) (hr0 : Kd.C (Kd.int .i64) w A0 l0.length l0) (hc0 : l0.length ≤ c0) (h : L_RefSum.f l0 = some (r1, r2)) :
    Calls Tryz.prog 51 #[.slice A0 l0.length c0] w fun e w' => e = .returned (.tuple #[.int .i64 r1, .int .i64 r2]) ∧ Below w.heap.size w w' := by
  unfold L_RefSum.f at h
  split at h
  · rename_i hh
    obtain ⟨h1, h2⟩ := hh
    rw [List.all_eq_true] at h2
    have h2' : ∀ a ∈ l0, -9223372036854775808 ≤ a ∧ a < 9223372036854775808 := fun a ha => by simpa using h2 a ha
    obtain ⟨hc, hA⟩ := reads_ints hr0
    exact RefSum_walk A0 c0 l0 w hc hA h1 h2' r1 r2 (Option.some.inj h)
  · exact absurd h (by simp)
end Go.Proofs.YtmimninicegjcaaGreatDoor
