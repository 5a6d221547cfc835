/- The walk of sheet.Table. -/
import Derived.Deep.RegionLaw
import Derived.IntWalk
import Derived.Test.YtmimninicegjcaaGreatDoorTbMBaseBaseM
import Derived.Test.YtmimninicegjcaaGreatDoorTbTableB
namespace Go.Proofs.YtmimninicegjcaaGreatDoor
open Go.RowKit Go.Shelf Go.Lib Go.Proofs.YtmimninicegjcaaGreatDoorW.PrintWords Go.Proofs.YtmimninicegjcaaGreatDoorW.PrintLast Go.Proofs.YtmimninicegjcaaGreatDoorW.PrintMore
set_option linter.unusedVariables false
set_option linter.unusedSimpArgs false
theorem typeOk_take {types : List Int} {k : Nat} (h : (types.take k).all typeOk = true) (hk : k < types.length) (h1 : 1 ≤ types[k]) (h5 : types[k] ≤ 5) : (types.take (k + 1)).all typeOk = true := by
  rw [List.take_succ_eq_append_getElem hk, List.all_append, h]
  simp [typeOk, h1, h5]
theorem typeOk_bad {types : List Int} {k : Nat} (hk : k < types.length) (h : types[k] < 1 ∨ 5 < types[k]) : types.all typeOk = false := by
  rw [List.all_eq_false]
  exact ⟨types[k], List.getElem_mem hk, by simp [typeOk]; omega⟩
theorem longest_all {l : List (List ByteArray)} {n : Nat} (h : ∀ r ∈ l, r.length ≤ n) : longest l ≤ n := by
  unfold longest
  have : ∀ (m : List (List ByteArray)) (z : Nat), z ≤ n → (∀ r ∈ m, r.length ≤ n) → m.foldl (fun m r => max m r.length) z ≤ n := by
    intro m
    induction m with
    | nil => exact fun z hz _ => hz
    | cons x m ih => exact fun z hz hm => ih _ (by have := hm x (by simp); show max z x.length ≤ n; omega) (fun r hr => hm r (by simp [hr]))
  exact this l 0 (by omega) h
theorem lines_rows (d : Int) (types : List Int) : ∀ (rs : List (List Cel)), ∀ r ∈ (linesOut d types rs).1, r.length = types.length
  | [], r, h => by simp [linesOut] at h
  | x :: rs, r, h => by
    rw [linesOut] at h
    by_cases e : x.length = types.length
    · rw [if_pos e] at h
      by_cases z : (lineOut d x types).2 = 0
      · rw [if_pos z] at h
        rcases List.mem_cons.1 h with rfl | h
        · rw [lineOut_length d x types z]; omega
        · exact lines_rows d types rs r h
      · rw [if_neg z] at h; simp at h
    · rw [if_neg e] at h; simp at h
theorem lines_count (d : Int) (types : List Int) : ∀ (rs : List (List Cel)), (linesOut d types rs).1.length ≤ rs.length
  | [] => by simp [linesOut]
  | x :: rs => by
    rw [linesOut]
    have := lines_count d types rs
    by_cases e : x.length = types.length
    · rw [if_pos e]
      by_cases z : (lineOut d x types).2 = 0
      · rw [if_pos z]; simp only [List.length_cons]; omega
      · rw [if_neg z]; simp
    · rw [if_neg e]; simp
theorem info_str1 : (Tryz.prog.info? 9).map (fun i => (i.zero, i.size, i.bytes)) = some (some (.string ⟨#[]⟩), 1, 16) := by kernel_rfl
def CellsOk (l : List (List Cel)) (d : Int) : Prop := ∀ r ∈ l, ∀ c ∈ r, QS.sheet_cell.f (c.f2.size + 30000) c.f0 c.f1 c.f2 d = some (cellT c d)
set_option maxRecDepth 100000 in
set_option maxHeartbeats 8000000 in
theorem Table_walk (A1 : Option Addr) (c1 : Nat) (types : List Int) (A2 : Option Addr) (c2 : Nat) (l : List (List Cel)) (d : Int) (w : World) (hr1 : Kd.C (Kd.int .i64) w A1 types.length types) (hc1 : types.length ≤ c1)
    (hr2 : Kd.C (Kd.slice 43 QS.k43) w A2 l.length l) (hc2 : l.length ≤ c2) (hL : LaidM w) (hn1 : types.length ≤ 1048576) (hn2 : l.length ≤ 1048576) (hm : ∀ r ∈ l, r.length ≤ 1048576)
    (hcell : 0 ≤ d → d ≤ 6 → CellsOk l d) (hfit : 0 ≤ d → d ≤ 6 → types.all typeOk = true → (linesOut d types l).2 = 0 → GridFits (rightOf types) (linesOut d types l).1) :
    Calls Tryz.prog 16 #[.agg #[.slice A1 types.length c1, .slice A2 l.length c2], .int .i64 d] w fun e w' => e = .returned (.tuple #[.string (tableOut types l d).1, .int .i64 (tableOut types l d).2]) ∧ Below w.heap.size w w' := by
  have HR1 := Aside0.mk hr1
  have HR2 := Aside0.mk hr2
  have HRD1 := Aside0.mk (reads_ints hr1)
  have HRD2 := Aside0.mk (crows_at hr2)
  have HC1 := Aside0.mk hc1
  have HC2 := Aside0.mk hc2
  have HL := Aside0.mk hL
  have HN1 := Aside0.mk hn1
  have HN2 := Aside0.mk hn2
  have HM := Aside0.mk hm
  have HCELL := Aside0.mk hcell
  have HFIT := Aside0.mk hfit
  have i1 : (types.length : Int) ≤ 1048576 := by omega
  have i2 : (l.length : Int) ≤ 1048576 := by omega
  clear hr1 hr2 hc1 hc2 hL hn1 hn2 hm hcell hfit
  have HB0 := Aside0.mk (below_alloc (Below.refl w.heap.size w) (.cells #[.slice A1 types.length c1, .slice A2 l.length c2] 36 (0, 0)))
  have HQ0 := Aside0.mk (heap_alloc_new w (.cells #[.slice A1 types.length c1, .slice A2 l.length c2] 36 (0, 0)))
  by_cases h0 : d < 0
  · have HO : Aside0 (tableOut types l d = (⟨#[]⟩, 1)) := ⟨by unfold tableOut; rw [if_neg (by omega)]⟩
    have h0' : decide (d < 0) = true := decide_eq_true h0
    clear h0
    go_enter Tryz.func16, Tryz.ntmps16
    go_wp2_with fail
    go_ret2
    exact ⟨by rw [HO.out]; rfl, HB0.out⟩
  · by_cases h6 : 6 < d
    · have HO : Aside0 (tableOut types l d = (⟨#[]⟩, 1)) := ⟨by unfold tableOut; rw [if_neg (by omega)]⟩
      have h0' : decide (d < 0) = false := decide_eq_false h0
      have h6' : decide (6 < d) = true := decide_eq_true h6
      clear h0 h6
      go_enter Tryz.func16, Tryz.ntmps16
      go_wp2_with fail
      go_ret2
      exact ⟨by rw [HO.out]; rfl, HB0.out⟩
    · have hd0 : 0 ≤ d := by omega
      have hd6 : d ≤ 6 := by omega
      have HD := Aside0.mk (And.intro hd0 hd6)
      have HO : Aside0 (tableOut types l d = if types.all typeOk = true then (if (linesOut d types l).2 = 0 then (⟨(gridText (rightOf types) (linesOut d types l).1).toArray⟩, 0) else (⟨#[]⟩, (linesOut d types l).2)) else (⟨#[]⟩, 140)) :=
        ⟨by unfold tableOut; rw [if_pos ⟨hd0, hd6⟩]⟩
      have h0' : decide (d < 0) = false := decide_eq_false h0
      have h6' : decide (6 < d) = false := decide_eq_false h6
      have HCK := Aside0.mk (HCELL.out hd0 hd6)
      have HFT := Aside0.mk (HFIT.out hd0 hd6)
      clear h0 h6 hd0 hd6 HCELL HFIT
      go_enter Tryz.func16, Tryz.ntmps16
      go_wp2_with fail
      go_loop [25] (fun v => ∃ k : Nat, v = .int .i64 k ∧ k ≤ types.length ∧ Aside0 ((types.take k).all typeOk = true)) (fun v => types.length - (RowKit.intOf v).toNat)
      case atStart => exact ⟨0, rfl, Nat.zero_le _, ⟨by simp⟩⟩
      case round =>
        obtain ⟨k, rfl, hk, HT⟩ := hrel
        by_cases hlt : k < types.length
        · have iK : (k : Int) < (types.length : Int) := by omega
          obtain ⟨ad, rfl⟩ : ∃ ad, A1 = some ad := by
            rcases HRD1.out.2 with h | h
            · rw [h] at hlt; exact absurd hlt (by simp)
            · exact h
          have hcl := HRD1.out.1 ad rfl k hlt
          have HTK := Aside0.mk (fun h1 h5 => typeOk_take HT.out hlt h1 h5)
          have HTB := Aside0.mk (fun h => typeOk_bad hlt h)
          replace hcl := (HB0.out.cell (World.block_lt_of_cell? w _ hcl)).trans hcl
          generalize types[k] = t at *
          by_cases t1 : t < 1
          · have t1' : decide (t < 1) = true := decide_eq_true t1
            have HBAD := Aside0.mk (HTB.out (.inl t1))
            clear t1
            go_wp2_with fail
            go_ret2
            exact ⟨by rw [HO.out, if_neg (by rw [HBAD.out]; decide)]; rfl, HB0.out⟩
          · have t1' : decide (t < 1) = false := decide_eq_false t1
            by_cases t5 : 5 < t
            · have t5' : decide (5 < t) = true := decide_eq_true t5
              have HBAD := Aside0.mk (HTB.out (.inr t5))
              clear t1 t5
              go_wp2_with fail
              go_ret2
              exact ⟨by rw [HO.out, if_neg (by rw [HBAD.out]; decide)]; rfl, HB0.out⟩
            · have t5' : decide (5 < t) = false := decide_eq_false t5
              have HGD := Aside0.mk (HTK.out (by omega) (by omega))
              clear t1 t5
              go_wp2_with fail
              go_round
              case rel => exact ⟨k + 1, by go_num, hlt, HGD⟩
              case measure => simp [RowKit.intOf]; omega
        · have hke : k = types.length := by omega
          subst hke
          have HALL : Aside0 (types.all typeOk = true) := ⟨by have := HT.out; rwa [List.take_length] at this⟩
          have HO2 : Aside0 (tableOut types l d = if (linesOut d types l).2 = 0 then (⟨(gridText (rightOf types) (linesOut d types l).1).toArray⟩, 0) else (⟨#[]⟩, (linesOut d types l).2)) := ⟨by rw [HO.out, if_pos HALL.out]⟩
          clear HO HT hk
          have iK : ¬ ((types.length : Int) < (types.length : Int)) := by omega
          go_wp2_with fail
          refine (begin_calls d _).mono ?_
          rintro en w2 ⟨rfl, hs, hb⟩
          have hw0 : why0 d = 0 := by unfold why0; rw [if_pos HD.out]
          rw [hw0] at hs
          clear hw0
          obtain ⟨B, hBB⟩ : ∃ B, (w.alloc (.cells #[.slice A1 types.length c1, .slice A2 l.length c2] 36 (0, 0))).heap.size = B := ⟨_, rfl⟩
          rw [hBB] at hs hb ⊢
          have hBw : B = w.heap.size + 1 := by rw [← hBB]; exact Array.size_push ..
          have H16 : Aside0 (7 ≤ B) := ⟨by have := HL.out.base.low; omega⟩
          have HBW := Aside0.mk hBw
          have HB2 := Aside0.mk (HB0.out.trans (hb.mono (by omega)))
          have HQ2 := Aside0.mk ((hb.block w.heap.size (by omega)).trans HQ0.out)
          have HS2 := Aside0.mk (St.mk (hs.below (below_alloc (Below.refl _ _) (.cells #[.pointer (some ⟨B, 0, none⟩)] 74 (0, 0)))) (heap_alloc_new _ _) ((HL.out.base.below HB2.out).alloc _))
          have HB3 := Aside0.mk (below_step HB2.out (below_alloc (Below.refl _ _) (.cells #[.pointer (some ⟨B, 0, none⟩)] 74 (0, 0))))
          have HQ3 := Aside0.mk (blk_alloc HQ2.out (.cells #[.pointer (some ⟨B, 0, none⟩)] 74 (0, 0)))
          have HBS := Aside0.mk hb.size
          have HBX := Aside0.mk hBB
          clear hs hb hBB hBw
          have hq21 : w2.cell? ⟨w.heap.size, 1, none⟩ = some (.slice A2 l.length c2) := blk_cell HQ2.out 1
          have hq31 := blk_cell HQ3.out 1
          have hlt2 : w.heap.size < w2.heap.size := by have := HBS.out; have := HBX.out; have := HBW.out; omega
          have hneq : w.heap.size ≠ w2.heap.size := by omega
          go_wp2_with fail
          clear hq21 hq31 hneq
          generalize hW3 : w2.alloc (.cells #[.pointer (some ⟨B, 0, none⟩)] 74 (0, 0)) = w3 at HS2 HB3 HQ3 ⊢
          clear hW3
          generalize w2.heap.size = hh at *
          go_loopw [41] (fun v wr => ∃ k : Nat, v = .int .i64 k ∧ k ≤ l.length ∧ Aside0 ((linesOut d types (l.take k)).2 = 0) ∧ Aside0 (St wr B B hh d 0 (linesOut d types (l.take k)).1) ∧ Aside0 (Below w.heap.size w wr) ∧
            Aside0 (wr.heap[w.heap.size]? = some (.cells #[.slice A1 types.length c1, .slice A2 l.length c2] 36 (0, 0)))) (fun v _ => l.length - (RowKit.intOf v).toNat)
          case atStart => exact ⟨0, rfl, Nat.zero_le _, ⟨rfl⟩, ⟨by simpa [linesOut] using HS2.out⟩, HB3, HQ3⟩
          case round =>
            obtain ⟨k, rfl, hk, HZ, HS, HB, HQ⟩ := hrel
            clear HS2 HB2 HQ2 HB3 HQ3
            by_cases hlt : k < l.length
            · have iK : (k : Int) < (l.length : Int) := by omega
              obtain ⟨ad2, rfl⟩ : ∃ ad, A2 = some ad := by
                rcases HRD2.out.1 with h | h
                · rw [h] at hlt; exact absurd hlt (by simp)
                · exact h
              obtain ⟨A', c', hcr, hle, hC'⟩ := HRD2.out.2 ad2 rfl k hlt
              replace hcr := (HB.out.cell (World.block_lt_of_cell? w _ hcr)).trans hcr
              have HMR := Aside0.mk (HM.out _ (List.getElem_mem hlt))
              have HCR := Aside0.mk (HCK.out _ (List.getElem_mem hlt))
              have HST := Aside0.mk (fun x h1 h2 => lines_step d types l k _ x (Prod.ext rfl HZ.out) hlt h1 h2)
              have HBD := Aside0.mk (fun e he h => lines_bad d types e he l k _ (Prod.ext rfl HZ.out) hlt h)
              have HCX := Aside0.mk hC'
              have hq0 : wr.cell? ⟨w.heap.size, 0, none⟩ = some (.slice A1 types.length c1) := blk_cell HQ.out 0
              clear hC'
              generalize l[k] = r at *
              have iR : (r.length : Int) ≤ 1048576 := by have := HMR.out; omega
              by_cases hlen : r.length = types.length
              · have hl1 : (r.length != types.length) = false := by rw [hlen]; simp
                have hl2 : ((r.length : Int) != (types.length : Int)) = false := by rw [hlen]; simp
                have hl3 : (r.length == types.length) = true := by rw [hlen]; simp
                have HLEN := Aside0.mk hlen
                clear hlen
                go_wp2_with fail
                have HRC := Aside0.mk (cels_at HCX.out)
                obtain ⟨wo, rfl⟩ : ∃ wo : World, wo = wr := ⟨_, rfl⟩
                clear hcr hq0
                go_loopw [11, 53] (fun v11 v53 W => ∃ i : Nat, v53 = .int .i64 i ∧ i ≤ r.length ∧ Aside0 ((lineOut d (r.take i) (types.take i)).2 = 0) ∧ Aside0 (Kd.R Kd.string 9 W wo.heap.size (fun _ => True) v11 (lineOut d (r.take i) (types.take i)).1) ∧
                  Aside0 (Below wo.heap.size wo W)) (fun _ v _ => r.length - (RowKit.intOf v).toNat)
                case atStart => exact ⟨0, rfl, Nat.zero_le _, ⟨by simp [lineOut]⟩, ⟨by simpa [lineOut] using Kd.R_nil _ _ _ _ _⟩, ⟨Below.refl _ _⟩⟩
                case round =>
                  obtain ⟨i, rfl, hi, HLZ, HLR, HBI⟩ := hrel
                  have HWI := Aside0.mk (below_step HB.out HBI.out)
                  by_cases hil : i < r.length
                  · have iI : (i : Int) < (r.length : Int) := by omega
                    have hit : i < types.length := by have := HLEN.out; omega
                    have iT : (i : Int) < (types.length : Int) := by omega
                    obtain ⟨ad, eA'⟩ : ∃ ad, A' = some ad := by
                      rcases HRC.out.1 with h | h
                      · rw [h] at hil; exact absurd hil (by simp)
                      · exact h
                    obtain ⟨ad1, eA1⟩ : ∃ ad, A1 = some ad := by
                      rcases HRD1.out.2 with h | h
                      · rw [h] at hit; exact absurd hit (by simp)
                      · exact h
                    obtain ⟨x0, x1, x2⟩ := HRC.out.2 ad eA' i hil
                    have y0 := HRD1.out.1 ad1 eA1 i hit
                    subst eA' eA1
                    replace x0 := (HWI.out.cell (World.block_lt_of_cell? w _ x0)).trans x0
                    replace x1 := (HWI.out.cell (World.block_lt_of_cell? w _ x1)).trans x1
                    replace x2 := (HWI.out.cell (World.block_lt_of_cell? w _ x2)).trans x2
                    replace y0 := (HWI.out.cell (World.block_lt_of_cell? w _ y0)).trans y0
                    have HSTL := Aside0.mk (fun h1 h2 => line_step d r types i _ (Prod.ext rfl HLZ.out) hil hit h1 h2)
                    have HBDL := Aside0.mk (fun e he h => line_bad d e he r types i _ (Prod.ext rfl HLZ.out) hil hit h)
                    have HCC := Aside0.mk (HCR.out _ (List.getElem_mem hil))
                    generalize r[i] = c at *
                    generalize types[i] = t at *
                    obtain ⟨s, hs1⟩ : ∃ s, (cellT c d).1 = s := ⟨_, rfl⟩
                    obtain ⟨e, he1⟩ : ∃ e, (cellT c d).2 = e := ⟨_, rfl⟩
                    have hce : cellT c d = (s, e) := Prod.ext hs1 he1
                    have HCE := Aside0.mk hce
                    have HCF := Aside0.mk (HCC.out.trans (congrArg some hce))
                    have HB4 := Aside0.mk (below_alloc (Below.refl wr.heap.size wr) (.cells #[.int .i64 c.f0, .int .i64 c.f1, .string c.f2] 43 (0, 0)))
                    have hqW := (HBI.out.block _ (blk_lt HQ.out)).trans HQ.out
                    have hq4 : (wr.alloc (.cells #[.int .i64 c.f0, .int .i64 c.f1, .string c.f2] 43 (0, 0))).cell? ⟨w.heap.size, 0, none⟩ = some (.slice (some ad1) types.length c1) := blk_cell (blk_alloc hqW _) 0
                    have y4 := pw_cell_below HB4.out y0
                    clear hs1 he1 hce hqW
                    have hltW : w.heap.size < wr.heap.size := by have := HB.out.size; have := HBI.out.size; have := blk_lt HQ.out; omega
                    by_cases hct : c.f0 = t
                    · have hb1 : (c.f0 != t) = false := by simp [hct]
                      have hb2 : (c.f0 == t) = true := by simp [hct]
                      have HCT := Aside0.mk hct
                      clear hct
                      go_wp2_with fail
                      go_quiet (fail)
                      go_wp2_with fail
                      refine (QS.sheet_cell.calls (c.f2.size + 30000) c.f0 c.f1 c.f2 d s e _ (HL.out.below (pw_below_drewN (below_step HWI.out HB4.out) _)) HCF.out).mono ?_
                      rintro en w5 ⟨rfl, hb5⟩
                      have HB5 := Aside0.mk (below_step (pw_below_drewN (below_step HWI.out HB4.out) _) hb5)
                      have HB6 := Aside0.mk (below_step (pw_below_drewN (below_step HBI.out HB4.out) _) hb5)
                      have HLR5 := Aside0.mk (Kd.R_below HLR.out (below_step (pw_below_drewN HB4.out _) hb5))
                      clear hb5
                      by_cases hez : e = 0
                      · have hz1 : (e != 0) = false := by simp [hez]
                        have hz2 : (e == 0) = true := by simp [hez]
                        subst hez
                        have HSN : Aside0 (lineOut d (r.take (i + 1)) (types.take (i + 1)) = ((lineOut d (r.take i) (types.take i)).1 ++ [s], 0)) := ⟨by have h9 := HSTL.out HCT.out (by rw [HCE.out]); rw [HCE.out] at h9; exact h9⟩
                        have hll := lineOut_length d (r.take i) (types.take i) HLZ.out
                        have hlb : ((lineOut d (r.take i) (types.take i)).1.length + 1) * 16 ≤ 140737488355328 := by have := List.length_take_le i r; have := HMR.out; omega
                        have HLB := Aside0.mk hlb
                        clear hll hlb HBDL HBD HST
                        generalize (lineOut d (r.take i) (types.take i)).1 = X at *
                        go_wp2_with (at_builtin; refine Kd.R_append Kd.string (w0 := wo) wo.heap.size rfl (.tmp 75) (.tmp 77) 90 9 (.string ⟨#[]⟩) 16 rfl Tryz.underlying90 info_str1 rfl (by decide) (by decide) u11 X s [.string s] (fun _ => True) (fun _ => False) rfl rfl ?aP (fun _ hk => hk.elim) (fun _ _ => trivial) ?aO ?aB ?aS ?aL ?_; (case aP => exact rfl); (case aO => exact HLR5.out); (case aB => exact HB6.out); (case aS => exact HB6.out.size); (case aL => exact HLB.out); intro v1 w7 HR7 hb7 _ _; replace HR7 := Aside0.mk HR7; replace hb7 := Aside0.mk hb7)
                        go_roundw
                        case rel => exact ⟨i + 1, by go_num, by omega, ⟨by rw [HSN.out]⟩, ⟨by rw [HSN.out]; exact HR7.out⟩, hb7⟩
                        case measure => simp [RowKit.intOf]; omega
                      · have hz1 : (e != 0) = true := by simpa using hez
                        have hz2 : (e == 0) = false := by simpa using hez
                        have HBB := Aside0.mk (HBD.out e hez (.inr ⟨HLEN.out, HBDL.out e hez (.inr ⟨HCT.out, by rw [HCE.out]⟩)⟩))
                        clear hez
                        go_wp2_with fail
                        go_ret2
                        exact ⟨by rw [HO2.out, if_neg (by rw [HBB.out]; exact fun h => by simp [h] at hz2), HBB.out]; rfl, HB5.out⟩
                    · have hb1 : (c.f0 != t) = true := by simpa using hct
                      have hb2 : (c.f0 == t) = false := by simpa using hct
                      have HBB := Aside0.mk (HBD.out 140 (by decide) (.inr ⟨HLEN.out, HBDL.out 140 (by decide) (.inl ⟨hct, rfl⟩)⟩))
                      clear hct
                      go_wp2_with fail
                      go_quiet (fail)
                      go_wp2_with fail
                      go_ret2
                      exact ⟨by rw [HO2.out, if_neg (by rw [HBB.out]; decide), HBB.out]; rfl, pw_below_drewN (below_step HWI.out HB4.out) _⟩
                  · have hke : i = r.length := by omega
                    subst hke
                    have iI : ¬ ((r.length : Int) < (r.length : Int)) := by omega
                    rw [List.take_length, show types.take r.length = types from List.take_of_length_le (Nat.le_of_eq HLEN.out.symm)] at HLZ HLR
                    obtain ⟨A7, c7, rfl⟩ := Kd.R_slice HLR.out
                    have HSW := Aside0.mk (HS.out.below HBI.out)
                    have HNL : Aside0 (linesOut d types (l.take (k + 1)) = ((linesOut d types (l.take k)).1 ++ [(lineOut d r types).1], 0)) := ⟨HST.out _ HLEN.out (Prod.ext rfl HLZ.out)⟩
                    have hcnt : (linesOut d types (l.take k)).1.length < 5864062014805 := by have := lines_count d types (l.take k); have := List.length_take_le k l; have := HN2.out; omega
                    have HCNT := Aside0.mk hcnt
                    have HRR := Aside0.mk (Kd.R_lower HLR.out HS.out.sh.base_le)
                    have hbx : wr.cell? ⟨hh, 0, none⟩ = some (.pointer (some ⟨B, 0, none⟩)) := blk_cell HSW.out.box 0
                    obtain ⟨vr, g1, g2⟩ := HSW.out.sh.ex
                    have hvr : wr.cell? ⟨B, 2, none⟩ = some vr := blk_cell g1 2
                    have HVR := Aside0.mk hvr
                    have hvr2 : (wr.alloc (.cells #[.slice A7 (lineOut d r types).1.length c7] 90 (0, 0))).cell? ⟨B, 2, none⟩ = some vr := blk_cell (blk_alloc g1 _) 2
                    have hbx2 : (wr.alloc (.cells #[.slice A7 (lineOut d r types).1.length c7] 90 (0, 0))).cell? ⟨hh, 0, none⟩ = some (.pointer (some ⟨B, 0, none⟩)) := blk_cell (blk_alloc HSW.out.box _) 0
                    clear hcnt g1 g2 hlt2
                    generalize (linesOut d types (l.take k)).1 = R at *
                    generalize (lineOut d r types).1 = x at *
                    go_wp2_with fail
                    go_region_law (refine St.appStep HSW.out.drew H16.out HRR.out HCNT.out HVR.out (.tmp 84) (.tmp 86) rfl rfl rfl rfl ?_; intro A9 n9 c9 w8 f1 f2 f3 HA)
                    all_goals go_wp2_with fail
                    all_goals go_roundw
                    all_goals first
                      | (simp [RowKit.intOf]; omega)
                      | exact ⟨k + 1, by go_num, by omega, ⟨by rw [HNL.out]⟩, ⟨by rw [HNL.out]; exact HA.out.1⟩, ⟨(below_drew HWI.out).trans (HA.out.2.2.mono (show w.heap.size ≤ B by have := HBW.out; omega))⟩, ⟨HA.out.2.1.keep _ _ _ ((HBI.out.block _ (blk_lt HQ.out)).trans HQ.out) (by decide) (by decide)⟩⟩
              · have hl1 : (r.length != types.length) = true := by simpa using hlen
                have hl2 : ((r.length : Int) != (types.length : Int)) = true := by simp; omega
                have hl3 : (r.length == types.length) = false := by simpa using hlen
                have HBB := Aside0.mk (HBD.out 140 (by decide) (.inl ⟨hlen, rfl⟩))
                clear hlen
                go_wp2_with fail
                go_ret2
                exact ⟨by rw [HO2.out, if_neg (by rw [HBB.out]; decide), HBB.out]; rfl, HB.out⟩
            · have hke : k = l.length := by omega
              subst hke
              rw [List.take_length] at HZ HS
              have iK : ¬ ((l.length : Int) < (l.length : Int)) := by omega
              have HT2 := Aside0.mk (HO2.out.trans (if_pos HZ.out))
              have HF2 := Aside0.mk (HFT.out HALL.out HZ.out)
              have hbx : wr.cell? ⟨hh, 0, none⟩ = some (.pointer (some ⟨B, 0, none⟩)) := blk_cell HS.out.box 0
              have hlg : longest (linesOut d types l).1 ≤ types.length := longest_all (fun r hr => Nat.le_of_eq (lines_rows d types l r hr))
              have HLG := Aside0.mk hlg
              clear hlg
              go_wp2_with fail
              refine (tend_calls HS.out HQ.out (Kd.C_below HR1.out HB.out) HN1.out HF2.out HLG.out).mono ?_
              rintro en w9 ⟨rfl, hb9⟩
              have HB9 := Aside0.mk (below_step HB.out hb9)
              clear hb9
              go_wp2_with fail
              go_ret2
              exact ⟨by rw [HT2.out]; rfl, HB9.out⟩
end Go.Proofs.YtmimninicegjcaaGreatDoor

