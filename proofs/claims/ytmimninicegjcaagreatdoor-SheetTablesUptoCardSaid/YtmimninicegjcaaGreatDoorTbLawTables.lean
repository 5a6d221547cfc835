/- The walk of SheetTables, over what its callees compute. -/
import Derived.Test.YtmimninicegjcaaGreatDoorTbMLooseCKeptWLooseDPureR
namespace Go.Proofs.YtmimninicegjcaaGreatDoor
open Go.RowKit Go.Shelf Go.Lib Go.Proofs.YtmimninicegjcaaGreatDoorW.PrintWords Go.Proofs.YtmimninicegjcaaGreatDoorW.PrintLast Go.Proofs.YtmimninicegjcaaGreatDoorW.PrintMore
set_option linter.unusedVariables false
set_option linter.unusedSimpArgs false
theorem Loosed.ints {base : Nat} {W : World} {ts types : List Int} {l : List (List Cel)} {gT cT : Nat} {A7 : Option Addr} {c7 gO cO : Nat} {cm : List Cel} {qs ms : List Pc} (h : Loosed base W ts l gT cT A7 c7 gO cO cm qs ms) (hts : ts = types ++ marksInts 64) :
    Kd.C (Kd.int .i64) W (some ⟨gT, 0, none⟩) types.length types ∧ types.length ≤ cT ∧ Kd.C (Kd.int .i64) W (some ⟨gT, 0, none⟩) ts.length ts ∧ ts.length ≤ cT := by
  obtain ⟨_, h2, h3⟩ := Kd.R_reads' h.tys
  have hl : types.length ≤ ts.length := by rw [hts, List.length_append]; omega
  have h4 := Kd.C_take h3 hl
  rw [show ts.take types.length = types by rw [hts]; exact List.take_left' rfl] at h4
  exact ⟨h4, Nat.le_trans hl h2, h3, h2⟩
theorem Loosed.rowsIn {base : Nat} {W : World} {ts : List Int} {l : List (List Cel)} {gT cT : Nat} {A7 : Option Addr} {c7 gO cO : Nat} {cm : List Cel} {qs ms : List Pc} (h : Loosed base W ts l gT cT A7 c7 gO cO cm qs ms) (hcm : cm.length = 64) :
    Kd.C (Kd.slice 43 QS.k43) W (some ⟨gO, 0, none⟩) l.length l ∧ l.length ≤ cO ∧ l.length + 64 ≤ cO := by
  obtain ⟨_, h2, _⟩ := Kd.R_reads' h.outer
  have h3 := h.readsOuter hcm _ rfl
  have h4 := Kd.C_take h3 (m := l.length) (by rw [List.length_append]; omega)
  rw [show (l ++ (List.range 64).map markRow).take l.length = l from List.take_left' rfl] at h4
  exact ⟨h4, by omega, by omega⟩
theorem cellsMark_length : (marksCells 64).length = 64 := marksCells_length 64
/-- kept, of what loosened left. -/
theorem Loosed.kept {base : Nat} {W : World} {ts types : List Int} {l : List (List Cel)} {gT cT : Nat} {A7 : Option Addr} {c7 gO cO : Nat} {qs ms : List Pc} (h : Loosed base W ts l gT cT A7 c7 gO cO (marksCells 64) qs ms) (hts : ts = types ++ marksInts 64)
    (hn1 : types.length ≤ 1048576) (hn2 : l.length ≤ 1048576) (hm : ∀ r ∈ l, r.length ≤ 1048576) (A1 : Option Addr) (c1 : Nat) (A2 : Option Addr) (c2 : Nat)
    (hr1 : Kd.C (Kd.int .i64) W A1 types.length types) (hc1 : types.length ≤ c1) (hr2 : Kd.C (Kd.slice 43 QS.k43) W A2 l.length l) (hc2 : l.length ≤ c2) :
    Calls Tryz.prog 18 #[.agg #[.slice A1 types.length c1, .slice A2 l.length c2], .slice (some ⟨gT, 0, none⟩) ts.length cT, .slice A7 l.length c7, .slice (some ⟨gO, 0, none⟩) (l.length + 64) cO] W fun e w' => e = .returned (.bool true) ∧ Below W.heap.size W w' := by
  have hi := h.ints hts
  have hr := h.rowsIn cellsMark_length
  have ho := h.readsOuter cellsMark_length (l ++ marksRows 64) rfl
  have hol : (l ++ marksRows 64).length = l.length + 64 := by rw [List.length_append, marksRows_length]
  have := kept_walk A1 c1 types A2 c2 l (some ⟨gT, 0, none⟩) cT A7 c7 (some ⟨gO, 0, none⟩) cO W hr1 hc1 hr2 hc2 ts hts (l.map (· ++ marksCells 64)) rfl (l ++ marksRows 64) rfl hi.2.2.1 hi.2.2.2 (h.readsCells _ rfl) ho (by rw [hol]; exact hr.2.2) hn1 hn2 hm
  rwa [hol] at this
/-- The row number j's header, and its block. -/
theorem Loosed.header {base : Nat} {W : World} {ts : List Int} {l : List (List Cel)} {gT cT : Nat} {A7 : Option Addr} {c7 gO cO : Nat} {cm : List Cel} {qs ms : List Pc} (h : Loosed base W ts l gT cT A7 c7 gO cO cm qs ms) (hcm : cm.length = 64) {j : Nat} (hj : j < l.length) :
    ∃ g cap, qs[j]? = some ⟨g, cap, l[j] ++ cm⟩ ∧ base ≤ g ∧ (∃ cur, W.heap[g]? = some (.cells cur 43 (0, 0))) ∧ W.cell? ⟨gO, j, none⟩ = some (.slice (some ⟨g, 0, none⟩) l[j].length cap) ∧ (∃ cur, W.heap[gO]? = some (.cells cur 41 (0, 0))) ∧ l[j].length ≤ cap ∧ (l[j] ++ cm).length ≤ cap := by
  obtain ⟨hl, hm⟩ := h.len
  have hjq : j < qs.length := by omega
  have e := h.at (List.getElem?_eq_getElem hjq) (List.getElem?_eq_getElem hj)
  have hok := h.pcs.ok qs[j] (List.mem_append_left _ (List.getElem_mem hjq))
  obtain ⟨_, _, hC⟩ := Kd.R_reads' h.outer
  have hlen : (qs.map Pc.half ++ ms.map Pc.full).length = l.length + 64 := (Kd.R_reads' h.outer).1.symm
  obtain ⟨ad, e1, hc⟩ := hC.2.2 (by omega)
  obtain rfl := Option.some.inj e1
  have hpj : (qs.map Pc.half ++ ms.map Pc.full)[j]? = some qs[j].half := by
    rw [List.getElem?_append_left (by rw [List.length_map]; exact hjq), List.getElem?_map, List.getElem?_eq_getElem hjq]
    rfl
  obtain ⟨c, hcl, hk, hcell⟩ := hc j _ hpj
  obtain rfl : c = [encH qs[j].half] := hk
  have h1 := hcell 0 _ rfl
  rw [mkL, show j * kH.sz + 0 = j from by show j * 1 + 0 = j; omega] at h1
  have hlj : qs[j].row.length - 64 = l[j].length := by rw [e, List.length_append, hcm]; omega
  refine ⟨qs[j].g, qs[j].cap, ?_, hok.ge, hok.ty, ?_, ?_, ?_, ?_⟩
  · rw [List.getElem?_eq_getElem hjq, ← e]
  · rw [h1]
    show some (Value.slice (some ⟨qs[j].g, 0, none⟩) (qs[j].row.length - 64) qs[j].cap) = _
    rw [hlj]
  · obtain ⟨g, cap, he, _, _, cur, hcur⟩ := Kd.R_form h.outer (by rw [hlen]; omega)
    injection he with he
    injection he with he
    injection he with he
    exact ⟨cur, he ▸ hcur⟩
  · have := hok.cap
    rw [e, List.length_append] at this
    omega
  · have := hok.cap
    rwa [e] at this
/-- What stands between the calls. -/
structure Tst (w : World) (A1 : Option Addr) (c1 : Nat) (types : List Int) (A2 : Option Addr) (c2 : Nat) (base g5 : Nat) (ts : List Int) (l : List (List Cel)) (gT cT : Nat) (A7 : Option Addr) (c7 gO cO : Nat) (cm : List Cel) (qs ms : List Pc) (W : World) : Prop where
  bel : Below w.heap.size w W
  box : W.heap[w.heap.size]? = some (.cells #[.slice A1 types.length c1, .slice A2 l.length c2] 36 (0, 0))
  inn : W.heap[g5]? = some (.cells #[.slice (some ⟨gT, 0, none⟩) types.length cT, .slice (some ⟨gO, 0, none⟩) l.length cO] 36 (0, 0))
  lo : Loosed base W ts l gT cT A7 c7 gO cO cm qs ms
theorem Tst.below {w : World} {A1 : Option Addr} {c1 : Nat} {types : List Int} {A2 : Option Addr} {c2 : Nat} {base g5 : Nat} {ts : List Int} {l : List (List Cel)} {gT cT : Nat} {A7 : Option Addr} {c7 gO cO : Nat} {cm : List Cel} {qs ms : List Pc} {W W1 : World}
    (h : Tst w A1 c1 types A2 c2 base g5 ts l gT cT A7 c7 gO cO cm qs ms W) (hb : Below W.heap.size W W1) : Tst w A1 c1 types A2 c2 base g5 ts l gT cT A7 c7 gO cO cm qs ms W1 :=
  ⟨below_step h.bel hb, (hb.block _ (blk_lt h.box)).trans h.box, (hb.block _ (blk_lt h.inn)).trans h.inn, h.lo.below hb⟩
set_option maxRecDepth 100000 in
set_option maxHeartbeats 8000000 in
theorem tables_walk (A1 : Option Addr) (c1 : Nat) (types : List Int) (A2 : Option Addr) (c2 : Nat) (l : List (List Cel)) (d : Int) (w : World) (hr1 : Kd.C (Kd.int .i64) w A1 types.length types) (hc1 : types.length ≤ c1)
    (hr2 : Kd.C (Kd.slice 43 QS.k43) w A2 l.length l) (hc2 : l.length ≤ c2) (hL : LaidM w) (hf : TableFits types l) :
    Calls Tryz.prog 4 #[.agg #[.slice A1 types.length c1, .slice A2 l.length c2], .int .i64 d] w fun e w' => e = .returned (.bool true) ∧ Below w.heap.size w w' := by
  have HR1 := Aside0.mk hr1
  have HR2 := Aside0.mk hr2
  have HC1 := Aside0.mk hc1
  have HC2 := Aside0.mk hc2
  have HL := Aside0.mk hL
  have HF := Aside0.mk hf
  have HM : Aside0 (∀ r ∈ l, r.length ≤ 1048576) := ⟨fun r hr => by have := hf.row r hr; omega⟩
  obtain ⟨ts, hts⟩ : ∃ ts, ts = types ++ marksInts 64 := ⟨_, rfl⟩
  obtain ⟨cm, hcm⟩ : ∃ cm, cm = marksCells 64 := ⟨_, rfl⟩
  obtain ⟨s1, hs1⟩ : ∃ s1, (tableOut types l d).1 = s1 := ⟨_, rfl⟩
  obtain ⟨e1, he1⟩ : ∃ e1, (tableOut types l d).2 = e1 := ⟨_, rfl⟩
  have HTO : Aside0 (tableOut types l d = (s1, e1)) := ⟨Prod.ext hs1 he1⟩
  have HTS := Aside0.mk hts
  have HCM := Aside0.mk hcm
  have HCML : Aside0 (cm.length = 64) := ⟨by rw [hcm, marksCells_length]⟩
  obtain ⟨K1, hK1⟩ := table_ref hf d
  have HK1 := Aside0.mk (hK1 K1 (Nat.le_refl _))
  have HLO : Aside0 (∀ W, Below w.heap.size w W → Calls Tryz.prog 15 #[.agg #[.slice A1 types.length c1, .slice A2 l.length c2]] W fun e w' => ∃ (gT cT : Nat) (A7 : Option Addr) (c7 gO cO : Nat) (qs ms : List Pc),
      e = .returned (.tuple #[.agg #[.slice (some ⟨gT, 0, none⟩) types.length cT, .slice (some ⟨gO, 0, none⟩) l.length cO], .slice (some ⟨gT, 0, none⟩) ts.length cT, .slice A7 l.length c7, .slice (some ⟨gO, 0, none⟩) (l.length + 64) cO]) ∧
      Loosed W.heap.size w' ts l gT cT A7 c7 gO cO cm qs ms ∧ Below W.heap.size W w') := ⟨fun W hb =>
    loosened_walk 65 A1 c1 types A2 c2 l W (Kd.C_below hr1 hb) hc1 (Kd.C_below hr2 hb) hc2 hf.nrows HM.out ts (by rw [hts]; exact roomInts_some types hf.cols 65 (Nat.le_refl _)) (by rw [hts, List.length_append, marksInts_length]; omega)
      cm HCML.out (fun r hr => by rw [hcm]; exact roomCells_some r (HM.out r hr) 65 (Nat.le_refl _))⟩
  have HB0 := Aside0.mk (below_alloc (Below.refl w.heap.size w) (.cells #[.slice A1 types.length c1, .slice A2 l.length c2] 36 (0, 0)))
  have HQ0 := Aside0.mk (heap_alloc_new w (.cells #[.slice A1 types.length c1, .slice A2 l.length c2] 36 (0, 0)))
  clear hr1 hr2 hc1 hc2 hL hf hts hcm hs1 he1 hK1
  go_enter Tryz.func4, Tryz.ntmps4
  go_wp2_with fail
  refine (HLO.out _ HB0.out).mono ?_
  rintro en w1 ⟨gT, cT, A7, c7, gO, cO, qs, ms, rfl, hlo, hb1⟩
  have HB1 := Aside0.mk (below_step HB0.out hb1)
  have HQ1 := Aside0.mk ((hb1.block _ (blk_lt HQ0.out)).trans HQ0.out)
  obtain ⟨base, hbase⟩ : ∃ base, (w.alloc (.cells #[.slice A1 types.length c1, .slice A2 l.length c2] 36 (0, 0))).heap.size = base := ⟨_, rfl⟩
  have hbw : w.heap.size ≤ base := by rw [← hbase]; exact HB0.out.size
  have hbw1 : base ≤ w1.heap.size := by rw [← hbase]; exact hb1.size
  rw [hbase] at hlo
  have HBW := Aside0.mk hbw
  have HBW1 := Aside0.mk hbw1
  have HLZ := Aside0.mk hlo
  obtain ⟨g5, hg5⟩ : ∃ g5, w1.heap.size = g5 := ⟨_, rfl⟩
  have HZ2 : Aside0 (Tst w A1 c1 types A2 c2 base g5 ts l gT cT A7 c7 gO cO cm qs ms (w1.alloc (.cells #[.slice (some ⟨gT, 0, none⟩) types.length cT, .slice (some ⟨gO, 0, none⟩) l.length cO] 36 (0, 0)))) :=
    ⟨⟨below_alloc HB1.out _, blk_alloc HQ1.out _, by rw [← hg5]; exact heap_alloc_new _ _, hlo.below (below_alloc (Below.refl _ _) _)⟩⟩
  have HT2 : Aside0 (∀ W, Loosed base W ts l gT cT A7 c7 gO cO cm qs ms → LaidM W → Calls Tryz.prog 16 #[.agg #[.slice (some ⟨gT, 0, none⟩) types.length cT, .slice (some ⟨gO, 0, none⟩) l.length cO], .int .i64 d] W fun e w' => e = .returned (.tuple #[.string s1, .int .i64 e1]) ∧ Below W.heap.size W w') := ⟨fun W h hL => by
    have := H_Table HF.out (some ⟨gT, 0, none⟩) cT (some ⟨gO, 0, none⟩) cO d W (h.ints HTS.out).1 (h.ints HTS.out).2.1 (h.rowsIn HCML.out).1 (h.rowsIn HCML.out).2.1 hL
    rwa [HTO.out] at this⟩
  have HK2 : Aside0 (∀ W, Below w.heap.size w W → Loosed base W ts l gT cT A7 c7 gO cO cm qs ms → Calls Tryz.prog 18 #[.agg #[.slice A1 types.length c1, .slice A2 l.length c2], .slice (some ⟨gT, 0, none⟩) ts.length cT, .slice A7 l.length c7, .slice (some ⟨gO, 0, none⟩) (l.length + 64) cO] W fun e w' => e = .returned (.bool true) ∧ Below W.heap.size W w') := ⟨fun W hb h =>
    (HCM.out ▸ h).kept HTS.out HF.out.cols HF.out.nrows HM.out A1 c1 A2 c2 (Kd.C_below HR1.out hb) HC1.out (Kd.C_below HR2.out hb) HC2.out⟩
  have HGE5 : Aside0 (w.heap.size ≤ g5) := ⟨by rw [← hg5]; exact HB1.out.size⟩
  clear hlo hb1 hbase hbw hbw1 HLO HQ0 HB0 HLZ HB1 HQ1 HBW1
  go_wp2_with fail
  clear hg5
  refine (HT2.out _ HZ2.out.lo (HL.out.below HZ2.out.bel)).mono ?_
  rintro en w3 ⟨rfl, hb3⟩
  have HZ3 := Aside0.mk (HZ2.out.below hb3)
  have h30 : w3.cell? ⟨w.heap.size, 0, none⟩ = some (.slice A1 types.length c1) := blk_cell HZ3.out.box 0
  have h31 : w3.cell? ⟨w.heap.size, 1, none⟩ = some (.slice A2 l.length c2) := blk_cell HZ3.out.box 1
  clear hb3 HZ2
  go_wp2_with fail
  refine (QS.daybookref17_Table.calls K1 A1 c1 types A2 c2 l d s1 e1 _ (Kd.C_below HR1.out HZ3.out.bel) HC1.out (Kd.C_below HR2.out HZ3.out.bel) HC2.out (HK1.out.trans (congrArg some HTO.out))).mono ?_
  rintro en w4 ⟨rfl, hb4⟩
  have HZ4 := Aside0.mk (HZ3.out.below hb4)
  clear hb4 HZ3 h30 h31
  go_wp2_with fail
  refine (QT.daybooklaw17_like.calls s1 e1 s1 e1 _ _ (like_same s1 e1)).mono ?_
  rintro en w5 ⟨rfl, n5, rfl⟩
  have HZ5 := Aside0.mk (HZ4.out.below (pw_below_drewN (Below.refl _ _) n5))
  clear HZ4
  generalize w4.drewN n5 = w5 at *
  have h50 : w5.cell? ⟨w.heap.size, 0, none⟩ = some (.slice A1 types.length c1) := blk_cell HZ5.out.box 0
  have h51 : w5.cell? ⟨w.heap.size, 1, none⟩ = some (.slice A2 l.length c2) := blk_cell HZ5.out.box 1
  go_wp2_with fail
  refine (HK2.out _ HZ5.out.bel HZ5.out.lo).mono ?_
  rintro en w6 ⟨rfl, hb6⟩
  have HZ6 := Aside0.mk (HZ5.out.below hb6)
  clear hb6 HZ5 h50 h51
  go_wp2_with fail
  refine (QT.daybooklaw17_first.calls _ _ (HL.out.base.below HZ6.out.bel) first_yes).mono ?_
  rintro en w7 ⟨rfl, hb7⟩
  have HZ7 := Aside0.mk (HZ6.out.below hb7)
  clear hb7 HZ6
  have g71 : w7.cell? ⟨g5, 1, none⟩ = some (.slice (some ⟨gO, 0, none⟩) l.length cO) := blk_cell HZ7.out.inn 1
  clear HK2 HT2 HTO HK1
  by_cases hpos : 0 < l.length
  · obtain ⟨j, hjj⟩ : ∃ j, l.length / 2 = j := ⟨_, rfl⟩
    have hj : j < l.length := by omega
    obtain ⟨g, cap, hqj, hge, ⟨cur, hcur⟩, hhd, ⟨curO, hcurO⟩, hcap, hcap2⟩ := HZ7.out.lo.header HCML.out hj
    have hp1 : decide ((0 : Int) < (l.length : Int)) = true := decide_eq_true (by omega)
    have hp2 : decide (0 < l.length) = true := decide_eq_true hpos
    have q1 : (l.length : Int).tdiv 2 = (j : Int) := by rw [Int.tdiv_eq_ediv_of_nonneg (by omega)]; omega
    have q2 : (l.length : Int) / 2 = (j : Int) := by omega
    have i2 : (j : Int) < (l.length : Int) := by omega
    have i3 : (0 : Int) ≤ (j : Int) := by omega
    have i4 : (l.length : Int) ≤ 1048576 := by have := HF.out.nrows; omega
    have qw : wrap64 (j : Int) = (j : Int) := by unfold wrap64; omega
    by_cases hpr : 0 < l[j].length
    · have hr1 : decide ((0 : Int) < (l[j].length : Int)) = true := decide_eq_true (by omega)
      have hr2 : decide (0 < l[j].length) = true := decide_eq_true hpr
      have hrd := cels_at (HZ7.out.lo.pcs.ok _ (List.mem_append_left _ (List.mem_of_getElem? hqj))).reads
      have hpp : 0 < (l[j] ++ cm).length := by rw [List.length_append]; omega
      obtain ⟨b1, m1⟩ : ∃ b, w7.cell? ⟨g, 1, none⟩ = some (.int .i64 b) := ⟨_, by have h1 := (hrd.2 _ rfl 0 hpp).2.1; rw [mkL] at h1; exact h1⟩
      obtain ⟨b2, m2⟩ : ∃ b, w7.cell? ⟨g, 2, none⟩ = some (.string b) := ⟨_, by have h1 := (hrd.2 _ rfl 0 hpp).2.2; rw [mkL] at h1; exact h1⟩
      obtain ⟨qs2, hlo2⟩ := HZ7.out.lo.put HCML.out hj hpr ⟨#[122]⟩ g cap hqj
      obtain ⟨l2, hl2⟩ : ∃ l2, l2 = l.set j (l[j].set 0 ⟨l[j][0].f0, 0, ⟨#[122]⟩⟩) := ⟨_, rfl⟩
      have HF2 : Aside0 (TableFits types l2) := ⟨by rw [hl2]; exact HF.out.put hj hpr⟩
      have HL2 : Aside0 (l2.length = l.length) := ⟨by rw [hl2, List.length_set]⟩
      rw [← hl2] at hlo2
      have hgw : w.heap.size ≤ g := Nat.le_trans HBW.out hge
      have hn5 : g5 ≠ g := fun he => by
        have h1 := HZ7.out.inn
        rw [he] at h1
        rw [hcur] at h1
        injection h1 with h1
        injection h1 with _ h1
        exact absurd h1 (by decide)
      have hnO : gO ≠ g := fun he => by
        rw [he] at hcurO
        rw [hcur] at hcurO
        injection hcurO with h1
        injection h1 with _ h1
        exact absurd h1 (by decide)
      have f1 : w7.frozen? ⟨g, 1, none⟩ = false := blk_frozen hcur 1
      have hcur2 := blk_set hcur 1 (.int .i64 0)
      have f2 : (w7.setCell ⟨g, 1, none⟩ (.int .i64 0)).frozen? ⟨g, 2, none⟩ = false := blk_frozen hcur2 2
      have e1' : (w7.setCell ⟨g, 1, none⟩ (.int .i64 0)).heap[g5]? = w7.heap[g5]? := Below.heap_setCell w7 ⟨g, 1, none⟩ _ _ hn5
      have e2' : (w7.setCell ⟨g, 1, none⟩ (.int .i64 0)).heap[gO]? = w7.heap[gO]? := Below.heap_setCell w7 ⟨g, 1, none⟩ _ _ hnO
      have g81 : (w7.setCell ⟨g, 1, none⟩ (.int .i64 0)).cell? ⟨g5, 1, none⟩ = some (.slice (some ⟨gO, 0, none⟩) l.length cO) := blk_cell (e1'.trans HZ7.out.inn) 1
      have g82 : (w7.setCell ⟨g, 1, none⟩ (.int .i64 0)).cell? ⟨gO, j, none⟩ = some (.slice (some ⟨g, 0, none⟩) l[j].length cap) := by
        rw [blk_cell (e2'.trans hcurO) j, ← blk_cell hcurO j]; exact hhd
      have m2' : (w7.setCell ⟨g, 1, none⟩ (.int .i64 0)).cell? ⟨g, 2, none⟩ = some (.string b2) := by
        rw [blk_cell hcur2 2, Array.getElem?_setIfInBounds_ne (by decide), ← blk_cell hcur 2]; exact m2
      have HLM := Aside0.mk hlo2
      have HBM : Aside0 (Below w.heap.size w ((w7.setCell ⟨g, 1, none⟩ (.int .i64 0)).setCell ⟨g, 2, none⟩ (.string ⟨#[122]⟩))) := ⟨by
        refine Below.setCell (Below.setCell HZ7.out.bel ?_ _) ?_ _
        · exact hgw
        · exact hgw⟩
      have HIN : Aside0 (((w7.setCell ⟨g, 1, none⟩ (.int .i64 0)).setCell ⟨g, 2, none⟩ (.string ⟨#[122]⟩)).heap[g5]? = some (.cells #[.slice (some ⟨gT, 0, none⟩) types.length cT, .slice (some ⟨gO, 0, none⟩) l.length cO] 36 (0, 0))) :=
        ⟨(Below.heap_setCell _ ⟨g, 2, none⟩ _ _ hn5).trans (e1'.trans HZ7.out.inn)⟩
      have gin0 := blk_cell HIN.out 0
      have gin1 := blk_cell HIN.out 1
      clear hrd hpp hlo2 hl2 hcur2 e1' e2' hgw hcur hcurO hqj hcap2 hge HZ7 hpos hjj
      have ij : (0 : Int) < (l[j].length : Int) := by omega
      generalize l[j].length = lj at *
      clear hj hn5 hnO
      obtain ⟨s2, hs2⟩ : ∃ s2, (tableOut types l2 d).1 = s2 := ⟨_, rfl⟩
      obtain ⟨e2, he2⟩ : ∃ e2, (tableOut types l2 d).2 = e2 := ⟨_, rfl⟩
      have HTO2 : Aside0 (tableOut types l2 d = (s2, e2)) := ⟨Prod.ext hs2 he2⟩
      obtain ⟨K2, hK2⟩ := table_ref HF2.out d
      have HK3 := Aside0.mk (hK2 K2 (Nat.le_refl _))
      have HM2 : Aside0 (∀ r ∈ l2, r.length ≤ 1048576) := ⟨fun r hr => by have := HF2.out.row r hr; omega⟩
      have HCP : Aside0 (∀ W, Loosed base W ts l2 gT cT A7 c7 gO cO cm qs2 ms → Calls Tryz.prog 19 #[.agg #[.slice (some ⟨gT, 0, none⟩) types.length cT, .slice (some ⟨gO, 0, none⟩) l.length cO]] W fun e w' => ∃ (A9 : Option Addr) (c9 : Nat) (A8 : Option Addr) (c8 : Nat), e = .returned (.agg #[.slice A9 types.length c9, .slice A8 l2.length c8]) ∧
          Kd.C (Kd.int .i64) w' A9 types.length types ∧ types.length ≤ c9 ∧ Kd.C (Kd.slice 43 QS.k43) w' A8 l2.length l2 ∧ l2.length ≤ c8 ∧ Below W.heap.size W w') := ⟨fun W h => by
        have h2 := h.rowsIn HCML.out
        have := QS.daybooklaw17_copied.calls (l2.length + 1) (some ⟨gT, 0, none⟩) cT types (some ⟨gO, 0, none⟩) cO l2 types l2 W (h.ints HTS.out).1 (h.ints HTS.out).2.1 h2.1 h2.2.1 (copied_some types l2 HF2.out.cols HF2.out.nrows HM2.out _ (Nat.lt_succ_self _))
        rw [HL2.out] at this
        refine this.mono ?_
        rintro e w' ⟨v0, v1, rfl, h0, h1, hb⟩
        have h1 := Kd.S_R h1
        obtain ⟨A9, c9, rfl⟩ := Kd.R_slice h0
        obtain ⟨A8, c8, rfl⟩ := Kd.R_slice h1
        exact ⟨A9, c9, A8, c8, rfl, (Kd.R_reads' h0).2.2, (Kd.R_reads' h0).2.1, (Kd.R_reads' h1).2.2, (Kd.R_reads' h1).2.1, hb⟩⟩
      have HT3 : Aside0 (∀ W, Loosed base W ts l2 gT cT A7 c7 gO cO cm qs2 ms → LaidM W → Calls Tryz.prog 16 #[.agg #[.slice (some ⟨gT, 0, none⟩) types.length cT, .slice (some ⟨gO, 0, none⟩) l.length cO], .int .i64 d] W fun e w' => e = .returned (.tuple #[.string s2, .int .i64 e2]) ∧ Below W.heap.size W w') := ⟨fun W h hL => by
        have h2 := h.rowsIn HCML.out
        have := H_Table HF2.out (some ⟨gT, 0, none⟩) cT (some ⟨gO, 0, none⟩) cO d W (h.ints HTS.out).1 (h.ints HTS.out).2.1 h2.1 h2.2.1 hL
        rwa [HTO2.out, HL2.out] at this⟩
      have HK4 : Aside0 (∀ W (A9 : Option Addr) (c9 : Nat) (A8 : Option Addr) (c8 : Nat), Kd.C (Kd.int .i64) W A9 types.length types → types.length ≤ c9 → Kd.C (Kd.slice 43 QS.k43) W A8 l2.length l2 → l2.length ≤ c8 → Loosed base W ts l2 gT cT A7 c7 gO cO cm qs2 ms →
          Calls Tryz.prog 18 #[.agg #[.slice A9 types.length c9, .slice A8 l2.length c8], .slice (some ⟨gT, 0, none⟩) ts.length cT, .slice A7 l.length c7, .slice (some ⟨gO, 0, none⟩) (l.length + 64) cO] W fun e w' => e = .returned (.bool true) ∧ Below W.heap.size W w') := ⟨fun W A9 c9 A8 c8 x1 x2 x3 x4 h => by
        have := (HCM.out ▸ h).kept HTS.out HF2.out.cols HF2.out.nrows HM2.out A9 c9 A8 c8 x1 x2 x3 x4
        rwa [show Value.slice A7 l2.length c7 = .slice A7 l.length c7 by rw [HL2.out], show Value.slice (some ⟨gO, 0, none⟩) (l2.length + 64) cO = .slice (some ⟨gO, 0, none⟩) (l.length + 64) cO by rw [HL2.out]] at this⟩
      clear hs2 he2 hK2
      go_wp2_with fail
      refine (HCP.out _ HLM.out).mono ?_
      rintro en wc ⟨A9, c9, A8, c8, rfl, x1, x2, x3, x4, hbc⟩
      have HX1 := Aside0.mk x1
      have HX2 := Aside0.mk x2
      have HX3 := Aside0.mk x3
      have HX4 := Aside0.mk x4
      have HLC := Aside0.mk (HLM.out.below hbc)
      have HBC := Aside0.mk (below_step HBM.out hbc)
      have HINC := Aside0.mk ((hbc.block _ (blk_lt HIN.out)).trans HIN.out)
      have HA1 := Aside0.mk (below_alloc (Below.refl wc.heap.size wc) (.cells #[.slice A9 types.length c9, .slice A8 l2.length c8] 36 (0, 0)))
      have gid0 := blk_cell (blk_alloc HINC.out (.cells #[.slice A9 types.length c9, .slice A8 l2.length c8] 36 (0, 0))) 0
      have gid1 := blk_cell (blk_alloc HINC.out (.cells #[.slice A9 types.length c9, .slice A8 l2.length c8] 36 (0, 0))) 1
      clear x1 x2 x3 x4 hbc gin0 gin1 HLM HIN HBM
      go_wp2_with fail
      refine (HT3.out _ (HLC.out.below HA1.out) (HL.out.below (below_step HBC.out HA1.out))).mono ?_
      rintro en wd ⟨rfl, hbd⟩
      have HAD := Aside0.mk (below_step HA1.out hbd)
      have HQD := Aside0.mk ((hbd.block _ (blk_lt (heap_alloc_new wc _))).trans (heap_alloc_new wc (.cells #[.slice A9 types.length c9, .slice A8 l2.length c8] 36 (0, 0))))
      have gd0 := blk_cell HQD.out 0
      have gd1 := blk_cell HQD.out 1
      clear hbd gid0 gid1
      go_wp2_with fail
      refine (QS.daybookref17_Table.calls K2 A9 c9 types A8 c8 l2 d s2 e2 _ (Kd.C_below HX1.out HAD.out) HX2.out (Kd.C_below HX3.out HAD.out) HX4.out (HK3.out.trans (congrArg some HTO2.out))).mono ?_
      rintro en we ⟨rfl, hbe⟩
      have HAE := Aside0.mk (below_step HAD.out hbe)
      have HQE := Aside0.mk ((hbe.block _ (blk_lt HQD.out)).trans HQD.out)
      clear hbe gd0 gd1
      go_wp2_with fail
      refine (QT.daybooklaw17_like.calls s2 e2 s2 e2 _ _ (like_same s2 e2)).mono ?_
      rintro en wf ⟨rfl, nf, rfl⟩
      have HAF := Aside0.mk (below_step HAE.out (pw_below_drewN (Below.refl _ _) nf))
      have HQF : Aside0 ((we.drewN nf).heap[wc.heap.size]? = some (.cells #[.slice A9 types.length c9, .slice A8 l2.length c8] 36 (0, 0))) := ⟨((pw_below_drewN (Below.refl we.heap.size we) nf).block _ (blk_lt HQE.out)).trans HQE.out⟩
      generalize we.drewN nf = wf at *
      have gf0 := blk_cell HQF.out 0
      have gf1 := blk_cell HQF.out 1
      go_wp2_with fail
      refine (HK4.out _ A9 c9 A8 c8 (Kd.C_below HX1.out HAF.out) HX2.out (Kd.C_below HX3.out HAF.out) HX4.out (HLC.out.below HAF.out)).mono ?_
      rintro en wg ⟨rfl, hbg⟩
      have HBG := Aside0.mk (below_step (below_step HBC.out HAF.out) hbg)
      clear hbg gf0 gf1
      go_wp2_with fail
      go_ret
      exact ⟨rfl, HBG.out⟩
    · have hr1 : decide ((0 : Int) < (l[j].length : Int)) = false := decide_eq_false (by omega)
      have hr2 : decide (0 < l[j].length) = false := decide_eq_false hpr
      obtain ⟨l2, hl2⟩ : ∃ l2, l2 = l := ⟨_, rfl⟩
      have HF2 : Aside0 (TableFits types l2) := ⟨by rw [hl2]; exact HF.out⟩
      have HL2 : Aside0 (l2.length = l.length) := ⟨by rw [hl2]⟩
      obtain ⟨qs2, hqs2⟩ : ∃ q, q = qs := ⟨_, rfl⟩
      have HLM : Aside0 (Loosed base w7 ts l2 gT cT A7 c7 gO cO cm qs2 ms) := ⟨by rw [hl2, hqs2]; exact HZ7.out.lo⟩
      have HBM := Aside0.mk HZ7.out.bel
      have HIN := Aside0.mk HZ7.out.inn
      have gin0 := blk_cell HIN.out 0
      have gin1 := blk_cell HIN.out 1
      clear hl2 hqs2 hcur hcurO hqj hcap2 hge HZ7 hpr hpos hjj
      generalize l[j].length = lj at *
      clear hj
      obtain ⟨s2, hs2⟩ : ∃ s2, (tableOut types l2 d).1 = s2 := ⟨_, rfl⟩
      obtain ⟨e2, he2⟩ : ∃ e2, (tableOut types l2 d).2 = e2 := ⟨_, rfl⟩
      have HTO2 : Aside0 (tableOut types l2 d = (s2, e2)) := ⟨Prod.ext hs2 he2⟩
      obtain ⟨K2, hK2⟩ := table_ref HF2.out d
      have HK3 := Aside0.mk (hK2 K2 (Nat.le_refl _))
      have HM2 : Aside0 (∀ r ∈ l2, r.length ≤ 1048576) := ⟨fun r hr => by have := HF2.out.row r hr; omega⟩
      have HCP : Aside0 (∀ W, Loosed base W ts l2 gT cT A7 c7 gO cO cm qs2 ms → Calls Tryz.prog 19 #[.agg #[.slice (some ⟨gT, 0, none⟩) types.length cT, .slice (some ⟨gO, 0, none⟩) l.length cO]] W fun e w' => ∃ (A9 : Option Addr) (c9 : Nat) (A8 : Option Addr) (c8 : Nat), e = .returned (.agg #[.slice A9 types.length c9, .slice A8 l2.length c8]) ∧
          Kd.C (Kd.int .i64) w' A9 types.length types ∧ types.length ≤ c9 ∧ Kd.C (Kd.slice 43 QS.k43) w' A8 l2.length l2 ∧ l2.length ≤ c8 ∧ Below W.heap.size W w') := ⟨fun W h => by
        have h2 := h.rowsIn HCML.out
        have := QS.daybooklaw17_copied.calls (l2.length + 1) (some ⟨gT, 0, none⟩) cT types (some ⟨gO, 0, none⟩) cO l2 types l2 W (h.ints HTS.out).1 (h.ints HTS.out).2.1 h2.1 h2.2.1 (copied_some types l2 HF2.out.cols HF2.out.nrows HM2.out _ (Nat.lt_succ_self _))
        rw [HL2.out] at this
        refine this.mono ?_
        rintro e w' ⟨v0, v1, rfl, h0, h1, hb⟩
        have h1 := Kd.S_R h1
        obtain ⟨A9, c9, rfl⟩ := Kd.R_slice h0
        obtain ⟨A8, c8, rfl⟩ := Kd.R_slice h1
        exact ⟨A9, c9, A8, c8, rfl, (Kd.R_reads' h0).2.2, (Kd.R_reads' h0).2.1, (Kd.R_reads' h1).2.2, (Kd.R_reads' h1).2.1, hb⟩⟩
      have HT3 : Aside0 (∀ W, Loosed base W ts l2 gT cT A7 c7 gO cO cm qs2 ms → LaidM W → Calls Tryz.prog 16 #[.agg #[.slice (some ⟨gT, 0, none⟩) types.length cT, .slice (some ⟨gO, 0, none⟩) l.length cO], .int .i64 d] W fun e w' => e = .returned (.tuple #[.string s2, .int .i64 e2]) ∧ Below W.heap.size W w') := ⟨fun W h hL => by
        have h2 := h.rowsIn HCML.out
        have := H_Table HF2.out (some ⟨gT, 0, none⟩) cT (some ⟨gO, 0, none⟩) cO d W (h.ints HTS.out).1 (h.ints HTS.out).2.1 h2.1 h2.2.1 hL
        rwa [HTO2.out, HL2.out] at this⟩
      have HK4 : Aside0 (∀ W (A9 : Option Addr) (c9 : Nat) (A8 : Option Addr) (c8 : Nat), Kd.C (Kd.int .i64) W A9 types.length types → types.length ≤ c9 → Kd.C (Kd.slice 43 QS.k43) W A8 l2.length l2 → l2.length ≤ c8 → Loosed base W ts l2 gT cT A7 c7 gO cO cm qs2 ms →
          Calls Tryz.prog 18 #[.agg #[.slice A9 types.length c9, .slice A8 l2.length c8], .slice (some ⟨gT, 0, none⟩) ts.length cT, .slice A7 l.length c7, .slice (some ⟨gO, 0, none⟩) (l.length + 64) cO] W fun e w' => e = .returned (.bool true) ∧ Below W.heap.size W w') := ⟨fun W A9 c9 A8 c8 x1 x2 x3 x4 h => by
        have := (HCM.out ▸ h).kept HTS.out HF2.out.cols HF2.out.nrows HM2.out A9 c9 A8 c8 x1 x2 x3 x4
        rwa [show Value.slice A7 l2.length c7 = .slice A7 l.length c7 by rw [HL2.out], show Value.slice (some ⟨gO, 0, none⟩) (l2.length + 64) cO = .slice (some ⟨gO, 0, none⟩) (l.length + 64) cO by rw [HL2.out]] at this⟩
      clear hs2 he2 hK2
      go_wp2_with fail
      refine (HCP.out _ HLM.out).mono ?_
      rintro en wc ⟨A9, c9, A8, c8, rfl, x1, x2, x3, x4, hbc⟩
      have HX1 := Aside0.mk x1
      have HX2 := Aside0.mk x2
      have HX3 := Aside0.mk x3
      have HX4 := Aside0.mk x4
      have HLC := Aside0.mk (HLM.out.below hbc)
      have HBC := Aside0.mk (below_step HBM.out hbc)
      have HINC := Aside0.mk ((hbc.block _ (blk_lt HIN.out)).trans HIN.out)
      have HA1 := Aside0.mk (below_alloc (Below.refl wc.heap.size wc) (.cells #[.slice A9 types.length c9, .slice A8 l2.length c8] 36 (0, 0)))
      have gid0 := blk_cell (blk_alloc HINC.out (.cells #[.slice A9 types.length c9, .slice A8 l2.length c8] 36 (0, 0))) 0
      have gid1 := blk_cell (blk_alloc HINC.out (.cells #[.slice A9 types.length c9, .slice A8 l2.length c8] 36 (0, 0))) 1
      clear x1 x2 x3 x4 hbc gin0 gin1 HLM HIN HBM
      go_wp2_with fail
      refine (HT3.out _ (HLC.out.below HA1.out) (HL.out.below (below_step HBC.out HA1.out))).mono ?_
      rintro en wd ⟨rfl, hbd⟩
      have HAD := Aside0.mk (below_step HA1.out hbd)
      have HQD := Aside0.mk ((hbd.block _ (blk_lt (heap_alloc_new wc _))).trans (heap_alloc_new wc (.cells #[.slice A9 types.length c9, .slice A8 l2.length c8] 36 (0, 0))))
      have gd0 := blk_cell HQD.out 0
      have gd1 := blk_cell HQD.out 1
      clear hbd gid0 gid1
      go_wp2_with fail
      refine (QS.daybookref17_Table.calls K2 A9 c9 types A8 c8 l2 d s2 e2 _ (Kd.C_below HX1.out HAD.out) HX2.out (Kd.C_below HX3.out HAD.out) HX4.out (HK3.out.trans (congrArg some HTO2.out))).mono ?_
      rintro en we ⟨rfl, hbe⟩
      have HAE := Aside0.mk (below_step HAD.out hbe)
      have HQE := Aside0.mk ((hbe.block _ (blk_lt HQD.out)).trans HQD.out)
      clear hbe gd0 gd1
      go_wp2_with fail
      refine (QT.daybooklaw17_like.calls s2 e2 s2 e2 _ _ (like_same s2 e2)).mono ?_
      rintro en wf ⟨rfl, nf, rfl⟩
      have HAF := Aside0.mk (below_step HAE.out (pw_below_drewN (Below.refl _ _) nf))
      have HQF : Aside0 ((we.drewN nf).heap[wc.heap.size]? = some (.cells #[.slice A9 types.length c9, .slice A8 l2.length c8] 36 (0, 0))) := ⟨((pw_below_drewN (Below.refl we.heap.size we) nf).block _ (blk_lt HQE.out)).trans HQE.out⟩
      generalize we.drewN nf = wf at *
      have gf0 := blk_cell HQF.out 0
      have gf1 := blk_cell HQF.out 1
      go_wp2_with fail
      refine (HK4.out _ A9 c9 A8 c8 (Kd.C_below HX1.out HAF.out) HX2.out (Kd.C_below HX3.out HAF.out) HX4.out (HLC.out.below HAF.out)).mono ?_
      rintro en wg ⟨rfl, hbg⟩
      have HBG := Aside0.mk (below_step (below_step HBC.out HAF.out) hbg)
      clear hbg gf0 gf1
      go_wp2_with fail
      go_ret
      exact ⟨rfl, HBG.out⟩
  · have hp1 : decide ((0 : Int) < (l.length : Int)) = false := decide_eq_false (by omega)
    have hp2 : decide (0 < l.length) = false := decide_eq_false hpos
    obtain ⟨l2, hl2⟩ : ∃ l2, l2 = l := ⟨_, rfl⟩
    have HF2 : Aside0 (TableFits types l2) := ⟨by rw [hl2]; exact HF.out⟩
    have HL2 : Aside0 (l2.length = l.length) := ⟨by rw [hl2]⟩
    obtain ⟨qs2, hqs2⟩ : ∃ q, q = qs := ⟨_, rfl⟩
    have HLM : Aside0 (Loosed base w7 ts l2 gT cT A7 c7 gO cO cm qs2 ms) := ⟨by rw [hl2, hqs2]; exact HZ7.out.lo⟩
    have HBM := Aside0.mk HZ7.out.bel
    have HIN := Aside0.mk HZ7.out.inn
    have gin0 := blk_cell HIN.out 0
    have gin1 := blk_cell HIN.out 1
    clear hl2 hqs2 HZ7 hpos
    obtain ⟨s2, hs2⟩ : ∃ s2, (tableOut types l2 d).1 = s2 := ⟨_, rfl⟩
    obtain ⟨e2, he2⟩ : ∃ e2, (tableOut types l2 d).2 = e2 := ⟨_, rfl⟩
    have HTO2 : Aside0 (tableOut types l2 d = (s2, e2)) := ⟨Prod.ext hs2 he2⟩
    obtain ⟨K2, hK2⟩ := table_ref HF2.out d
    have HK3 := Aside0.mk (hK2 K2 (Nat.le_refl _))
    have HM2 : Aside0 (∀ r ∈ l2, r.length ≤ 1048576) := ⟨fun r hr => by have := HF2.out.row r hr; omega⟩
    have HCP : Aside0 (∀ W, Loosed base W ts l2 gT cT A7 c7 gO cO cm qs2 ms → Calls Tryz.prog 19 #[.agg #[.slice (some ⟨gT, 0, none⟩) types.length cT, .slice (some ⟨gO, 0, none⟩) l.length cO]] W fun e w' => ∃ (A9 : Option Addr) (c9 : Nat) (A8 : Option Addr) (c8 : Nat), e = .returned (.agg #[.slice A9 types.length c9, .slice A8 l2.length c8]) ∧
        Kd.C (Kd.int .i64) w' A9 types.length types ∧ types.length ≤ c9 ∧ Kd.C (Kd.slice 43 QS.k43) w' A8 l2.length l2 ∧ l2.length ≤ c8 ∧ Below W.heap.size W w') := ⟨fun W h => by
      have h2 := h.rowsIn HCML.out
      have := QS.daybooklaw17_copied.calls (l2.length + 1) (some ⟨gT, 0, none⟩) cT types (some ⟨gO, 0, none⟩) cO l2 types l2 W (h.ints HTS.out).1 (h.ints HTS.out).2.1 h2.1 h2.2.1 (copied_some types l2 HF2.out.cols HF2.out.nrows HM2.out _ (Nat.lt_succ_self _))
      rw [HL2.out] at this
      refine this.mono ?_
      rintro e w' ⟨v0, v1, rfl, h0, h1, hb⟩
      have h1 := Kd.S_R h1
      obtain ⟨A9, c9, rfl⟩ := Kd.R_slice h0
      obtain ⟨A8, c8, rfl⟩ := Kd.R_slice h1
      exact ⟨A9, c9, A8, c8, rfl, (Kd.R_reads' h0).2.2, (Kd.R_reads' h0).2.1, (Kd.R_reads' h1).2.2, (Kd.R_reads' h1).2.1, hb⟩⟩
    have HT3 : Aside0 (∀ W, Loosed base W ts l2 gT cT A7 c7 gO cO cm qs2 ms → LaidM W → Calls Tryz.prog 16 #[.agg #[.slice (some ⟨gT, 0, none⟩) types.length cT, .slice (some ⟨gO, 0, none⟩) l.length cO], .int .i64 d] W fun e w' => e = .returned (.tuple #[.string s2, .int .i64 e2]) ∧ Below W.heap.size W w') := ⟨fun W h hL => by
      have h2 := h.rowsIn HCML.out
      have := H_Table HF2.out (some ⟨gT, 0, none⟩) cT (some ⟨gO, 0, none⟩) cO d W (h.ints HTS.out).1 (h.ints HTS.out).2.1 h2.1 h2.2.1 hL
      rwa [HTO2.out, HL2.out] at this⟩
    have HK4 : Aside0 (∀ W (A9 : Option Addr) (c9 : Nat) (A8 : Option Addr) (c8 : Nat), Kd.C (Kd.int .i64) W A9 types.length types → types.length ≤ c9 → Kd.C (Kd.slice 43 QS.k43) W A8 l2.length l2 → l2.length ≤ c8 → Loosed base W ts l2 gT cT A7 c7 gO cO cm qs2 ms →
        Calls Tryz.prog 18 #[.agg #[.slice A9 types.length c9, .slice A8 l2.length c8], .slice (some ⟨gT, 0, none⟩) ts.length cT, .slice A7 l.length c7, .slice (some ⟨gO, 0, none⟩) (l.length + 64) cO] W fun e w' => e = .returned (.bool true) ∧ Below W.heap.size W w') := ⟨fun W A9 c9 A8 c8 x1 x2 x3 x4 h => by
      have := (HCM.out ▸ h).kept HTS.out HF2.out.cols HF2.out.nrows HM2.out A9 c9 A8 c8 x1 x2 x3 x4
      rwa [show Value.slice A7 l2.length c7 = .slice A7 l.length c7 by rw [HL2.out], show Value.slice (some ⟨gO, 0, none⟩) (l2.length + 64) cO = .slice (some ⟨gO, 0, none⟩) (l.length + 64) cO by rw [HL2.out]] at this⟩
    clear hs2 he2 hK2
    go_wp2_with fail
    refine (HCP.out _ HLM.out).mono ?_
    rintro en wc ⟨A9, c9, A8, c8, rfl, x1, x2, x3, x4, hbc⟩
    have HX1 := Aside0.mk x1
    have HX2 := Aside0.mk x2
    have HX3 := Aside0.mk x3
    have HX4 := Aside0.mk x4
    have HLC := Aside0.mk (HLM.out.below hbc)
    have HBC := Aside0.mk (below_step HBM.out hbc)
    have HINC := Aside0.mk ((hbc.block _ (blk_lt HIN.out)).trans HIN.out)
    have HA1 := Aside0.mk (below_alloc (Below.refl wc.heap.size wc) (.cells #[.slice A9 types.length c9, .slice A8 l2.length c8] 36 (0, 0)))
    have gid0 := blk_cell (blk_alloc HINC.out (.cells #[.slice A9 types.length c9, .slice A8 l2.length c8] 36 (0, 0))) 0
    have gid1 := blk_cell (blk_alloc HINC.out (.cells #[.slice A9 types.length c9, .slice A8 l2.length c8] 36 (0, 0))) 1
    clear x1 x2 x3 x4 hbc gin0 gin1 HLM HIN HBM
    go_wp2_with fail
    refine (HT3.out _ (HLC.out.below HA1.out) (HL.out.below (below_step HBC.out HA1.out))).mono ?_
    rintro en wd ⟨rfl, hbd⟩
    have HAD := Aside0.mk (below_step HA1.out hbd)
    have HQD := Aside0.mk ((hbd.block _ (blk_lt (heap_alloc_new wc _))).trans (heap_alloc_new wc (.cells #[.slice A9 types.length c9, .slice A8 l2.length c8] 36 (0, 0))))
    have gd0 := blk_cell HQD.out 0
    have gd1 := blk_cell HQD.out 1
    clear hbd gid0 gid1
    go_wp2_with fail
    refine (QS.daybookref17_Table.calls K2 A9 c9 types A8 c8 l2 d s2 e2 _ (Kd.C_below HX1.out HAD.out) HX2.out (Kd.C_below HX3.out HAD.out) HX4.out (HK3.out.trans (congrArg some HTO2.out))).mono ?_
    rintro en we ⟨rfl, hbe⟩
    have HAE := Aside0.mk (below_step HAD.out hbe)
    have HQE := Aside0.mk ((hbe.block _ (blk_lt HQD.out)).trans HQD.out)
    clear hbe gd0 gd1
    go_wp2_with fail
    refine (QT.daybooklaw17_like.calls s2 e2 s2 e2 _ _ (like_same s2 e2)).mono ?_
    rintro en wf ⟨rfl, nf, rfl⟩
    have HAF := Aside0.mk (below_step HAE.out (pw_below_drewN (Below.refl _ _) nf))
    have HQF : Aside0 ((we.drewN nf).heap[wc.heap.size]? = some (.cells #[.slice A9 types.length c9, .slice A8 l2.length c8] 36 (0, 0))) := ⟨((pw_below_drewN (Below.refl we.heap.size we) nf).block _ (blk_lt HQE.out)).trans HQE.out⟩
    generalize we.drewN nf = wf at *
    have gf0 := blk_cell HQF.out 0
    have gf1 := blk_cell HQF.out 1
    go_wp2_with fail
    refine (HK4.out _ A9 c9 A8 c8 (Kd.C_below HX1.out HAF.out) HX2.out (Kd.C_below HX3.out HAF.out) HX4.out (HLC.out.below HAF.out)).mono ?_
    rintro en wg ⟨rfl, hbg⟩
    have HBG := Aside0.mk (below_step (below_step HBC.out HAF.out) hbg)
    clear hbg gf0 gf1
    go_wp2_with fail
    go_ret
    exact ⟨rfl, HBG.out⟩
end Go.Proofs.YtmimninicegjcaaGreatDoor

