/- sheet.Trial. -/
import Derived.Deep.DeepCutAuto
import Derived.Test.YtmimninicegjcaaGreatDoorTbMTrialATrialB
import Derived.Test.YtmimninicegjcaaGreatDoorTbTrialD
namespace Go.Proofs.YtmimninicegjcaaGreatDoor
open Go.RowKit Go.Shelf Go.Lib Go.Proofs.YtmimninicegjcaaGreatDoorW.PrintWords Go.Proofs.YtmimninicegjcaaGreatDoorW.PrintLast Go.Proofs.YtmimninicegjcaaGreatDoorW.PrintMore
attribute [local go_sem] max2_int min2_int max_two min_two
set_option linter.unusedVariables false
set_option linter.unusedSimpArgs false
def whyCol (y : Int) (c : Col) : Int := let y1 := if goodName c.f0 = true then y else first1 y 60; if c.f1 < 0 ∨ c.f2 < 0 then first1 y1 10 else y1
def whyOf (l : List Col) (y : Int) : Int := l.foldl whyCol y
theorem whyOf_snoc (l : List Col) (y : Int) (k : Nat) (h : k < l.length) : whyOf (l.take (k + 1)) y = whyCol (whyOf (l.take k) y) l[k] := by
  rw [List.take_succ_eq_append_getElem h, whyOf, List.foldl_append]
  rfl
def debits (l : List Col) : List Int := l.map fun c => mx c.f1 0
def credits (l : List Col) : List Int := l.map fun c => mx c.f2 0
theorem debits_snoc (l : List Col) (k : Nat) (h : k < l.length) : debits (l.take (k + 1)) = debits (l.take k) ++ [mx l[k].f1 0] := by
  rw [List.take_succ_eq_append_getElem h, debits, List.map_append]
  rfl
theorem credits_snoc (l : List Col) (k : Nat) (h : k < l.length) : credits (l.take (k + 1)) = credits (l.take k) ++ [mx l[k].f2 0] := by
  rw [List.take_succ_eq_append_getElem h, credits, List.map_append]
  rfl
def trialRow (d : Nat) (c : Col) : List ByteArray := [c.f0, sideText c.f1 d, sideText c.f2 d]
def head3 : List ByteArray := [⟨#[65, 99, 99, 111, 117, 110, 116]⟩, ⟨#[68, 101, 98, 105, 116]⟩, ⟨#[67, 114, 101, 100, 105, 116]⟩]
def trialRows (l : List Col) (d : Nat) (a b : Int) : List (List ByteArray) := [head3] ++ l.map (trialRow d) ++ [[⟨#[83, 117, 109]⟩, moneyText a d, moneyText b d]]
theorem rows_snoc (l : List Col) (d k : Nat) (h : k < l.length) : [head3] ++ (l.take (k + 1)).map (trialRow d) = ([head3] ++ (l.take k).map (trialRow d)) ++ [[l[k].f0, sideText l[k].f1 d, sideText l[k].f2 d]] := by
  rw [List.take_succ_eq_append_getElem h, List.map_append, ← List.append_assoc]
  rfl
theorem cols_at {w : World} {A : Option Addr} {l : List Col} (h : Kd.C QT.k31 w A l.length l) :
    (l = [] ∨ ∃ ad, A = some ad) ∧ ∀ ad, A = some ad → ∀ i (hi : i < l.length), w.cell? (ad.add (i * 3)) = some (.string l[i].f0) ∧
      w.cell? ⟨(ad.add (i * 3)).block, (ad.add (i * 3)).off + 1, none⟩ = some (.int .i64 l[i].f1) ∧ w.cell? ⟨(ad.add (i * 3)).block, (ad.add (i * 3)).off + 2, none⟩ = some (.int .i64 l[i].f2) := by
  have e : ∀ i (hi : i < l.length), QT.rd_T31 l (i : Int) = l[i] := fun i hi => by simp [QT.rd_T31, List.getD_eq_getElem?_getD, List.getElem?_eq_getElem hi]
  refine ⟨?_, fun ad eA i hi => ?_⟩
  · cases l with
    | nil => exact .inl rfl
    | cons x l => obtain ⟨ad, e, _⟩ := QT.at_T31 h 0 (by omega) (by simp); exact .inr ⟨ad, e⟩
  · obtain ⟨ad', e', h0, h1, h2⟩ := QT.at_T31 h (i : Int) (by omega) (by omega)
    rw [eA] at e'
    obtain rfl := Option.some.inj e'
    rw [e i hi] at h0 h1 h2
    rw [Int.toNat_natCast] at h0 h1 h2
    exact ⟨h0, h1, h2⟩
set_option maxRecDepth 100000 in
set_option maxHeartbeats 4000000 in
theorem Trial_walk (A : Option Addr) (cap : Nat) (l : List Col) (d : Int) (w : World) (hr : Kd.C QT.k31 w A l.length l) (hc : l.length ≤ cap) (hL : Laid w)
    (hn : l.length ≤ 1048576) (sa ea sb eb y2 : Int) (hsa : L_Sum.f (debits l) = some (sa, ea)) (hsb : L_Sum.f (credits l) = some (sb, eb)) (hy2 : after (after (whyOf l (why0 d)) ea 11) eb 11 = y2)
    (T : ByteArray) (z : Int) (h1 : y2 ≠ 0 → T = ⟨#[]⟩ ∧ z = y2)
    (h2 : y2 = 0 → 0 ≤ d ∧ d ≤ 6 ∧ (∀ c ∈ l, (0 ≤ c.f1 ∧ c.f1 ≤ 9223372036854775807) ∧ 0 ≤ c.f2 ∧ c.f2 ≤ 9223372036854775807) ∧ L_Print.f sa d = some (moneyText sa d.toNat, 0) ∧ L_Print.f sb d = some (moneyText sb d.toNat, 0) ∧
      GridFits fromOne (trialRows l d.toNat sa sb) ∧ T = ⟨(gridText fromOne (trialRows l d.toNat sa sb)).toArray⟩ ∧ z = 0) :
    Calls Tryz.prog 10 #[.slice A l.length cap, .int .i64 d] w fun e w' => e = .returned (.tuple #[.string T, .int .i64 z]) ∧ Below w.heap.size w w' := by
  have HSA := Aside0.mk hsa
  have HSB := Aside0.mk hsb
  have HY2 := Aside0.mk hy2
  have HONE := Aside0.mk h1
  have HTWO := Aside0.mk h2
  clear hsa hsb hy2 h1 h2
  have HR := Aside0.mk hr
  have HL := Aside0.mk hL
  have HN := Aside0.mk hn
  have HC := Aside0.mk hc
  have HRD := Aside0.mk (cols_at hr)
  have i0 : (l.length : Int) ≤ 1048576 := by omega
  clear hr hc hL hn
  go_enter Tryz.func10, Tryz.ntmps10
  go_wp2_with fail
  refine (begin_calls d _).mono ?_
  rintro en w1 ⟨rfl, hs, hb⟩
  have HS := Aside0.mk hs
  have HB := Aside0.mk hb
  clear hs hb
  go_wp2_with fail
  have h16 : 7 ≤ w.heap.size := HL.out.low
  have H16 := Aside0.mk h16
  clear h16
  have HB0 := Aside0.mk (below_step HB.out (below_alloc (Below.refl _ _) (.cells #[.pointer (some ⟨w.heap.size, 0, none⟩)] 74 (0, 0))))
  have HS0 := Aside0.mk (St.mk (HS.out.below (below_alloc (Below.refl _ _) (.cells #[.pointer (some ⟨w.heap.size, 0, none⟩)] 74 (0, 0)))) (heap_alloc_new _ _) ((HL.out.below HB.out).alloc _))
  go_loopw [22] (fun v wr => ∃ k : Nat, v = .int .i64 k ∧ k ≤ l.length ∧ Aside0 (St wr w.heap.size w.heap.size w1.heap.size d (whyOf (l.take k) (why0 d)) []) ∧ Aside0 (Below w.heap.size w wr)) (fun v _ => l.length - (RowKit.intOf v).toNat)
  case atStart => exact ⟨0, rfl, Nat.zero_le _, ⟨(HS0.out : St _ _ _ _ _ _ _)⟩, HB0⟩
  case round =>
    obtain ⟨k, rfl, hk, HT, HB1⟩ := hrel
    by_cases hlt : k < l.length
    · obtain ⟨ad, rfl⟩ : ∃ ad, A = some ad := by
        rcases HRD.out.1 with h | h
        · subst h; simp at hlt
        · exact h
      obtain ⟨hc0, hc1, hc2⟩ := HRD.out.2 ad rfl k hlt
      replace hc0 := (HB1.out.cell (World.block_lt_of_cell? w _ hc0)).trans hc0
      replace hc1 := (HB1.out.cell (World.block_lt_of_cell? w _ hc1)).trans hc1
      replace hc2 := (HB1.out.cell (World.block_lt_of_cell? w _ hc2)).trans hc2
      have HSN := Aside0.mk (whyOf_snoc l (why0 d) k hlt)
      have iK : (k : Int) < (l.length : Int) := by omega
      generalize l[k] = c at *
      obtain ⟨gb, hgb0⟩ : ∃ gb, gb = wr.heap.size := ⟨_, rfl⟩
      have HGB := Aside0.mk hgb0
      clear hgb0
      have HK0 := Aside0.mk (heap_alloc_new wr (.cells #[.string c.f0, .int .i64 c.f1, .int .i64 c.f2] 31 (0, 0)))
      go_wp2_with fail
      refine (L_Good.calls c.f0 _ _ (HT.out.laid.alloc _) rfl).mono ?_
      rintro en w2 ⟨rfl, hb⟩
      have HT2 := Aside0.mk ((HT.out.below (below_alloc (Below.refl _ _) _)).below hb)
      have HK2 := Aside0.mk ((hb.block _ (blk_lt HK0.out)).trans HK0.out)
      have HB2 := Aside0.mk (below_step (below_step HB1.out (below_alloc (Below.refl _ _) _)) hb)
      have hgb := HGB.out
      rw [← hgb] at HK2 ⊢
      clear hb hc0 hc1 hc2 hgb
      by_cases hg : goodName c.f0 = true
      · have HGD := Aside0.mk hg
        rw [hg]
        clear hg
        have hbx2 : w2.cell? ⟨w1.heap.size, 0, none⟩ = some (.pointer (some ⟨w.heap.size, 0, none⟩)) := blk_cell HT2.out.box 0
        have hd2 : w2.cell? ⟨gb, 1, none⟩ = some (.int .i64 c.f1) := blk_cell HK2.out 1
        have he2 : w2.cell? ⟨gb, 2, none⟩ = some (.int .i64 c.f2) := blk_cell HK2.out 2
        by_cases hn1 : c.f1 < 0
        · have hn1' : decide (c.f1 < 0) = true := decide_eq_true hn1
          have HN1 := Aside0.mk hn1
          clear hn1
          go_wp2_with fail
          refine (HT2.out.sh.fail 10).mono ?_
          rintro en w3 ⟨rfl, hs, hk, hb⟩
          have HT3 := Aside0.mk (HT2.out.step H16.out hs hk hb)
          have HK3 := Aside0.mk (hk.keep _ _ _ HK2.out (by decide) (by decide))
          have HB3 := Aside0.mk (HB2.out.trans hb)
          clear hs hk hb
          go_wp2_with fail
          go_roundw
          case rel => exact ⟨k + 1, by go_num, hlt, ⟨(show _ = whyOf (l.take (k + 1)) (why0 d) by rw [HSN.out, whyCol, if_pos HGD.out, if_pos (.inl HN1.out)]) ▸ HT3.out⟩, HB3⟩
          case measure => simp [RowKit.intOf]; omega
        · have hn1' : decide (c.f1 < 0) = false := decide_eq_false hn1
          have HN1 := Aside0.mk hn1
          clear hn1
          by_cases hn2 : c.f2 < 0
          · have hn2' : decide (c.f2 < 0) = true := decide_eq_true hn2
            have HN2 := Aside0.mk hn2
            clear hn2
            go_wp2_with fail
            refine (HT2.out.sh.fail 10).mono ?_
            rintro en w3 ⟨rfl, hs, hk, hb⟩
            have HT3 := Aside0.mk (HT2.out.step H16.out hs hk hb)
            have HK3 := Aside0.mk (hk.keep _ _ _ HK2.out (by decide) (by decide))
            have HB3 := Aside0.mk (HB2.out.trans hb)
            clear hs hk hb
            go_wp2_with fail
            go_roundw
            case rel => exact ⟨k + 1, by go_num, hlt, ⟨(show _ = whyOf (l.take (k + 1)) (why0 d) by rw [HSN.out, whyCol, if_pos HGD.out, if_pos (.inr HN2.out)]) ▸ HT3.out⟩, HB3⟩
            case measure => simp [RowKit.intOf]; omega
          · have hn2' : decide (c.f2 < 0) = false := decide_eq_false hn2
            have HN2 := Aside0.mk hn2
            clear hn2
            go_wp2_with fail
            go_roundw
            case rel => exact ⟨k + 1, by go_num, hlt, ⟨(show _ = whyOf (l.take (k + 1)) (why0 d) by rw [HSN.out, whyCol, if_pos HGD.out, if_neg (fun h => by have := HN1.out; have := HN2.out; omega)]) ▸ HT2.out⟩, HB2⟩
            case measure => simp [RowKit.intOf]; omega
      · have hg' : goodName c.f0 = false := by simpa using hg
        have HGD := Aside0.mk hg
        rw [hg']
        clear hg hg'
        have hbx2 : w2.cell? ⟨w1.heap.size, 0, none⟩ = some (.pointer (some ⟨w.heap.size, 0, none⟩)) := blk_cell HT2.out.box 0
        have hd2 : w2.cell? ⟨gb, 1, none⟩ = some (.int .i64 c.f1) := blk_cell HK2.out 1
        have he2 : w2.cell? ⟨gb, 2, none⟩ = some (.int .i64 c.f2) := blk_cell HK2.out 2
        go_wp2_with fail
        refine (HT2.out.sh.fail 60).mono ?_
        rintro en w3 ⟨rfl, hs, hk, hb⟩
        have HT3 := Aside0.mk (HT2.out.step H16.out hs hk hb)
        have HK3 := Aside0.mk (hk.keep _ _ _ HK2.out (by decide) (by decide))
        have HB3 := Aside0.mk (HB2.out.trans hb)
        clear hs hk hb
        have hbx3 : w3.cell? ⟨w1.heap.size, 0, none⟩ = some (.pointer (some ⟨w.heap.size, 0, none⟩)) := blk_cell HT3.out.box 0
        have hd3 : w3.cell? ⟨gb, 1, none⟩ = some (.int .i64 c.f1) := blk_cell HK3.out 1
        have he3 : w3.cell? ⟨gb, 2, none⟩ = some (.int .i64 c.f2) := blk_cell HK3.out 2
        by_cases hn1 : c.f1 < 0
        · have hn1' : decide (c.f1 < 0) = true := decide_eq_true hn1
          have HN1 := Aside0.mk hn1
          clear hn1
          go_wp2_with fail
          refine (HT3.out.sh.fail 10).mono ?_
          rintro en w4 ⟨rfl, hs, hk, hb⟩
          have HT4 := Aside0.mk (HT3.out.step H16.out hs hk hb)
          have HK4 := Aside0.mk (hk.keep _ _ _ HK3.out (by decide) (by decide))
          have HB4 := Aside0.mk (HB3.out.trans hb)
          clear hs hk hb
          go_wp2_with fail
          go_roundw
          case rel => exact ⟨k + 1, by go_num, hlt, ⟨(show _ = whyOf (l.take (k + 1)) (why0 d) by rw [HSN.out, whyCol, if_neg HGD.out, if_pos (.inl HN1.out)]) ▸ HT4.out⟩, HB4⟩
          case measure => simp [RowKit.intOf]; omega
        · have hn1' : decide (c.f1 < 0) = false := decide_eq_false hn1
          have HN1 := Aside0.mk hn1
          clear hn1
          by_cases hn2 : c.f2 < 0
          · have hn2' : decide (c.f2 < 0) = true := decide_eq_true hn2
            have HN2 := Aside0.mk hn2
            clear hn2
            go_wp2_with fail
            refine (HT3.out.sh.fail 10).mono ?_
            rintro en w4 ⟨rfl, hs, hk, hb⟩
            have HT4 := Aside0.mk (HT3.out.step H16.out hs hk hb)
            have HK4 := Aside0.mk (hk.keep _ _ _ HK3.out (by decide) (by decide))
            have HB4 := Aside0.mk (HB3.out.trans hb)
            clear hs hk hb
            go_wp2_with fail
            go_roundw
            case rel => exact ⟨k + 1, by go_num, hlt, ⟨(show _ = whyOf (l.take (k + 1)) (why0 d) by rw [HSN.out, whyCol, if_neg HGD.out, if_pos (.inr HN2.out)]) ▸ HT4.out⟩, HB4⟩
            case measure => simp [RowKit.intOf]; omega
          · have hn2' : decide (c.f2 < 0) = false := decide_eq_false hn2
            have HN2 := Aside0.mk hn2
            clear hn2
            go_wp2_with fail
            go_roundw
            case rel => exact ⟨k + 1, by go_num, hlt, ⟨(show _ = whyOf (l.take (k + 1)) (why0 d) by rw [HSN.out, whyCol, if_neg HGD.out, if_neg (fun h => by have := HN1.out; have := HN2.out; omega)]) ▸ HT3.out⟩, HB3⟩
            case measure => simp [RowKit.intOf]; omega
    · have hk' : k = l.length := by omega
      subst hk'
      rw [List.take_length] at HT
      generalize whyOf l (why0 d) = y1 at *
      go_wp2_with fail
      clear HS0 HB0 HS HB
      obtain ⟨W2, hW2⟩ : ∃ x, x = wr := ⟨_, rfl⟩
      clear hW2
      go_loopw [9, 10, 45] (fun v9 v10 v wr => ∃ k : Nat, v = .int .i64 k ∧ k ≤ l.length ∧ Aside0 (Kd.R (Kd.int .i64) 2 wr w.heap.size (fun b => some b ≠ v10.ownBlock) v9 (debits (l.take k))) ∧ Aside0 (Kd.R (Kd.int .i64) 2 wr w.heap.size (fun b => some b ≠ v9.ownBlock) v10 (credits (l.take k))) ∧ Aside0 (St wr w.heap.size w.heap.size w1.heap.size d y1 []) ∧ Aside0 (Below w.heap.size w wr)) (fun _ _ v _ => l.length - (RowKit.intOf v).toNat)
      case atStart => exact ⟨0, rfl, Nat.zero_le _, ⟨Kd.R_nil _ _ _ _ _⟩, ⟨Kd.R_nil _ _ _ _ _⟩, HT, HB1⟩
      case round =>
        obtain ⟨k, rfl, hk, HD, HE, HT, HB1⟩ := hrel
        by_cases hlt : k < l.length
        · obtain ⟨ad, rfl⟩ : ∃ ad, A = some ad := by
            rcases HRD.out.1 with h | h
            · subst h; simp at hlt
            · exact h
          obtain ⟨hc0, hc1, hc2⟩ := HRD.out.2 ad rfl k hlt
          replace hc0 := (HB1.out.cell (World.block_lt_of_cell? w _ hc0)).trans hc0
          replace hc1 := (HB1.out.cell (World.block_lt_of_cell? w _ hc1)).trans hc1
          replace hc2 := (HB1.out.cell (World.block_lt_of_cell? w _ hc2)).trans hc2
          have HDS := Aside0.mk (debits_snoc l k hlt)
          have HES := Aside0.mk (credits_snoc l k hlt)
          have hld : (debits (l.take k)).length = k := by simp [debits]; omega
          have hle : (credits (l.take k)).length = k := by simp [credits]; omega
          have HLD := Aside0.mk hld
          have HLE := Aside0.mk hle
          clear hld hle
          have iK : (k : Int) < (l.length : Int) := by omega
          generalize l[k] = c at *
          have HP0 := Aside0.mk (Two.mk (gb := wr.heap.size) (c := c) (W := wr.alloc (.cells #[.string c.f0, .int .i64 c.f1, .int .i64 c.f2] 31 (0, 0))) (Kd.R_alloc HD.out _) (Kd.R_alloc HE.out _) (HT.out.below (below_alloc (Below.refl _ _) _)) (heap_alloc_new _ _) (below_step HB1.out (below_alloc (Below.refl _ _) _)))
          clear HD HE HT HB1
          go_wp2_with fail
          generalize wr.alloc (.cells #[.string c.f0, .int .i64 c.f1, .int .i64 c.f2] 31 (0, 0)) = wc at *
          obtain ⟨xs, hxs⟩ : ∃ x, x = debits (l.take k) := ⟨_, rfl⟩
          obtain ⟨ys, hys⟩ : ∃ x, x = credits (l.take k) := ⟨_, rfl⟩
          rw [← hxs] at HP0 HDS HLD
          rw [← hys] at HP0 HES HLE
          have HXS := Aside0.mk hxs
          have hlx : xs.length ≤ 1048576 := by have := HLD.out; have := HN.out; omega
          have hly : ys.length ≤ 1048576 := by have := HLE.out; have := HN.out; omega
          have HLX := Aside0.mk hlx
          have HLY := Aside0.mk hly
          clear hlx hly
          have HYS := Aside0.mk hys
          clear hxs hys hc0 hc1 hc2
          generalize wr.heap.size = gb at *
          have cd : wc.cell? ⟨gb, 1, none⟩ = some (.int .i64 c.f1) := blk_cell HP0.out.blk 1
          have ce : wc.cell? ⟨gb, 2, none⟩ = some (.int .i64 c.f2) := blk_cell HP0.out.blk 2
          go_region_held3 (fun w' => w'.cell? ⟨gb, 1, none⟩ = some (.int .i64 c.f1) ∧ w'.cell? ⟨gb, 2, none⟩ = some (.int .i64 c.f2))
            (first | (exact Two.at1 HQ1) | (exact Two.at1 HP1) | (exact Two.at1 HP0.out.drew) | (exact Two.at1 (HQ1.alloc _)) | (exact Two.at1 (HP1.alloc _)) | (exact Two.at1 (HP0.out.drew.alloc _)) | (exact Two.at1 ((HP0.out.drew.alloc _).alloc _)))
            (first
              | (refine Two.step9 (HP0.out.drew.alloc _) (Lone.new' HP0.out.drew rfl) H16.out (.tmp 49) (.tmp 53) rfl rfl rfl rfl HLX.out ?_; intro v1 w3 HP1 HM1)
              | (refine Two.step9 ((HP0.out.drew.alloc _).alloc _) (Lone.alloc (Lone.new' HP0.out.drew rfl) _) H16.out (.tmp 49) (.tmp 53) rfl rfl rfl rfl HLX.out ?_; intro v1 w3 HP1 HM1)
              | (refine Two.step9 (HQ1.alloc _) (Lone.new' HQ1 rfl) H16.out (.tmp 49) (.tmp 53) rfl rfl rfl rfl HLX.out ?_; intro v1 w3 HP1 HM1)
              | (refine Two.step9 HQ1 (HM2 _ _ (Lone.alloc (Lone.new' HP0.out.drew rfl) _)) H16.out (.tmp 49) (.tmp 53) rfl rfl rfl rfl HLX.out ?_; intro v1 w3 HP1 HM1)
              | (refine Two.step9 ((HP0.out.drew.alloc _).alloc _) (Lone.new' (HP0.out.drew.alloc _) rfl) H16.out (.tmp 49) (.tmp 53) rfl rfl rfl rfl HLX.out ?_; intro v1 w3 HP1 HM1)
              | (refine Two.step9 HQ1 (HM2 _ _ (Lone.new' (HP0.out.drew.alloc _) rfl)) H16.out (.tmp 49) (.tmp 53) rfl rfl rfl rfl HLX.out ?_; intro v1 w3 HP1 HM1)
              | (refine Two.step9 ((HP0.out.drew.alloc _).alloc _) (Lone.new' (HP0.out.drew.alloc _) sz1) H16.out (.tmp 49) (.tmp 53) rfl rfl rfl rfl HLX.out ?_; intro v1 w3 HP1 HM1)
              | (refine Two.step9 HQ1 (HM2 _ _ (Lone.new' (HP0.out.drew.alloc _) sz1)) H16.out (.tmp 49) (.tmp 53) rfl rfl rfl rfl HLX.out ?_; intro v1 w3 HP1 HM1)
              | (refine Two.step10 (HP0.out.drew.alloc _) (Lone.new' HP0.out.drew rfl) H16.out (.tmp 55) (.tmp 59) rfl rfl rfl rfl HLY.out ?_; intro v2 w4 HQ1 HM2)
              | (refine Two.step10 ((HP0.out.drew.alloc _).alloc _) (Lone.alloc (Lone.new' HP0.out.drew rfl) _) H16.out (.tmp 55) (.tmp 59) rfl rfl rfl rfl HLY.out ?_; intro v2 w4 HQ1 HM2)
              | (refine Two.step10 (HP1.alloc _) (Lone.new' HP1 rfl) H16.out (.tmp 55) (.tmp 59) rfl rfl rfl rfl HLY.out ?_; intro v2 w4 HQ1 HM2)
              | (refine Two.step10 HP1 (HM1 _ _ (Lone.alloc (Lone.new' HP0.out.drew rfl) _)) H16.out (.tmp 55) (.tmp 59) rfl rfl rfl rfl HLY.out ?_; intro v2 w4 HQ1 HM2)
              | (refine Two.step10 ((HP0.out.drew.alloc _).alloc _) (Lone.new' (HP0.out.drew.alloc _) rfl) H16.out (.tmp 55) (.tmp 59) rfl rfl rfl rfl HLY.out ?_; intro v2 w4 HQ1 HM2)
              | (refine Two.step10 HP1 (HM1 _ _ (Lone.new' (HP0.out.drew.alloc _) rfl)) H16.out (.tmp 55) (.tmp 59) rfl rfl rfl rfl HLY.out ?_; intro v2 w4 HQ1 HM2)
              | (refine Two.step10 ((HP0.out.drew.alloc _).alloc _) (Lone.new' (HP0.out.drew.alloc _) sz1) H16.out (.tmp 55) (.tmp 59) rfl rfl rfl rfl HLY.out ?_; intro v2 w4 HQ1 HM2)
              | (refine Two.step10 HP1 (HM1 _ _ (Lone.new' (HP0.out.drew.alloc _) sz1)) H16.out (.tmp 55) (.tmp 59) rfl rfl rfl rfl HLY.out ?_; intro v2 w4 HQ1 HM2))
          all_goals (
            go_wp2_with fail
            go_roundw
            case measure => simp [RowKit.intOf]; omega
            case rel =>
              refine ⟨k + 1, ?_, hlt, ?_⟩
              · go_num
              · rw [HDS.out, HES.out]
                first | exact ⟨⟨HQ1.r9⟩, ⟨HQ1.r10⟩, ⟨HQ1.st⟩, ⟨HQ1.bel⟩⟩ | exact ⟨⟨HP1.r9⟩, ⟨HP1.r10⟩, ⟨HP1.st⟩, ⟨HP1.bel⟩⟩)
        · have hk' : k = l.length := by omega
          subst hk'
          rw [List.take_length] at HD HE
          have HTT := Aside0.mk (Tot.mk (Kd.R_mono HD.out (fun _ _ => trivial)) (Kd.R_mono HE.out (fun _ _ => trivial)) HT.out HB1.out)
          obtain ⟨A9, c9, e9⟩ := Kd.R_slice HTT.out.r9
          subst e9
          obtain ⟨A10, c10, e10⟩ := Kd.R_slice HTT.out.r10
          subst e10
          clear HD HE HT HB1
          generalize (debits l).length = n9 at *
          generalize (credits l).length = n10 at *
          have hbx := HTT.out.at0
          go_wp2_with fail
          go_region_held3 (fun w' => w'.cell? ⟨w1.heap.size, 0, none⟩ = some (.pointer (some ⟨w.heap.size, 0, none⟩)))
            (first | (exact HV1.at0) | (exact HU1.at0) | (exact HTT.out.drew.at0))
            (first
              | (go_at_call 40; refine (Tot.total10 HU1 H16.out HSB.out).mono ?_; rintro en w6 ⟨rfl, HV1⟩)
              | (go_at_call 40; refine (Tot.total9 HTT.out.drew H16.out HSA.out).mono ?_; rintro en w5 ⟨rfl, HU1⟩))
          rw [HY2.out] at HV1
          have HV := Aside0.mk HV1
          clear HV1 HU1 HTT hbx HSA HSB HY2
          have hw6 : w6.cell? ⟨w.heap.size, 1, none⟩ = some (.int .i64 y2) := by
            obtain ⟨vr, q1, q2⟩ := HV.out.st.sh.ex
            exact blk_cell q1 1
          have hbx6 := HV.out.at0
          by_cases hy : y2 = 0
          · subst hy
            obtain ⟨hd0, hd1, hcs, hpa, hpb, hgf, hT, hz⟩ := HTWO.out rfl
            subst hT hz
            have HD0 := Aside0.mk hd0
            have HD1 := Aside0.mk hd1
            have HCS := Aside0.mk hcs
            have HPA := Aside0.mk hpa
            have HPB := Aside0.mk hpb
            have HGF := Aside0.mk hgf
            have HF := Aside0.mk (Fin3.mk HV.out.st HV.out.bel)
            clear hd0 hd1 hcs hpa hpb hgf HTWO HONE HV
            go_wp2_with fail
            refine (HF.out.row H16.out _ _ _ (by simp)).mono ?_
            rintro en w7 ⟨rfl, hf⟩
            have HF7 := Aside0.mk hf
            clear hf hw6 hbx6 HF
            go_wp2_with fail
            go_loopw [83] (fun v wr => ∃ k : Nat, v = .int .i64 k ∧ k ≤ l.length ∧ Aside0 (Fin3 w w1.heap.size d ([head3] ++ (l.take k).map (trialRow d.toNat)) wr)) (fun v _ => l.length - (RowKit.intOf v).toNat)
            case atStart => exact ⟨0, rfl, Nat.zero_le _, HF7⟩
            case round =>
              obtain ⟨k, rfl, hk, HF⟩ := hrel
              by_cases hlt : k < l.length
              · obtain ⟨ad, rfl⟩ : ∃ ad, A = some ad := by
                  rcases HRD.out.1 with h | h
                  · subst h; simp at hlt
                  · exact h
                obtain ⟨hc0, hc1, hc2⟩ := HRD.out.2 ad rfl k hlt
                replace hc0 := (HF.out.bel.cell (World.block_lt_of_cell? w _ hc0)).trans hc0
                replace hc1 := (HF.out.bel.cell (World.block_lt_of_cell? w _ hc1)).trans hc1
                replace hc2 := (HF.out.bel.cell (World.block_lt_of_cell? w _ hc2)).trans hc2
                have HRS := Aside0.mk (rows_snoc l d.toNat k hlt)
                have hrl : ([head3] ++ (l.take k).map (trialRow d.toNat)).length ≤ 1048577 := by have := HN.out; simp; omega
                have hb4 := HCS.out l[k] (List.getElem_mem hlt)
                have iK : (k : Int) < (l.length : Int) := by omega
                generalize l[k] = c at *
                have HRL := Aside0.mk hrl
                have HB4 := Aside0.mk hb4
                have HR0 := Aside0.mk (Rnd.mk (gb := wr.heap.size) (c := c) (W := wr.alloc (.cells #[.string c.f0, .int .i64 c.f1, .int .i64 c.f2] 31 (0, 0))) (HF.out.alloc _).st (heap_alloc_new _ _) (HF.out.alloc _).bel)
                clear hrl hb4 HF
                go_wp2_with fail
                generalize wr.alloc (.cells #[.string c.f0, .int .i64 c.f1, .int .i64 c.f2] 31 (0, 0)) = wc at *
                clear hc0 hc1 hc2
                generalize wr.heap.size = gb at *
                generalize [head3] ++ (l.take k).map (trialRow d.toNat) = rows at *
                go_region_held3 (fun w' => w'.cell? ⟨w1.heap.size, 0, none⟩ = some (.pointer (some ⟨w.heap.size, 0, none⟩)) ∧ w'.cell? ⟨gb, 0, none⟩ = some (.string c.f0) ∧ w'.cell? ⟨gb, 1, none⟩ = some (.int .i64 c.f1) ∧ w'.cell? ⟨gb, 2, none⟩ = some (.int .i64 c.f2))
                  (first | (exact HX3.at4) | (exact (HX2.alloc _).at4) | (exact HX2.at4) | (exact HX1.at4) | (exact HR0.out.drew.at4))
                  (first
                    | (go_at_call 43; refine (HX2.row H16.out _ _ _ HRL.out).mono ?_; rintro en w10 ⟨rfl, HX3⟩)
                    | (go_at_call 41; refine (HX1.side H16.out HD0.out HD1.out c.f2 HB4.out.2.1 HB4.out.2.2).mono ?_; rintro en w9 ⟨rfl, HX2⟩)
                    | (go_at_call 41; refine (HR0.out.drew.side H16.out HD0.out HD1.out c.f1 HB4.out.1.1 HB4.out.1.2).mono ?_; rintro en w8 ⟨rfl, HX1⟩))
                go_wp2_with fail
                go_roundw
                case rel => exact ⟨k + 1, by go_num, hlt, ⟨by rw [HRS.out]; exact ⟨HX3.st, HX3.bel⟩⟩⟩
                case measure => simp [RowKit.intOf]; omega
              · have hk' : k = l.length := by omega
                subst hk'
                rw [List.take_length] at HF
                have hbx := HF.out.at0
                have hlr : ([head3] ++ l.map (trialRow d.toNat)).length ≤ 1048577 := by have := HN.out; simp; omega
                have HLR := Aside0.mk hlr
                clear hlr
                obtain ⟨ta, hta⟩ : ∃ x, moneyText sa d.toNat = x := ⟨_, rfl⟩
                obtain ⟨tb, htb⟩ : ∃ x, moneyText sb d.toNat = x := ⟨_, rfl⟩
                rw [hta] at HPA
                rw [htb] at HPB
                have HTA := Aside0.mk hta
                have HTB := Aside0.mk htb
                clear hta htb
                go_wp2_with fail
                go_region_held3 (fun w' => w'.cell? ⟨w1.heap.size, 0, none⟩ = some (.pointer (some ⟨w.heap.size, 0, none⟩)))
                  (first | (exact HX3.at0) | (exact (HX2.alloc _).at0) | (exact HX2.at0) | (exact HX1.at0) | (exact HF.out.drew.at0))
                  (first
                    | (go_at_call 43; refine (HX2.row H16.out _ _ _ HLR.out).mono ?_; rintro en w10 ⟨rfl, HX3⟩)
                    | (go_at_call 42; refine (HX1.amount H16.out HPB.out).mono ?_; rintro en w9 ⟨rfl, HX2⟩)
                    | (go_at_call 42; refine (HF.out.drew.amount H16.out HPA.out).mono ?_; rintro en w8 ⟨rfl, HX1⟩))
                have HX := Aside0.mk HX3
                clear HX1 HX2 HX3 hbx
                have hbx := HX.out.at0
                go_wp2_with fail
                have hgf2 : GridFits fromOne (([head3] ++ l.map (trialRow d.toNat)) ++ [[⟨#[83, 117, 109]⟩, ta, tb]]) := by
                  have := HGF.out
                  rw [trialRows, HTA.out, HTB.out] at this
                  exact this
                have HG2 := Aside0.mk hgf2
                clear hgf2
                refine (end_calls HX.out.st HG2.out).mono ?_
                rintro en w11 ⟨rfl, hb⟩
                have HB := Aside0.mk (below_step HX.out.bel hb)
                clear hb
                go_wp2_with fail
                go_ret2
                exact ⟨by rw [trialRows, HTA.out, HTB.out]; rfl, HB.out⟩

          · have hy' : (y2 == 0) = false := beq_eq_false_iff_ne.2 hy
            obtain ⟨hT, hz⟩ := HONE.out hy
            subst hT hz
            clear HTWO HONE hy
            go_wp2_with fail
            go_quiet (fail)
            go_wp2_with fail
            go_ret2
            exact ⟨rfl, by repeat (first | exact HV.out.bel | apply pw_below_drewN | apply below_drew)⟩

end Go.Proofs.YtmimninicegjcaaGreatDoor

