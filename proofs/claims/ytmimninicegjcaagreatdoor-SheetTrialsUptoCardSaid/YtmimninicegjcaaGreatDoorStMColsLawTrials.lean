/- Part of the proof of RowTrials: Cols, LawTrials. -/
import Derived.Test.YtmimninicegjcaaGreatDoorStQT2
import Derived.Test.YtmimninicegjcaaGreatDoorStQT6
import Derived.Test.YtmimninicegjcaaGreatDoorStQT9
import Derived.Test.YtmimninicegjcaaGreatDoorStTrialC
/- A row of columns with one written over. -/
namespace Go.Proofs.YtmimninicegjcaaGreatDoor
open Go.RowKit Go.Shelf Go.Lib Go.Proofs.YtmimninicegjcaaGreatDoorW.PrintWords
set_option linter.unusedVariables false
theorem mkz (j : Nat) (g : Nat) : (⟨g, 0, none⟩ : Addr).add j = ⟨g, j, none⟩ := by unfold Addr.add; split <;> simp_all
theorem cell_put3 {W : World} {g i : Nat} {a b c u : Value} (o : Nat) (h : W.cell? ⟨g, i, none⟩ = some u) (hne : i ≠ o ∧ i ≠ o + 1 ∧ i ≠ o + 2) :
    (((W.setCell ⟨g, o, none⟩ a).setCell ⟨g, o + 1, none⟩ b).setCell ⟨g, o + 2, none⟩ c).cell? ⟨g, i, none⟩ = some u := by
  have hd : ∀ m : Nat, i ≠ m → (⟨g, m, none⟩ : Addr) ≠ ⟨g, i, none⟩ := fun m hm he => hm (by injection he with _ h2; exact h2.symm)
  rw [World.cell?_setCell_other _ _ _ _ (hd _ hne.2.2), World.cell?_setCell_other _ _ _ _ (hd _ hne.2.1), World.cell?_setCell_other _ _ _ _ (hd _ hne.1)]
  exact h
theorem cols_put {W : World} {g t : Nat} {cur : Array Value} {xs : List Col} {j : Nat} (hj : j < xs.length) (x : Col) (hb : W.heap[g]? = some (.cells cur t (0, 0))) (h : Kd.C QT.k31 W (some ⟨g, 0, none⟩) xs.length xs) :
    Kd.C QT.k31 (((W.setCell ⟨g, j * 3, none⟩ (.string x.f0)).setCell ⟨g, j * 3 + 1, none⟩ (.int .i64 x.f1)).setCell ⟨g, j * 3 + 2, none⟩ (.int .i64 x.f2)) (some ⟨g, 0, none⟩) (xs.set j x).length (xs.set j x) := by
  obtain ⟨h1, h2, h3⟩ := h
  have hsz : j * 3 + 3 ≤ cur.size := by
    obtain ⟨ad, e, hc⟩ := h3 (by omega)
    obtain rfl := Option.some.inj e
    obtain ⟨c, hl, hk, hcell⟩ := hc j _ (List.getElem?_eq_getElem hj)
    have hl3 : c.length = 3 := hl
    have := hcell 2 c[2] (List.getElem?_eq_getElem (by omega))
    rw [mkz] at this
    have e2 := (blk_cell hb (j * 3 + 2)).symm.trans (show W.cell? ⟨g, j * 3 + 2, none⟩ = _ from this)
    have := (Array.getElem?_eq_some_iff.1 e2).1
    omega
  refine ⟨rfl, by rw [List.length_set]; exact h2, fun hp => ⟨_, rfl, fun i p hip => ?_⟩⟩
  have hil : i < (xs.set j x).length := (List.getElem?_eq_some_iff.1 hip).1
  rw [List.length_set] at hil
  by_cases hij : i = j
  · subst hij
    rw [List.getElem?_set_self hj] at hip
    obtain rfl := Option.some.inj hip
    refine ⟨[.string x.f0, .int .i64 x.f1, .int .i64 x.f2], rfl, QT.k31_mk _ x, fun m u hm => ?_⟩
    rw [mkz]
    have hbb := blk_set (blk_set (blk_set hb (i * 3) (.string x.f0)) (i * 3 + 1) (.int .i64 x.f1)) (i * 3 + 2) (.int .i64 x.f2)
    have hm3 : m < 3 := (List.getElem?_eq_some_iff.1 hm).1
    refine (blk_cell hbb (i * 3 + m)).trans ?_
    have : m = 0 ∨ m = 1 ∨ m = 2 := by omega
    rcases this with rfl | rfl | rfl
    · rw [← hm, Array.getElem?_setIfInBounds_ne (by omega), Array.getElem?_setIfInBounds_ne (by omega)]
      rw [show i * 3 + 0 = i * 3 from rfl, Array.getElem?_setIfInBounds_self_of_lt (by omega)]
      rfl
    · rw [← hm, Array.getElem?_setIfInBounds_ne (by omega), Array.getElem?_setIfInBounds_self_of_lt (by rw [Array.size_setIfInBounds]; omega)]
      rfl
    · rw [← hm, Array.getElem?_setIfInBounds_self_of_lt (by rw [Array.size_setIfInBounds, Array.size_setIfInBounds]; omega)]
      rfl
  · rw [List.getElem?_set_ne (Ne.symm hij)] at hip
    obtain ⟨ad, e, hc⟩ := h3 (by omega)
    obtain rfl := Option.some.inj e
    obtain ⟨c, hl, hk, hcell⟩ := hc i p hip
    have hl3 : c.length = 3 := hl
    have hk2 := QT.k31_open hk
    refine ⟨c, hl, by rw [hk2]; exact QT.k31_mk _ p, fun m u hm => ?_⟩
    have hm3 : m < 3 := by rw [← hl3]; exact (List.getElem?_eq_some_iff.1 hm).1
    have h4 := hcell m u hm
    rw [mkz] at h4 ⊢
    have hs3 : QT.k31.sz = 3 := rfl
    rw [hs3] at h4 ⊢
    exact cell_put3 (j * 3) h4 ⟨by omega, by omega, by omega⟩
end Go.Proofs.YtmimninicegjcaaGreatDoor
/- The walk of SheetTrials, over what its callees compute. -/
namespace Go.Proofs.YtmimninicegjcaaGreatDoor
open Go.RowKit Go.Shelf Go.Lib Go.Proofs.YtmimninicegjcaaGreatDoorW.PrintWords Go.Proofs.YtmimninicegjcaaGreatDoorW.PrintLast Go.Proofs.YtmimninicegjcaaGreatDoorW.PrintMore
set_option linter.unusedVariables false
set_option linter.unusedSimpArgs false
set_option maxRecDepth 100000 in
set_option maxHeartbeats 4000000 in
/-- Of a copy and a list: KeptColumns says that it is kept. -/
def KeptOk (c l : List Col) : Prop := ∀ (W : World) (A0 : Option Addr) (c0 : Nat) (A1 : Option Addr) (c1 : Nat), Kd.C QT.k31 W A0 c.length c → c.length ≤ c0 → Kd.C QT.k31 W A1 l.length l → l.length ≤ c1 → Laid W →
    Calls Tryz.prog 13 #[.slice A0 c.length c0, .slice A1 l.length c1] W fun e_ w' => e_ = .returned (.bool true) ∧ Below W.heap.size W w'
theorem law_walk (k : Nat) (A : Option Addr) (cp : Nat) (l rm now : List Col) (d : Int) (w : World) (hr : Kd.C QT.k31 w A l.length l) (hc : l.length ≤ cp) (hL : Laid w) (hn : l.length ≤ 1048576)
    (s : ByteArray) (e : Int) (s2 : ByteArray) (e2 : Int)
    (hroom : QT.daybookkeep_RoomColumns.f k l = some rm) (htake : rm.take l.length = l) (hlen : l.length < rm.length)
    (hT : H_Trial.f l d = some (s, e)) (hR : QT.daybookref17_Trial.f k l d = some (s, e)) (hlk : QT.daybooklaw17_like.f s e s e = some true)
    (hK : KeptOk rm l) (hF : QT.daybooklaw17_first.f = some true)
    (hnow : now = if 0 < l.length then l.set (l.length / 2) ⟨⟨#[90, 122]⟩, 3, 0⟩ else l)
    (hT2 : H_Trial.f now d = some (s2, e2)) (hR2 : QT.daybookref17_Trial.f k now d = some (s2, e2)) (hlk2 : QT.daybooklaw17_like.f s2 e2 s2 e2 = some true)
    (hK2 : KeptOk (if 0 < l.length then rm.set (l.length / 2) ⟨⟨#[90, 122]⟩, 3, 0⟩ else rm) now) :
    Calls Tryz.prog 3 #[.slice A l.length cp, .int .i64 d] w fun en w' => en = .returned (.bool true) ∧ Below w.heap.size w w' := by
  have HR := Aside0.mk hr
  have HC := Aside0.mk hc
  have HL := Aside0.mk hL
  have HN := Aside0.mk hn
  have HROOM := Aside0.mk hroom
  have HTAKE := Aside0.mk htake
  have HLEN := Aside0.mk hlen
  have HT := Aside0.mk hT
  have HRT := Aside0.mk hR
  have HLK := Aside0.mk hlk
  have HK := Aside0.mk hK
  have HF := Aside0.mk hF
  have HNOW := Aside0.mk hnow
  have HT2 := Aside0.mk hT2
  have HRT2 := Aside0.mk hR2
  have HLK2 := Aside0.mk hlk2
  have HK2 := Aside0.mk hK2
  have i0 : (l.length : Int) ≤ 1048576 := by omega
  clear hr hc hL hn hroom htake hlen hT hR hlk hK hF hnow hT2 hR2 hlk2 hK2
  go_enter Tryz.func3, Tryz.ntmps3
  go_wp2_with fail
  refine (QT.daybookkeep_RoomColumns.calls k A cp l rm _ HR.out HC.out HL.out HROOM.out).mono ?_
  rintro en w1 ⟨v0, rfl, ho, hb⟩
  obtain ⟨A5, c5, rfl⟩ := Kd.R_slice ho
  have h5 := Kd.R_reads' ho
  have hform := Kd.R_form ho (by have := HLEN.out; omega)
  obtain ⟨g, cap, he, hg1, hg2, cur, hcur⟩ := hform
  simp only [Value.slice.injEq] at he
  obtain ⟨rfl, -, rfl⟩ := he
  have HC5 := Aside0.mk h5.2.2
  have HCL5 := Aside0.mk h5.2.1
  have HCUR := Aside0.mk hcur
  have HB := Aside0.mk hb
  have HG1 := Aside0.mk hg1
  have HC6 : Aside0 (Kd.C QT.k31 w1 (some ⟨g, 0, none⟩) l.length l) := ⟨by
    have := Kd.C_take h5.2.2 (Nat.le_of_lt HLEN.out)
    rwa [HTAKE.out] at this⟩
  have i1 : (l.length : Int) ≤ (c5 : Int) := by have := HLEN.out; have := h5.2.1; omega
  have HCC : Aside0 (l.length ≤ c5) := ⟨by have := HLEN.out; have := h5.2.1; omega⟩
  clear ho h5 hcur hb hg1 hg2
  go_wp2_with fail
  refine (H_Trial.calls _ c5 l d s e _ HC6.out HCC.out (HL.out.below HB.out) HT.out).mono ?_
  rintro en w2 ⟨rfl, hb2⟩
  have HB2 := Aside0.mk (below_step HB.out hb2)
  have HC52 := Aside0.mk (Kd.C_below HC5.out hb2)
  have HC62 := Aside0.mk (Kd.C_below HC6.out hb2)
  have HCUR2 := Aside0.mk ((hb2.block _ (blk_lt HCUR.out)).trans HCUR.out)
  clear hb2 HC5 HC6 HCUR
  go_wp2_with fail
  refine (QT.daybookref17_Trial.calls k A cp l d s e _ (Kd.C_below HR.out HB2.out) HC.out HRT.out).mono ?_
  rintro en w3 ⟨rfl, hb3⟩
  have HB3 := Aside0.mk (below_step HB2.out hb3)
  have HC53 := Aside0.mk (Kd.C_below HC52.out hb3)
  have HC63 := Aside0.mk (Kd.C_below HC62.out hb3)
  have HCUR3 := Aside0.mk ((hb3.block _ (blk_lt HCUR2.out)).trans HCUR2.out)
  clear hb3 HC52 HC62 HCUR2
  go_wp2_with fail
  refine (QT.daybooklaw17_like.calls s e s e _ _ HLK.out).mono ?_
  rintro en w4 ⟨rfl, n4, rfl⟩
  go_wp2_with fail
  refine (HK.out _ _ c5 A cp (Kd.C_drewN HC53.out _) HCL5.out (Kd.C_below HR.out (pw_below_drewN HB3.out _)) HC.out (HL.out.below (pw_below_drewN HB3.out _))).mono ?_
  rintro en w5 ⟨rfl, hb5⟩
  have HB5 := Aside0.mk (below_step (pw_below_drewN HB3.out _) hb5)
  have HC55 := Aside0.mk (Kd.C_below (Kd.C_drewN HC53.out _) hb5)
  have HC65 := Aside0.mk (Kd.C_below (Kd.C_drewN HC63.out _) hb5)
  have HCUR5 := Aside0.mk ((hb5.block _ (blk_lt HCUR3.out)).trans HCUR3.out)
  clear hb5 HC53 HC63 HCUR3
  go_wp2_with fail
  refine (QT.daybooklaw17_first.calls _ _ (HL.out.below HB5.out) HF.out).mono ?_
  rintro en w6 ⟨rfl, hb6⟩
  have HB6 := Aside0.mk (below_step HB5.out hb6)
  have HC56 := Aside0.mk (Kd.C_below HC55.out hb6)
  have HC66 := Aside0.mk (Kd.C_below HC65.out hb6)
  have HCUR6 := Aside0.mk ((hb6.block _ (blk_lt HCUR5.out)).trans HCUR5.out)
  clear hb6 HC55 HC65 HCUR5
  by_cases hpos : 0 < l.length
  · obtain ⟨j, hjj⟩ : ∃ j, l.length / 2 = j := ⟨_, rfl⟩
    have hnw : now = l.set j ⟨⟨#[90, 122]⟩, 3, 0⟩ := by have := HNOW.out; rwa [if_pos hpos, hjj] at this
    have hk2 := HK2.out
    rw [if_pos hpos, hjj] at hk2
    have hnl : now.length = l.length := by rw [hnw, List.length_set]
    have HNL := Aside0.mk hnl
    have hcl := cols_at HC66.out
    have hj : j < l.length := by omega
    have HT2C : Aside0 (∀ W, Kd.C QT.k31 W (some ⟨g, 0, none⟩) now.length now → Laid W → Calls Tryz.prog 10 #[.slice (some ⟨g, 0, none⟩) l.length c5, .int .i64 d] W fun e_ w' => e_ = .returned (.tuple #[.string s2, .int .i64 e2]) ∧ Below W.heap.size W w') := ⟨fun W h1 h2 => by
      have := H_Trial.calls (some ⟨g, 0, none⟩) c5 now d s2 e2 W h1 (by rw [hnl]; exact HCC.out) h2 HT2.out
      rwa [hnl] at this⟩
    have HK2C : Aside0 (∀ W, Kd.C QT.k31 W (some ⟨g, 0, none⟩) (rm.set (j) ⟨⟨#[90, 122]⟩, 3, 0⟩).length (rm.set (j) ⟨⟨#[90, 122]⟩, 3, 0⟩) → ∀ A8 c8, Kd.C QT.k31 W A8 now.length now → now.length ≤ c8 → Laid W →
        Calls Tryz.prog 13 #[.slice (some ⟨g, 0, none⟩) rm.length c5, .slice A8 now.length c8] W fun e_ w' => e_ = .returned (.bool true) ∧ Below W.heap.size W w') := ⟨fun W h1 A8 c8 h2 h3 h4 => by
      have := hk2 W _ c5 A8 c8 h1 (by rw [List.length_set]; exact HCL5.out) h2 h3 h4
      rwa [List.length_set] at this⟩
    have HCA : Aside0 (Kd.C QT.k31 (((w6.setCell ⟨g, j * 3, none⟩ (.string ⟨#[90, 122]⟩)).setCell ⟨g, j * 3 + 1, none⟩ (.int .i64 3)).setCell ⟨g, j * 3 + 2, none⟩ (.int .i64 0)) (some ⟨g, 0, none⟩) now.length now) := ⟨by
      rw [hnw]; exact cols_put hj ⟨⟨#[90, 122]⟩, 3, 0⟩ HCUR6.out HC66.out⟩
    have HCB := Aside0.mk (cols_put (Nat.lt_trans hj HLEN.out) ⟨⟨#[90, 122]⟩, 3, 0⟩ HCUR6.out HC56.out)
    have HBM : Aside0 (Below w.heap.size w (((w6.setCell ⟨g, j * 3, none⟩ (.string ⟨#[90, 122]⟩)).setCell ⟨g, j * 3 + 1, none⟩ (.int .i64 3)).setCell ⟨g, j * 3 + 2, none⟩ (.int .i64 0))) := ⟨((HB6.out.setCell HG1.out _).setCell HG1.out _).setCell HG1.out _⟩
    obtain ⟨c0, c1, c2⟩ := hcl.2 _ rfl (j) hj
    rw [mkz] at c0 c1 c2
    have f0 := blk_frozen HCUR6.out (j * 3)
    have f1 := blk_frozen HCUR6.out (j * 3 + 1)
    have f2 := blk_frozen HCUR6.out (j * 3 + 2)
    have hp1 : decide ((0 : Int) < (l.length : Int)) = true := decide_eq_true (by omega)
    have hp2 : decide (0 < l.length) = true := decide_eq_true hpos
    have q1 : (l.length : Int).tdiv 2 = (j : Int) := by rw [Int.tdiv_eq_ediv_of_nonneg (by omega)]; omega
    have q2 : (l.length : Int) / 2 = (j : Int) := by omega
    have i2 : (j : Int) < (l.length : Int) := by omega
    have i3 : (0 : Int) ≤ (j : Int) := by omega
    clear hcl hpos hnl hnw hk2 hjj
    go_wp2_with (first
      | ((with_reducible refine gate_dst (N := 55) rfl ?_); refine Kd.R_lit QT.k31 _ 31 ?hg (N := 55) ?hd (xs := ([] : List Col)) (inner := []) (ok := fun _ => True) (okp := fun _ => True) ?hr ?hp (fun _ hk => hk) trivial (Below.refl _ _) (Nat.le_refl _) (by simp) ?_; (case hd => rfl); (case hg => rfl); (case hr => first | (go_simp; done) | (go_simp; rfl)); (case hp => exact (Reps.none _ _)); intro v7 w7 ho7 hb7 hg7 hn7; have HO7 := Aside0.mk ho7; have HB7 := Aside0.mk hb7; have HCA7 := Aside0.mk (Kd.C_below HCA.out hb7); clear ho7 hb7 hg7 hn7)
      | ((with_reducible refine gate_builtin (b := .append) (xs := #[.tmp 55, .tmp 56]) rfl ?_); at_builtin; refine Kd.R_append_rows QT.k31 (w0 := _) _ rfl (.tmp 55) (.tmp 56) 22 31 (.agg #[(.string ⟨#[]⟩), (.int .i64 0), (.int .i64 0)]) 32 rfl Tryz.underlying22 QT.info31 rfl (by decide) (by decide) v7 [] now _ _ _ (fun _ => True) (fun _ => False) rfl rfl HO7.out ?aR (fun _ _ h => h) (fun _ h => h.elim) (fun _ _ => trivial) HB7.out HB7.out.size ?aL ?_; (case aR => first | exact HCA7.out | (have h_ := HCA7.out; rw [HNL.out] at h_; exact h_)); (case aL => (have := HN.out; simp; omega)); intro v8 w8 ho8 hb8 hgr8 hat8; (try rw [List.nil_append] at ho8); have HCA8 := Aside0.mk (Kd.C_below HCA.out hb8); have HCB8 := Aside0.mk (Kd.C_below HCB.out hb8); have HB8 := Aside0.mk (below_step HBM.out hb8); have HO8 := Aside0.mk ho8; obtain ⟨A8, c8, e8⟩ := Kd.R_slice ho8; subst e8; clear ho8 hb8 hgr8 hat8))
    refine (HT2C.out _ HCA8.out (HL.out.below HB8.out)).mono ?_
    rintro en w9 ⟨rfl, hb9⟩
    have HCB9 := Aside0.mk (Kd.C_below HCB8.out hb9)
    have HO9 := Aside0.mk (Kd.R_below HO8.out hb9)
    have HB9 := Aside0.mk (below_step HB8.out hb9)
    clear hb9 HO8 HCA8 HCB8
    go_wp2_with fail
    refine (QT.daybookref17_Trial.calls k A8 c8 now d s2 e2 _ (Kd.R_reads' HO9.out).2.2 (by have h_ := (Kd.R_reads' HO9.out).2.1; exact h_) HRT2.out).mono ?_
    rintro en w10 ⟨rfl, hb10⟩
    have HCB10 := Aside0.mk (Kd.C_below HCB9.out hb10)
    have HO10 := Aside0.mk (Kd.R_below HO9.out hb10)
    have HB10 := Aside0.mk (below_step HB9.out hb10)
    clear hb10 HO9 HCB9
    go_wp2_with fail
    refine (QT.daybooklaw17_like.calls s2 e2 s2 e2 _ _ HLK2.out).mono ?_
    rintro en w11 ⟨rfl, n11, rfl⟩
    go_wp2_with fail
    refine (HK2C.out _ (Kd.C_drewN HCB10.out _) A8 c8 (Kd.C_drewN (Kd.R_reads' HO10.out).2.2 _) (Kd.R_reads' HO10.out).2.1 (HL.out.below (pw_below_drewN HB10.out _))).mono ?_
    rintro en w12 ⟨rfl, hb12⟩
    have HB12 := Aside0.mk (below_step (pw_below_drewN HB10.out _) hb12)
    clear hb12
    go_wp2_with fail
    go_ret
    exact ⟨rfl, HB12.out⟩
  · have hl0 : l = [] := List.length_eq_zero_iff.1 (by omega)
    have hnw : now = l := by have := HNOW.out; rwa [if_neg hpos] at this
    have hk2 := HK2.out
    rw [if_neg hpos] at hk2
    subst hnw
    have HNL := Aside0.mk (rfl : now.length = now.length)
    have HT2C : Aside0 (∀ W, Kd.C QT.k31 W (some ⟨g, 0, none⟩) now.length now → Laid W → Calls Tryz.prog 10 #[.slice (some ⟨g, 0, none⟩) now.length c5, .int .i64 d] W fun e_ w' => e_ = .returned (.tuple #[.string s2, .int .i64 e2]) ∧ Below W.heap.size W w') := ⟨fun W h1 h2 =>
      H_Trial.calls (some ⟨g, 0, none⟩) c5 now d s2 e2 W h1 HCC.out h2 HT2.out⟩
    have HK2C : Aside0 (∀ W, Kd.C QT.k31 W (some ⟨g, 0, none⟩) rm.length rm → ∀ A8 c8, Kd.C QT.k31 W A8 now.length now → now.length ≤ c8 → Laid W →
        Calls Tryz.prog 13 #[.slice (some ⟨g, 0, none⟩) rm.length c5, .slice A8 now.length c8] W fun e_ w' => e_ = .returned (.bool true) ∧ Below W.heap.size W w') := ⟨fun W h1 A8 c8 h2 h3 h4 =>
      hk2 W _ c5 A8 c8 h1 HCL5.out h2 h3 h4⟩
    have HCA := HC66
    have HCB := HC56
    have HBM := HB6
    have hp1 : decide ((0 : Int) < (now.length : Int)) = false := decide_eq_false (by omega)
    have hp2 : decide (0 < now.length) = false := decide_eq_false hpos
    clear hpos hk2 hl0
    go_wp2_with (first
      | ((with_reducible refine gate_dst (N := 55) rfl ?_); refine Kd.R_lit QT.k31 _ 31 ?hg (N := 55) ?hd (xs := ([] : List Col)) (inner := []) (ok := fun _ => True) (okp := fun _ => True) ?hr ?hp (fun _ hk => hk) trivial (Below.refl _ _) (Nat.le_refl _) (by simp) ?_; (case hd => rfl); (case hg => rfl); (case hr => first | (go_simp; done) | (go_simp; rfl)); (case hp => exact (Reps.none _ _)); intro v7 w7 ho7 hb7 hg7 hn7; have HO7 := Aside0.mk ho7; have HB7 := Aside0.mk hb7; have HCA7 := Aside0.mk (Kd.C_below HCA.out hb7); clear ho7 hb7 hg7 hn7)
      | ((with_reducible refine gate_builtin (b := .append) (xs := #[.tmp 55, .tmp 56]) rfl ?_); at_builtin; refine Kd.R_append_rows QT.k31 (w0 := _) _ rfl (.tmp 55) (.tmp 56) 22 31 (.agg #[(.string ⟨#[]⟩), (.int .i64 0), (.int .i64 0)]) 32 rfl Tryz.underlying22 QT.info31 rfl (by decide) (by decide) v7 [] now _ _ _ (fun _ => True) (fun _ => False) rfl rfl HO7.out ?aR (fun _ _ h => h) (fun _ h => h.elim) (fun _ _ => trivial) HB7.out HB7.out.size ?aL ?_; (case aR => first | exact HCA7.out | (have h_ := HCA7.out; rw [HNL.out] at h_; exact h_)); (case aL => (have := HN.out; simp; omega)); intro v8 w8 ho8 hb8 hgr8 hat8; (try rw [List.nil_append] at ho8); have HCA8 := Aside0.mk (Kd.C_below HCA.out hb8); have HCB8 := Aside0.mk (Kd.C_below HCB.out hb8); have HB8 := Aside0.mk (below_step HBM.out hb8); have HO8 := Aside0.mk ho8; obtain ⟨A8, c8, e8⟩ := Kd.R_slice ho8; subst e8; clear ho8 hb8 hgr8 hat8))
    refine (HT2C.out _ HCA8.out (HL.out.below HB8.out)).mono ?_
    rintro en w9 ⟨rfl, hb9⟩
    have HCB9 := Aside0.mk (Kd.C_below HCB8.out hb9)
    have HO9 := Aside0.mk (Kd.R_below HO8.out hb9)
    have HB9 := Aside0.mk (below_step HB8.out hb9)
    clear hb9 HO8 HCA8 HCB8
    go_wp2_with fail
    refine (QT.daybookref17_Trial.calls k A8 c8 now d s2 e2 _ (Kd.R_reads' HO9.out).2.2 (by have h_ := (Kd.R_reads' HO9.out).2.1; exact h_) HRT2.out).mono ?_
    rintro en w10 ⟨rfl, hb10⟩
    have HCB10 := Aside0.mk (Kd.C_below HCB9.out hb10)
    have HO10 := Aside0.mk (Kd.R_below HO9.out hb10)
    have HB10 := Aside0.mk (below_step HB9.out hb10)
    clear hb10 HO9 HCB9
    go_wp2_with fail
    refine (QT.daybooklaw17_like.calls s2 e2 s2 e2 _ _ HLK2.out).mono ?_
    rintro en w11 ⟨rfl, n11, rfl⟩
    go_wp2_with fail
    refine (HK2C.out _ (Kd.C_drewN HCB10.out _) A8 c8 (Kd.C_drewN (Kd.R_reads' HO10.out).2.2 _) (Kd.R_reads' HO10.out).2.1 (HL.out.below (pw_below_drewN HB10.out _))).mono ?_
    rintro en w12 ⟨rfl, hb12⟩
    have HB12 := Aside0.mk (below_step (pw_below_drewN HB10.out _) hb12)
    clear hb12
    go_wp2_with fail
    go_ret
    exact ⟨rfl, HB12.out⟩
end Go.Proofs.YtmimninicegjcaaGreatDoor
