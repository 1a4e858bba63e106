/- The functions that the laws of this seat reach, each with its contract (written by this repo's wip/oprint). -/
import Derived.Test.YtdckhiclegehnaaDoorQx0
namespace Go.Proofs.YtdckhiclegehnaaDoor.Q
open Go.Proofs.YtdckhiclegehnaaDoorV
open Go.RowKit Go.Proofs.YtdckhiclegehnaaDoorW.PrintWords Go.Proofs.YtdckhiclegehnaaDoorW.PrintLast Go.Proofs.YtdckhiclegehnaaDoorW.PrintMore
attribute [local go_sem] max2_int min2_int max_two min_two max_three min_three max_four min_four   -- for this text's walks alone
set_option linter.unusedVariables false
set_option linter.unusedSimpArgs false

/-! ### spec_tyText: function 43 -/
def spec_tyText.l0 : Nat → ByteArray → Int → Int → Int → List Int → Option (ByteArray)
  | 0, _, _, _, _, _ => none
  | k + 1, x3, x4, x115000, x115001, x115002 => if x4 < x115001 then (if x4 > 0 then (if x3.size + 1 ≤ 9223372036854775807 then (if 0 ≤ (wrap64 (x4 * x115000)) then (if (wrap64 (x4 * x115000)) ≤ (wrap64 ((wrap64 (x4 + 1)) * x115000)) then (if (wrap64 ((wrap64 (x4 + 1)) * x115000)) ≤ (x115002.length : Int) then (if (x3 ++ (⟨#[47]⟩ : ByteArray)).size + (strOfNums ((x115002.take ((wrap64 ((wrap64 (x4 + 1)) * x115000)) : Int).toNat).drop ((wrap64 (x4 * x115000)) : Int).toNat)).size ≤ 9223372036854775807 then (spec_tyText.l0 k ((x3 ++ (⟨#[47]⟩ : ByteArray)) ++ (strOfNums ((x115002.take ((wrap64 ((wrap64 (x4 + 1)) * x115000)) : Int).toNat).drop ((wrap64 (x4 * x115000)) : Int).toNat))) (wrap64 (x4 + 1)) x115000 x115001 x115002) else (none)) else (none)) else (none)) else (none)) else (none)) else (if 0 ≤ (wrap64 (x4 * x115000)) then (if (wrap64 (x4 * x115000)) ≤ (wrap64 ((wrap64 (x4 + 1)) * x115000)) then (if (wrap64 ((wrap64 (x4 + 1)) * x115000)) ≤ (x115002.length : Int) then (if x3.size + (strOfNums ((x115002.take ((wrap64 ((wrap64 (x4 + 1)) * x115000)) : Int).toNat).drop ((wrap64 (x4 * x115000)) : Int).toNat)).size ≤ 9223372036854775807 then (spec_tyText.l0 k (x3 ++ (strOfNums ((x115002.take ((wrap64 ((wrap64 (x4 + 1)) * x115000)) : Int).toNat).drop ((wrap64 (x4 * x115000)) : Int).toNat))) (wrap64 (x4 + 1)) x115000 x115001 x115002) else (none)) else (none)) else (none)) else (none))) else (some x3)
def spec_tyText.f (k : Nat) (a0_0 : Int) (a0_1 : Int) (l0_2 : List Int) : Option (ByteArray) := spec_tyText.l0 k (⟨#[]⟩ : ByteArray) 0 a0_0 a0_1 l0_2
theorem spec_tyText.mono_l : ∀ k, (∀ y0 y1 y2 y3 y4, LeO (spec_tyText.l0 k y0 y1 y2 y3 y4) (spec_tyText.l0 (k + 1) y0 y1 y2 y3 y4))
  | 0 => fun _ _ _ _ _ r h => by simp [spec_tyText.l0] at h
  | k + 1 => by
    have ih0 := spec_tyText.mono_l k
    · intro y0 y1 y2 y3 y4
      unfold spec_tyText.l0
      repeat' first
      | (with_reducible exact ih0 _ _ _ _ _)
      | (with_reducible exact LeO.refl _)
      | (with_reducible exact LeO.none _)
      | (with_reducible refine LeO.ite ?_ ?_)
      | (with_reducible refine LeO.bind ?_ (fun _ => ?_))
      | exact ih0 _ _ _ _ _
      | exact LeO.none _
      | refine LeO.ite ?_ ?_
      | refine LeO.bind ?_ (fun _ => ?_)
theorem spec_tyText.mono : ∀ a0 a1 a2 k, LeO (spec_tyText.f k a0 a1 a2) (spec_tyText.f (k + 1) a0 a1 a2) := by
  intro a0 a1 a2 k
  have ih0 := spec_tyText.mono_l k
  unfold spec_tyText.f
  repeat' first
      | (with_reducible exact ih0 _ _ _ _ _)
      | (with_reducible exact LeO.refl _)
      | (with_reducible exact LeO.none _)
      | (with_reducible refine LeO.ite ?_ ?_)
      | (with_reducible refine LeO.bind ?_ (fun _ => ?_))
      | exact ih0 _ _ _ _ _
      | exact LeO.none _
      | refine LeO.ite ?_ ?_
      | refine LeO.bind ?_ (fun _ => ?_)
set_option maxHeartbeats 8000000 in
set_option maxRecDepth 100000 in
theorem spec_tyText.calls (k : Nat) (a0_0 : Int) (a0_1 : Int) (A0_2 : Option Addr) (c0_2 : Nat) (l0_2 : List Int) (r : ByteArray) (w : World) (hr0_2 : Kd.C (Kd.int .u8) w A0_2 l0_2.length l0_2) (hc0_2 : l0_2.length ≤ c0_2) (h : spec_tyText.f k a0_0 a0_1 l0_2 = some r) :
    Calls Tryd.prog 43 #[.agg #[.int .i64 a0_0, .int .i64 a0_1, .slice A0_2 l0_2.length c0_2]] w fun e w' => e = .returned (.string r) ∧ Below w.heap.size w w' := by
  have hu46 := Tryd.underlying46
  have HR0_2 := Aside0.mk hr0_2
  have HC0_2 := Aside0.mk hc0_2
  clear hr0_2 hc0_2
  have HB := Aside0.mk (Below.refl w.heap.size w)
  have H : (spec_tyText.l0 k (⟨#[]⟩ : ByteArray) 0 a0_0 a0_1 l0_2) = some r := h
  clear h
  have H' := Aside0.mk H
  clear H
  go_enter Tryd.func43, Tryd.ntmps43
  go_wp2_with (first | ((with_reducible refine gate_dst (N := 1) rfl ?_); refine box_event ?hg (N := 1) ?hd (cs := #[.int .i64 a0_0, .int .i64 a0_1, .slice A0_2 l0_2.length c0_2]) (t := 46) ?hr ?_; (case hd => rfl); (case hg => rfl); (case hr => first | (go_simp; done) | (go_simp; rfl)); intro gb114 hg w2 hbox hb; have n0_ := Aside0.mk (below_step (by repeat (first | (with_reducible first | exact HB.out | apply below_alloc | apply pw_below_drewN | apply below_drew1) | exact HB.out)) hb); have n1_ := Aside0.mk (hbox); have n2_ := Aside0.mk ((by rw [hg]; exact (below_size (by repeat (first | (with_reducible first | exact HB.out | apply below_alloc | apply pw_below_drewN | apply below_drew1) | exact HB.out))) : w.heap.size ≤ gb114)); have n3_ := Aside0.mk ((by rw [hg]; exact (below_size (by repeat (first | (with_reducible first | exact HB.out | apply below_alloc | apply pw_below_drewN | apply below_drew1) | exact HB.out))) : w.heap.size ≤ gb114)); clear HB; have HB := n0_; have BK114 := n1_; have GW114 := n2_; have GE114 := n3_; clear n0_ n1_ n2_ n3_; clear hb hbox hg))
  go_loopg [3, 4] k (fun kq v3 v4 w' => ∃ (x3_1 : ByteArray) (x4_1 : Int), v3 = .string x3_1 ∧ v4 = .int .i64 x4_1 ∧ Aside0 (spec_tyText.l0 kq x3_1 x4_1 a0_0 a0_1 l0_2 = some r) ∧ Aside0 (kq ≤ k) ∧ Aside0 (w'.heap[gb114]? = some (.cells #[.int .i64 a0_0, .int .i64 a0_1, (.slice A0_2 l0_2.length c0_2)] 46 (0, 0))) ∧ Aside0 (Below w.heap.size w w'))
  case atStart => exact ⟨((⟨#[]⟩ : ByteArray)), (0), (by first | rfl | (simp; done) | (simp [*]; done)), (by first | rfl | (simp; done) | (simp [*]; done)), H', ⟨Nat.le_refl _⟩, ⟨by (with_reducible repeat (first | refine blk_drewN ?_ _ | refine blk_drew ?_ | refine blk_alloc ?_ _)); exact BK114.out⟩, ⟨by repeat (first | (with_reducible first | exact HB.out | apply below_alloc | apply pw_below_drewN | apply below_drew1 | refine below_set ?_ GE114.out) | exact HB.out)⟩⟩
  case round =>
    clear H'
    try clear p2
    obtain ⟨x3_1, x4_1, rfl, rfl, HA, HK1, BK114, HB⟩ := hrel
    cases gk with
    | zero => exact absurd HA.out (by simp [spec_tyText.l0])
    | succ k1 =>
      have H := HA.out
      clear HA
      simp only [spec_tyText.l0] at H
      by_cases c3 : x4_1 < a0_1
      · rw [if_pos c3] at H
        have c3b0 : decide (x4_1 < a0_1) = true := decide_eq_true c3
        clear c3
        by_cases c4 : x4_1 > 0
        · rw [if_pos c4] at H
          have c4b0 : decide (0 < x4_1) = true := decide_eq_true c4
          clear c4
          by_cases c5 : x3_1.size + 1 ≤ 9223372036854775807
          · rw [if_pos c5] at H
            have c5b0 := eq_true c5
            have c5b1 : decide (x3_1.size + 1 ≤ 9223372036854775807) = true := decide_eq_true c5
            try have c5b2 : (9223372036854775807 < x3_1.size + 1) = False := eq_false (Nat.not_lt.2 c5)
            obtain ⟨ji6, hji6⟩ : ∃ j_ : Int, (wrap64 (x4_1 * a0_0)) = j_ := ⟨_, rfl⟩
            replace H : (if 0 ≤ (ji6) then (if (ji6) ≤ (wrap64 ((wrap64 (x4_1 + 1)) * a0_0)) then (if (wrap64 ((wrap64 (x4_1 + 1)) * a0_0)) ≤ (l0_2.length : Int) then (if (x3_1 ++ (⟨#[47]⟩ : ByteArray)).size + (strOfNums ((l0_2.take ((wrap64 ((wrap64 (x4_1 + 1)) * a0_0)) : Int).toNat).drop ((ji6) : Int).toNat)).size ≤ 9223372036854775807 then (spec_tyText.l0 k1 ((x3_1 ++ (⟨#[47]⟩ : ByteArray)) ++ (strOfNums ((l0_2.take ((wrap64 ((wrap64 (x4_1 + 1)) * a0_0)) : Int).toNat).drop ((ji6) : Int).toNat))) (wrap64 (x4_1 + 1)) a0_0 a0_1 l0_2) else (none)) else (none)) else (none)) else (none)) = some r := by first | (rw [hji6] at H; exact H) | (simp only [hji6] at H ⊢; exact H)
            have hji6w : (IntKind.i64.wrap (x4_1 * a0_0)) = ji6 := (i64_w _).trans hji6
            by_cases c7 : 0 ≤ (ji6)
            · rw [if_pos c7] at H
              have c7b0 := eq_true c7
              have c7b1 : decide (0 ≤ (ji6)) = true := decide_eq_true c7
              clear c7
              by_cases c8 : (ji6) ≤ (wrap64 ((wrap64 (x4_1 + 1)) * a0_0))
              · rw [if_pos c8] at H
                have c8b0 := eq_true c8
                have c8b1 : decide ((ji6) ≤ (wrap64 ((wrap64 (x4_1 + 1)) * a0_0))) = true := decide_eq_true c8
                by_cases c9 : (wrap64 ((wrap64 (x4_1 + 1)) * a0_0)) ≤ (l0_2.length : Int)
                · rw [if_pos c9] at H
                  have c9b0 := eq_true c9
                  have c9b1 : decide ((wrap64 ((wrap64 (x4_1 + 1)) * a0_0)) ≤ (l0_2.length : Int)) = true := decide_eq_true c9
                  by_cases c10 : (x3_1 ++ (⟨#[47]⟩ : ByteArray)).size + (strOfNums ((l0_2.take ((wrap64 ((wrap64 (x4_1 + 1)) * a0_0)) : Int).toNat).drop ((ji6) : Int).toNat)).size ≤ 9223372036854775807
                  · rw [if_pos c10] at H
                    have c10b0 := eq_true c10
                    have c10b1 : decide ((x3_1 ++ (⟨#[47]⟩ : ByteArray)).size + (strOfNums ((l0_2.take ((wrap64 ((wrap64 (x4_1 + 1)) * a0_0)) : Int).toNat).drop ((ji6) : Int).toNat)).size ≤ 9223372036854775807) = true := decide_eq_true c10
                    try have c10b2 : (9223372036854775807 < (x3_1 ++ (⟨#[47]⟩ : ByteArray)).size + (strOfNums ((l0_2.take ((wrap64 ((wrap64 (x4_1 + 1)) * a0_0)) : Int).toNat).drop ((ji6) : Int).toNat)).size) = False := eq_false (Nat.not_lt.2 c10)
                    have H' := Aside0.mk H
                    clear H
                    have hcz11_0 : wr.cell? ⟨gb114, 0, none⟩ = some (.int .i64 a0_0) := (blk_cell BK114.out 0).trans rfl
                    have hcz11_1 : wr.cell? ⟨gb114, 1, none⟩ = some (.int .i64 a0_1) := (blk_cell BK114.out 1).trans rfl
                    have hcz11_2 : wr.cell? ⟨gb114, 2, none⟩ = some (.slice A0_2 l0_2.length c0_2) := (blk_cell BK114.out 2).trans rfl
                    have hfz11_0 := blk_frozen BK114.out 0
                    have hfz11_1 := blk_frozen BK114.out 1
                    have hfz11_2 := blk_frozen BK114.out 2
                    obtain ⟨i012, hi012, _, hsz12, _⟩ := info_parts info5
                    obtain ⟨A12, hcut12, hA12, hC12⟩ := print_mid_of (P := Tryd.prog) (Value.int .u8) 0 44 5 .i64 .i64 Tryd.underlying44 hi012 hsz12 A0_2 c0_2 l0_2 (ji6) (wrap64 ((wrap64 (x4_1 + 1)) * a0_0)) (of_decide_eq_true (by first | (with_reducible assumption) | assumption)) (by first | omega | exact of_decide_eq_true (by first | (with_reducible assumption) | assumption)) (of_decide_eq_true (by first | (with_reducible assumption) | assumption)) HC0_2.out
                    have HR115 := Aside0.mk (Kd.C_of_reads (h1 := fun _ => rfl) (hA12 _ (Kd.reads_of_C HR0_2.out)))
                    have HC115 := Aside0.mk hC12
                    clear hA12 hC12 hi012 hsz12
                    have hcv13 := Kd.C_string (P := Tryd.prog) (A := A12) (c := (c0_2 - (ji6).toNat)) Tryd.underlying44 Tryd.underlying5 Tryd.underlying9 (Kd.C_below HR115.out HB.out)
                    try (rw [List.length_drop, List.length_take, Nat.min_eq_left] at hcv13; rotate_left; exact Int.toNat_le.2 (of_decide_eq_true (by first | (with_reducible assumption) | assumption)))
                    go_wp2
                    go_roundg k1
                    case measure => have := HK1.out; omega
                    case rel => exact ⟨((x3_1 ++ (⟨#[47]⟩ : ByteArray)) ++ (strOfNums ((l0_2.take ((wrap64 ((wrap64 (x4_1 + 1)) * a0_0)) : Int).toNat).drop ((ji6) : Int).toNat))), (wrap64 (x4_1 + 1)), (by first | rfl | (simp; done) | (simp only [← hji6] <;> (first | rfl | simp)) | (simp [*]; done)), (by first | rfl | (simp; done) | (simp [*]; done)), H', ⟨by have := HK1.out; omega⟩, ⟨by (with_reducible repeat (first | refine blk_drewN ?_ _ | refine blk_drew ?_ | refine blk_alloc ?_ _)); exact BK114.out⟩, ⟨by repeat (first | (with_reducible first | exact HB.out | apply below_alloc | apply pw_below_drewN | apply below_drew1 | refine below_set ?_ GE114.out) | exact HB.out)⟩⟩
                  · rw [if_neg c10] at H
                    exact absurd H (by simp)
                · rw [if_neg c9] at H
                  exact absurd H (by simp)
              · rw [if_neg c8] at H
                exact absurd H (by simp)
            · rw [if_neg c7] at H
              exact absurd H (by simp)
          · rw [if_neg c5] at H
            exact absurd H (by simp)
        · rw [if_neg c4] at H
          have c4b0 : decide (0 < x4_1) = false := decide_eq_false c4
          clear c4
          obtain ⟨ji14, hji14⟩ : ∃ j_ : Int, (wrap64 (x4_1 * a0_0)) = j_ := ⟨_, rfl⟩
          replace H : (if 0 ≤ (ji14) then (if (ji14) ≤ (wrap64 ((wrap64 (x4_1 + 1)) * a0_0)) then (if (wrap64 ((wrap64 (x4_1 + 1)) * a0_0)) ≤ (l0_2.length : Int) then (if x3_1.size + (strOfNums ((l0_2.take ((wrap64 ((wrap64 (x4_1 + 1)) * a0_0)) : Int).toNat).drop ((ji14) : Int).toNat)).size ≤ 9223372036854775807 then (spec_tyText.l0 k1 (x3_1 ++ (strOfNums ((l0_2.take ((wrap64 ((wrap64 (x4_1 + 1)) * a0_0)) : Int).toNat).drop ((ji14) : Int).toNat))) (wrap64 (x4_1 + 1)) a0_0 a0_1 l0_2) else (none)) else (none)) else (none)) else (none)) = some r := by first | (rw [hji14] at H; exact H) | (simp only [hji14] at H ⊢; exact H)
          have hji14w : (IntKind.i64.wrap (x4_1 * a0_0)) = ji14 := (i64_w _).trans hji14
          by_cases c15 : 0 ≤ (ji14)
          · rw [if_pos c15] at H
            have c15b0 := eq_true c15
            have c15b1 : decide (0 ≤ (ji14)) = true := decide_eq_true c15
            clear c15
            by_cases c16 : (ji14) ≤ (wrap64 ((wrap64 (x4_1 + 1)) * a0_0))
            · rw [if_pos c16] at H
              have c16b0 := eq_true c16
              have c16b1 : decide ((ji14) ≤ (wrap64 ((wrap64 (x4_1 + 1)) * a0_0))) = true := decide_eq_true c16
              by_cases c17 : (wrap64 ((wrap64 (x4_1 + 1)) * a0_0)) ≤ (l0_2.length : Int)
              · rw [if_pos c17] at H
                have c17b0 := eq_true c17
                have c17b1 : decide ((wrap64 ((wrap64 (x4_1 + 1)) * a0_0)) ≤ (l0_2.length : Int)) = true := decide_eq_true c17
                by_cases c18 : x3_1.size + (strOfNums ((l0_2.take ((wrap64 ((wrap64 (x4_1 + 1)) * a0_0)) : Int).toNat).drop ((ji14) : Int).toNat)).size ≤ 9223372036854775807
                · rw [if_pos c18] at H
                  have c18b0 := eq_true c18
                  have c18b1 : decide (x3_1.size + (strOfNums ((l0_2.take ((wrap64 ((wrap64 (x4_1 + 1)) * a0_0)) : Int).toNat).drop ((ji14) : Int).toNat)).size ≤ 9223372036854775807) = true := decide_eq_true c18
                  try have c18b2 : (9223372036854775807 < x3_1.size + (strOfNums ((l0_2.take ((wrap64 ((wrap64 (x4_1 + 1)) * a0_0)) : Int).toNat).drop ((ji14) : Int).toNat)).size) = False := eq_false (Nat.not_lt.2 c18)
                  have H' := Aside0.mk H
                  clear H
                  have hcz19_0 : wr.cell? ⟨gb114, 0, none⟩ = some (.int .i64 a0_0) := (blk_cell BK114.out 0).trans rfl
                  have hcz19_1 : wr.cell? ⟨gb114, 1, none⟩ = some (.int .i64 a0_1) := (blk_cell BK114.out 1).trans rfl
                  have hcz19_2 : wr.cell? ⟨gb114, 2, none⟩ = some (.slice A0_2 l0_2.length c0_2) := (blk_cell BK114.out 2).trans rfl
                  have hfz19_0 := blk_frozen BK114.out 0
                  have hfz19_1 := blk_frozen BK114.out 1
                  have hfz19_2 := blk_frozen BK114.out 2
                  obtain ⟨i020, hi020, _, hsz20, _⟩ := info_parts info5
                  obtain ⟨A20, hcut20, hA20, hC20⟩ := print_mid_of (P := Tryd.prog) (Value.int .u8) 0 44 5 .i64 .i64 Tryd.underlying44 hi020 hsz20 A0_2 c0_2 l0_2 (ji14) (wrap64 ((wrap64 (x4_1 + 1)) * a0_0)) (of_decide_eq_true (by first | (with_reducible assumption) | assumption)) (by first | omega | exact of_decide_eq_true (by first | (with_reducible assumption) | assumption)) (of_decide_eq_true (by first | (with_reducible assumption) | assumption)) HC0_2.out
                  have HR116 := Aside0.mk (Kd.C_of_reads (h1 := fun _ => rfl) (hA20 _ (Kd.reads_of_C HR0_2.out)))
                  have HC116 := Aside0.mk hC20
                  clear hA20 hC20 hi020 hsz20
                  have hcv21 := Kd.C_string (P := Tryd.prog) (A := A20) (c := (c0_2 - (ji14).toNat)) Tryd.underlying44 Tryd.underlying5 Tryd.underlying9 (Kd.C_below HR116.out HB.out)
                  try (rw [List.length_drop, List.length_take, Nat.min_eq_left] at hcv21; rotate_left; exact Int.toNat_le.2 (of_decide_eq_true (by first | (with_reducible assumption) | assumption)))
                  go_wp2
                  go_roundg k1
                  case measure => have := HK1.out; omega
                  case rel => exact ⟨(x3_1 ++ (strOfNums ((l0_2.take ((wrap64 ((wrap64 (x4_1 + 1)) * a0_0)) : Int).toNat).drop ((ji14) : Int).toNat))), (wrap64 (x4_1 + 1)), (by first | rfl | (simp; done) | (simp only [← hji14] <;> (first | rfl | simp)) | (simp [*]; done)), (by first | rfl | (simp; done) | (simp [*]; done)), H', ⟨by have := HK1.out; omega⟩, ⟨by (with_reducible repeat (first | refine blk_drewN ?_ _ | refine blk_drew ?_ | refine blk_alloc ?_ _)); exact BK114.out⟩, ⟨by repeat (first | (with_reducible first | exact HB.out | apply below_alloc | apply pw_below_drewN | apply below_drew1 | refine below_set ?_ GE114.out) | exact HB.out)⟩⟩
                · rw [if_neg c18] at H
                  exact absurd H (by simp)
              · rw [if_neg c17] at H
                exact absurd H (by simp)
            · rw [if_neg c16] at H
              exact absurd H (by simp)
          · rw [if_neg c15] at H
            exact absurd H (by simp)
      · rw [if_neg c3] at H
        have c3b0 : decide (x4_1 < a0_1) = false := decide_eq_false c3
        clear c3
        obtain rfl := Option.some.inj H
        have hcz22_0 : wr.cell? ⟨gb114, 0, none⟩ = some (.int .i64 a0_0) := (blk_cell BK114.out 0).trans rfl
        have hcz22_1 : wr.cell? ⟨gb114, 1, none⟩ = some (.int .i64 a0_1) := (blk_cell BK114.out 1).trans rfl
        have hcz22_2 : wr.cell? ⟨gb114, 2, none⟩ = some (.slice A0_2 l0_2.length c0_2) := (blk_cell BK114.out 2).trans rfl
        have hfz22_0 := blk_frozen BK114.out 0
        have hfz22_1 := blk_frozen BK114.out 1
        have hfz22_2 := blk_frozen BK114.out 2
        go_wp2
        go_ret
        exact ⟨by first | rfl | (simp [errW_none, errW_some] <;> rfl) | (simp [*, errW_none, errW_some] <;> rfl), by repeat (first | (with_reducible first | exact HB.out | apply below_alloc | apply pw_below_drewN | apply below_drew1 | refine below_set ?_ GE114.out) | exact HB.out)⟩

end Go.Proofs.YtdckhiclegehnaaDoor.Q
