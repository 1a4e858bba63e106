/- The functions that the laws of this seat reach, each with its contract (written by this repo's wip/oprint). -/
import Derived.Test.YtcglmngfglmcgaaDoorQx0
import Derived.Test.YtcglmngfglmcgaaDoorQx3
import Derived.Test.YtcglmngfglmcgaaDoorQx4
namespace Go.Proofs.YtcglmngfglmcgaaDoor.Q
open Go.Proofs.YtcglmngfglmcgaaDoorV
open Go.RowKit Go.Proofs.YtcglmngfglmcgaaDoorW.PrintWords Go.Proofs.YtcglmngfglmcgaaDoorW.PrintLast Go.Proofs.YtcglmngfglmcgaaDoorW.PrintMore
attribute [local go_sem] max2_int min2_int max_two min_two max_three min_three max_four min_four   -- for this text's walks alone
set_option linter.unusedVariables false
set_option linter.unusedSimpArgs false

/-! ### spec_tyEight: function 30 -/
def spec_tyEight.l0 : Nat → List (S41) → Int → Int → Int → List Int → Option ((List (S41)))
  | 0, _, _, _, _, _ => none
  | k + 1, x3, x4, x129000, x129001, x129002 => if x4 < 8 then (if x3.length < 3518437208883 then ((some (x3 ++ [(⟨x129000, x129001, x129002⟩ : S41)] : List (S41))).bind fun y129 => ((spec_tyTurn.f k x129000 x129001 x129002).bind fun bt132 => (if x4 = 3 then ((spec_tyMirror.f k bt132.1 bt132.2.1 bt132.2.2).bind fun bt137 => (spec_tyEight.l0 k y129 (wrap64 (x4 + 1)) bt137.1 bt137.2.1 bt137.2.2)) else (spec_tyEight.l0 k y129 (wrap64 (x4 + 1)) bt132.1 bt132.2.1 bt132.2.2)))) else (none)) else (some x3)
def spec_tyEight.f (k : Nat) (a0_0 : Int) (a0_1 : Int) (l0_2 : List Int) : Option ((List (S41))) := spec_tyEight.l0 k ([] : List (S41)) 0 a0_0 a0_1 l0_2
theorem spec_tyEight.mono_l : ∀ k, (∀ y0 y1 y2 y3 y4, LeO (spec_tyEight.l0 k y0 y1 y2 y3 y4) (spec_tyEight.l0 (k + 1) y0 y1 y2 y3 y4))
  | 0 => fun _ _ _ _ _ r h => by simp [spec_tyEight.l0] at h
  | k + 1 => by
    have ih0 := spec_tyEight.mono_l k
    · intro y0 y1 y2 y3 y4
      unfold spec_tyEight.l0
      repeat' first
      | (with_reducible exact ih0 _ _ _ _ _)
      | (with_reducible exact spec_tyMirror.mono _ _ _ _)
      | (with_reducible exact spec_tyTurn.mono _ _ _ _)
      | (with_reducible exact LeO.refl _)
      | (with_reducible exact LeO.none _)
      | (with_reducible refine LeO.ite ?_ ?_)
      | (with_reducible refine LeO.bind ?_ (fun _ => ?_))
      | exact ih0 _ _ _ _ _
      | exact spec_tyMirror.mono _ _ _ _
      | exact spec_tyTurn.mono _ _ _ _
      | exact LeO.none _
      | refine LeO.ite ?_ ?_
      | refine LeO.bind ?_ (fun _ => ?_)
theorem spec_tyEight.mono : ∀ a0 a1 a2 k, LeO (spec_tyEight.f k a0 a1 a2) (spec_tyEight.f (k + 1) a0 a1 a2) := by
  intro a0 a1 a2 k
  have ih0 := spec_tyEight.mono_l k
  unfold spec_tyEight.f
  repeat' first
      | (with_reducible exact ih0 _ _ _ _ _)
      | (with_reducible exact spec_tyMirror.mono _ _ _ _)
      | (with_reducible exact spec_tyTurn.mono _ _ _ _)
      | (with_reducible exact LeO.refl _)
      | (with_reducible exact LeO.none _)
      | (with_reducible refine LeO.ite ?_ ?_)
      | (with_reducible refine LeO.bind ?_ (fun _ => ?_))
      | exact ih0 _ _ _ _ _
      | exact spec_tyMirror.mono _ _ _ _
      | exact spec_tyTurn.mono _ _ _ _
      | exact LeO.none _
      | refine LeO.ite ?_ ?_
      | refine LeO.bind ?_ (fun _ => ?_)
set_option maxHeartbeats 8000000 in
set_option maxRecDepth 100000 in
theorem spec_tyEight.calls (k : Nat) (a0_0 : Int) (a0_1 : Int) (P0_2_ : Nat → Prop) (A0_2 : Option Addr) (c0_2 : Nat) (l0_2 : List Int) (r : List (S41)) (w : World) (hs0_2 : Kd.V (Kd.int .u8) 5 w w.heap.size (fun k_ => P0_2_ k_) (.slice A0_2 l0_2.length c0_2) l0_2) (h : spec_tyEight.f k a0_0 a0_1 l0_2 = some r) :
    Calls Tryd.prog 30 #[.agg #[.int .i64 a0_0, .int .i64 a0_1, .slice A0_2 l0_2.length c0_2]] w fun e w' => ∃ v0_ : Value, e = .returned (v0_) ∧ Kd.N k41 41 w' w.heap.size (fun k_ => (P0_2_ k_ ∨ w.heap.size ≤ k_)) v0_ r ∧ Below w.heap.size w w' := by
  have hu41 := Tryd.underlying41
  have HO0_2 := Aside0.mk (show Kd.V (Kd.int .u8) 5 w w.heap.size (fun k_ => (P0_2_ k_ ∨ w.heap.size ≤ k_)) (.slice A0_2 l0_2.length c0_2) l0_2 from Kd.V_mono hs0_2 (fun k_ hk => .inl hk))
  have HB := Aside0.mk (Below.refl w.heap.size w)
  have H : (spec_tyEight.l0 k ([] : List (S41)) 0 a0_0 a0_1 l0_2) = some r := h
  clear h
  have H' := Aside0.mk H
  clear H
  go_enter Tryd.func30, Tryd.ntmps30
  go_wp2_with (first | ((with_reducible refine gate_dst (N := 1) rfl ?_); refine box_event ?hg (N := 1) ?hd (cs := #[.int .i64 a0_0, .int .i64 a0_1, .slice A0_2 l0_2.length c0_2]) (t := 41) ?hr ?_; (case hd => rfl); (case hg => rfl); (case hr => first | (go_simp; done) | (go_simp; rfl)); intro gb128 hg w2 hbox hb; have n0_ := Aside0.mk (Kd.V_below (Kd.V_elderB (by (with_reducible repeat (first | apply Kd.V_alloc | apply Kd.V_drewN | apply Kd.V_drew)); exact HO0_2.out) gb128 (Nat.le_of_eq hg.symm)) hb); have n1_ := Aside0.mk (below_step (by repeat (first | (with_reducible first | exact HB.out | apply below_alloc | apply pw_below_drewN | apply below_drew1) | exact HB.out)) hb); have n2_ := Aside0.mk (hbox); have n3_ := Aside0.mk ((by rw [hg]; exact (below_size (by repeat (first | (with_reducible first | exact HB.out | apply below_alloc | apply pw_below_drewN | apply below_drew1) | exact HB.out))) : w.heap.size ≤ gb128)); have n4_ := Aside0.mk ((by rw [hg]; exact (below_size (by repeat (first | (with_reducible first | exact HB.out | apply below_alloc | apply pw_below_drewN | apply below_drew1) | exact HB.out))) : w.heap.size ≤ gb128)); clear HO0_2; clear HB; have HO0_2 := n0_; have HB := n1_; have BK128 := n2_; have GW128 := n3_; have GE128 := n4_; clear n0_ n1_ n2_ n3_ n4_; clear hb hbox hg))
  go_loopg [3, 4] k (fun kq v3 v4 w' => ∃ (x3_1 : List (S41)) (x4_1 : Int) (x129000_1 : Int) (x129001_1 : Int) (x129002_1 : List Int) (u129002 : Value), v4 = .int .i64 x4_1 ∧ Aside0 (spec_tyEight.l0 kq x3_1 x4_1 x129000_1 x129001_1 x129002_1 = some r) ∧ Aside0 (kq ≤ k) ∧ Aside0 (Kd.N k41 41 w' w.heap.size (fun k_ => (P0_2_ k_ ∨ w.heap.size ≤ k_) ∧ k_ ≠ gb128) v3 x3_1) ∧ Aside0 (Kd.V (Kd.int .u8) 5 w' w.heap.size (fun k_ => (P0_2_ k_ ∨ w.heap.size ≤ k_) ∧ some k_ ≠ (v3 : Value).ownBlock ∧ k_ ≠ gb128) u129002 x129002_1) ∧ Aside0 (w'.heap[gb128]? = some (.cells #[.int .i64 x129000_1, .int .i64 x129001_1, u129002] 41 (0, 0))) ∧ Aside0 (Below w.heap.size w w'))
  case atStart => exact ⟨(([] : List (S41))), (0), (a0_0), (a0_1), (l0_2), (.slice A0_2 l0_2.length c0_2), (by first | rfl | (simp; done) | (simp [*]; done)), H', ⟨Nat.le_refl _⟩, ⟨by first | exact Kd.S_nil _ _ _ _ _ | exact Kd.N_nil _ _ _ _ _ | exact Kd.V_nil _ _ _ _ _ | exact Kd.Q_nil _ _ _ _ _ | exact Kd.R_nil _ _ _ _ _⟩, ⟨by (with_reducible repeat (first | apply Kd.V_alloc | apply Kd.V_drewN | apply Kd.V_drew)); exact Kd.V_mono HO0_2.out (fun _ hk => ⟨hk.1, ⟨(by simp [Value.ownBlock]), hk.2⟩⟩)⟩, ⟨by (with_reducible repeat (first | refine blk_drewN ?_ _ | refine blk_drew ?_ | refine blk_alloc ?_ _)); exact BK128.out⟩, ⟨by repeat (first | (with_reducible first | exact HB.out | apply below_alloc | apply pw_below_drewN | apply below_drew1 | refine below_set ?_ GE128.out) | exact HB.out)⟩⟩
  case round =>
    clear H'
    try clear p2
    obtain ⟨x3_1, x4_1, x129000_1, x129001_1, x129002_1, u129002, rfl, HA, HK1, HO_3, HO_129002, BK128, HB⟩ := hrel
    cases gk with
    | zero => exact absurd HA.out (by simp [spec_tyEight.l0])
    | succ k1 =>
      have H := HA.out
      clear HA
      simp only [spec_tyEight.l0] at H
      by_cases c3 : x4_1 < 8
      · rw [if_pos c3] at H
        have c3b0 : decide (x4_1 < 8) = true := decide_eq_true c3
        clear c3
        by_cases c4 : x3_1.length < 3518437208883
        · rw [if_pos c4] at H
          have LMc4 := Aside0.mk c4
          clear c4
          obtain ⟨y129, hy129⟩ : ∃ y_ : List (S41), y_ = (x3_1 ++ [(⟨x129000_1, x129001_1, x129002_1⟩ : S41)]) := ⟨_, rfl⟩
          replace H : ((spec_tyTurn.f k1 x129000_1 x129001_1 x129002_1).bind fun bt132 => (if x4_1 = 3 then ((spec_tyMirror.f k1 bt132.1 bt132.2.1 bt132.2.2).bind fun bt137 => (spec_tyEight.l0 k1 y129 (wrap64 (x4_1 + 1)) bt137.1 bt137.2.1 bt137.2.2)) else (spec_tyEight.l0 k1 y129 (wrap64 (x4_1 + 1)) bt132.1 bt132.2.1 bt132.2.2))) = some r := by first | (rw [hy129]; with_reducible exact H) | (have H2_ := (Option.bind_some _ _).symm.trans H; rw [hy129]; with_reducible exact H2_) | (have H2_ := (Option.bind_some _ _).symm.trans H; with_reducible exact H2_) | with_reducible exact H | (rw [hy129]; exact H) | exact H
          have Ny129 := Aside0.mk hy129
          clear hy129
          replace H := Option.bind_eq_some_iff.mp H
          obtain ⟨⟨t132, t133, t134⟩, A50, H⟩ := H
          replace H : (if x4_1 = 3 then ((spec_tyMirror.f k1 t132 t133 t134).bind fun bt137 => (spec_tyEight.l0 k1 y129 (wrap64 (x4_1 + 1)) bt137.1 bt137.2.1 bt137.2.2)) else (spec_tyEight.l0 k1 y129 (wrap64 (x4_1 + 1)) t132 t133 t134)) = some r := H
          have A5 := Aside0.mk A50
          clear A50
          by_cases c6 : x4_1 = 3
          · rw [if_pos c6] at H
            have c6b0 : (x4_1 == 3) = true := beq_iff_eq.mpr c6
            have c6b1 : (x4_1 != 3) = false := bne_eq_false_iff_eq.mpr c6
            clear c6
            replace H := Option.bind_eq_some_iff.mp H
            obtain ⟨⟨t137, t138, t139⟩, A70, H⟩ := H
            replace H : (spec_tyEight.l0 k1 y129 (wrap64 (x4_1 + 1)) t137 t138 t139) = some r := H
            have A7 := Aside0.mk A70
            clear A70
            have H' := Aside0.mk H
            clear H
            have hcz8_0 : wr.cell? ⟨gb128, 0, none⟩ = some (.int .i64 x129000_1) := (blk_cell BK128.out 0).trans rfl
            have hcz8_1 : wr.cell? ⟨gb128, 1, none⟩ = some (.int .i64 x129001_1) := (blk_cell BK128.out 1).trans rfl
            have hcz8_2 : wr.cell? ⟨gb128, 2, none⟩ = some (u129002) := (blk_cell BK128.out 2).trans rfl
            have hfz8_0 := blk_frozen BK128.out 0
            have hfz8_1 := blk_frozen BK128.out 1
            have hfz8_2 := blk_frozen BK128.out 2
            obtain ⟨Ao10, co10, eo10⟩ := Kd.V_slice HO_129002.out
            subst eo10
            go_wp2_with (first | ((with_reducible refine gate_builtin (b := .append) (xs := #[.tmp 9, .tmp 11]) rfl ?_); at_builtin; refine Kd.N_append k41 (w0 := w) w.heap.size rfl (.tmp 9) (.tmp 11) 51 41 (.agg #[(.int .i64 0), (.int .i64 0), (.slice none 0 0)]) 40 rfl Tryd.underlying51 info41 rfl (by decide) (by omega) u3 x3_1 (⟨x129000_1, x129001_1, x129002_1⟩ : S41) [.int .i64 x129000_1, .int .i64 x129001_1, .slice Ao10 x129002_1.length co10] (fun k_ => (P0_2_ k_ ∨ w.heap.size ≤ k_) ∧ k_ ≠ gb128) (fun k_ => ((fun k_ => (P0_2_ k_ ∨ w.heap.size ≤ k_) ∧ k_ ≠ gb128)) k_ ∧ some k_ ≠ (u3 : Value).ownBlock) rfl rfl ?aP (fun _ hk => hk) ?aF ?aO ?aB ?aS ?aL ?_; (case aP => exact (k41_mkF _ _ (⟨x129000_1, x129001_1, x129002_1⟩ : S41) (Kd.V_reads' (Kd.V_mono (ok' := (fun k_ => ((fun k_ => (P0_2_ k_ ∨ w.heap.size ≤ k_) ∧ k_ ≠ gb128)) k_ ∧ some k_ ≠ (u3 : Value).ownBlock)) (HO_129002.out) (fun k_ hk => ⟨⟨hk.1, hk.2.2⟩, hk.2.1⟩))).2.1 (Kd.V_F (Kd.V_mono (ok' := (fun k_ => ((fun k_ => (P0_2_ k_ ∨ w.heap.size ≤ k_) ∧ k_ ≠ gb128)) k_ ∧ some k_ ≠ (u3 : Value).ownBlock)) (HO_129002.out) (fun k_ hk => ⟨⟨hk.1, hk.2.2⟩, hk.2.1⟩))))); (case aB => exact (by repeat (first | (with_reducible first | exact HB.out | apply below_alloc | apply pw_below_drewN | apply below_drew1 | refine below_set ?_ GE128.out) | exact HB.out))); (case aF => exact (fun k_ hk => ⟨(.inr (Nat.le_trans (below_size (by repeat (first | (with_reducible first | exact HB.out | apply below_alloc | apply pw_below_drewN | apply below_drew1 | refine below_set ?_ GE128.out) | exact HB.out))) hk)), Kd.freshB (g := gb128) (o := .cells #[.int .i64 x129000_1, .int .i64 x129001_1, .slice Ao10 x129002_1.length co10] 41 (0, 0)) (by (with_reducible repeat (first | refine blk_drewN ?_ _ | refine blk_drew ?_ | refine blk_alloc ?_ _)); exact BK128.out) k_ hk⟩)); (case aO => exact (by (with_reducible repeat (first | apply Kd.N_alloc | apply Kd.N_drewN | apply Kd.N_drew)); exact HO_3.out)); (case aS => exact (below_size (by repeat (first | (with_reducible first | exact HB.out | apply below_alloc | apply pw_below_drewN | apply below_drew1 | refine below_set ?_ GE128.out) | exact HB.out)))); (case aL => have := LMc4.out; omega); intro v130 w9 ho hb hg hat; rw [← Ny129.out] at ho; have n0_ := Aside0.mk (Kd.V_afterv (ok := (fun k_ => (P0_2_ k_ ∨ w.heap.size ≤ k_) ∧ k_ ≠ gb128)) (by (with_reducible repeat (first | apply Kd.V_alloc | apply Kd.V_drewN | apply Kd.V_drew)); exact Kd.V_mono HO_129002.out (fun _ hk => ⟨⟨hk.1, hk.2.2⟩, hk.2.1⟩)) hg hat); have n1_ := Aside0.mk (blk_grown (g := gb128) (o := .cells #[.int .i64 x129000_1, .int .i64 x129001_1, .slice Ao10 x129002_1.length co10] 41 (0, 0)) (by (with_reducible repeat (first | refine blk_drewN ?_ _ | refine blk_drew ?_ | refine blk_alloc ?_ _)); exact BK128.out) hg (Kd.N_away HO_3.out (fun _ hk => hk.2))); have n2_ := Aside0.mk (hb); have n3_ := Aside0.mk (ho); clear HO_129002; clear BK128; clear HB; clear HO_3; have HO_129002 := n0_; have BK128 := n1_; have HB := n2_; have HO131 := n3_; clear n0_ n1_ n2_ n3_; clear ho hb hg hat; have hcz11_0 : w9.cell? ⟨gb128, 0, none⟩ = some (.int .i64 x129000_1) := (blk_cell BK128.out 0).trans rfl; have hcz11_1 : w9.cell? ⟨gb128, 1, none⟩ = some (.int .i64 x129001_1) := (blk_cell BK128.out 1).trans rfl; have hcz11_2 : w9.cell? ⟨gb128, 2, none⟩ = some (.slice Ao10 x129002_1.length co10) := (blk_cell BK128.out 2).trans rfl; have hfz11_0 := blk_frozen BK128.out 0; have hfz11_1 := blk_frozen BK128.out 1; have hfz11_2 := blk_frozen BK128.out 2) | ((with_reducible refine gate_callee (f := 40) rfl ?_); refine goesL_ (some 14) rfl rfl Tryd.func40 (by kernel_rfl) rfl #[.agg #[.int .i64 x129000_1, .int .i64 x129001_1, .slice Ao10 x129002_1.length co10]] rfl (by (try simp only [List.map_toArray, List.map_cons, List.map_nil]); first | done | rfl | (simp only [List.length_drop, List.length_take]; rfl)) ?_; (with_reducible refine (spec_tyTurn.calls k1 x129000_1 x129001_1 _ _ x129002_1 t132 t133 t134 _ ?side1 ?side2 A5.out).mono ?_); (case side1 => repeat (first | exact (Kd.V_reads' HO_129002.out).2.2 | (with_reducible refine Kd.C_alloc ?_ _) | (with_reducible refine Kd.C_drewN ?_ _) | (with_reducible refine Kd.C_drew ?_))); (case side2 => exact (Kd.V_reads' HO_129002.out).2.1); rintro e w12 ⟨v135, rfl, ho0, hb⟩; refine ⟨_, rfl, ?_⟩; have n0_ := Aside0.mk (Kd.V_elder' (by (with_reducible repeat (first | apply Kd.V_alloc | apply Kd.V_drewN | apply Kd.V_drew)); exact HO_129002.out) (Kd.R_base ho0) hb); have n1_ := Aside0.mk (Kd.N_elder' (by (with_reducible repeat (first | apply Kd.N_alloc | apply Kd.N_drewN | apply Kd.N_drew)); exact HO131.out) (Kd.R_base ho0) hb); have n2_ := Aside0.mk (Kd.R_lower (Kd.R_newM (M := fun k_ => (w.heap.size ≤ k_)) ho0 (below_size (by repeat (first | (with_reducible first | exact HB.out | apply below_alloc | apply pw_below_drewN | apply below_drew1 | refine below_set ?_ GE128.out) | exact HB.out))) (fun k_ h_ => h_)) (below_size (by repeat (first | (with_reducible first | exact HB.out | apply below_alloc | apply pw_below_drewN | apply below_drew1 | refine below_set ?_ GE128.out) | exact HB.out)))); have n3_ := Aside0.mk (blk_below (g := gb128) (o := .cells #[.int .i64 x129000_1, .int .i64 x129001_1, .slice Ao10 x129002_1.length co10] 41 (0, 0)) (by (with_reducible repeat (first | refine blk_drewN ?_ _ | refine blk_drew ?_ | refine blk_alloc ?_ _)); exact BK128.out) hb); have n4_ := Aside0.mk (below_step (by repeat (first | (with_reducible first | exact HB.out | apply below_alloc | apply pw_below_drewN | apply below_drew1 | refine below_set ?_ GE128.out) | exact HB.out)) hb); clear HO_129002; clear HO131; clear BK128; clear HB; have HO_129002 := n0_; have HO131 := n1_; have HO136 := n2_; have BK128 := n3_; have HB := n4_; clear n0_ n1_ n2_ n3_ n4_; (try clear hb); (try clear hb2); (try clear hk); (try clear hi); (try clear ho0); have hcz13_0 : w12.cell? ⟨gb128, 0, none⟩ = some (.int .i64 x129000_1) := (blk_cell BK128.out 0).trans rfl; have hcz13_1 : w12.cell? ⟨gb128, 1, none⟩ = some (.int .i64 x129001_1) := (blk_cell BK128.out 1).trans rfl; have hcz13_2 : w12.cell? ⟨gb128, 2, none⟩ = some (.slice Ao10 x129002_1.length co10) := (blk_cell BK128.out 2).trans rfl; have hfz13_0 := blk_frozen BK128.out 0; have hfz13_1 := blk_frozen BK128.out 1; have hfz13_2 := blk_frozen BK128.out 2; obtain ⟨Ao14, co14, eo14⟩ := Kd.R_slice HO136.out; subst eo14) | ((with_reducible refine gate_callee (f := 51) rfl ?_); refine goesL_ (some 18) rfl rfl Tryd.func51 (by kernel_rfl) rfl #[.agg #[.int .i64 t132, .int .i64 t133, .slice Ao14 t134.length co14]] rfl (by (try simp only [List.map_toArray, List.map_cons, List.map_nil]); first | done | rfl | (simp only [List.length_drop, List.length_take]; rfl)) ?_; (with_reducible refine (spec_tyMirror.calls k1 t132 t133 _ _ t134 t137 t138 t139 _ ?side1 ?side2 A7.out).mono ?_); (case side1 => refine (Kd.R_reads' (e := 5) (base := w.heap.size) (ok := fun k_ => ((w.heap.size ≤ k_) ∧ True)) (n := t134.length) (c := co14) ?_).2.2; exact (by (with_reducible repeat (first | apply Kd.R_alloc | apply Kd.R_drewN | apply Kd.R_drew)); exact (Kd.R_mono (Kd.R_far (p := ⟨gb128, 2, none⟩) (Kd.R_far (p := ⟨gb128, 1, none⟩) (Kd.R_far (p := ⟨gb128, 0, none⟩) (Kd.R_types HO136.out BK128.out (by decide)) (fun _ hk => hk.2) (.int .i64 t132)) (fun _ hk => hk.2) (.int .i64 t133)) (fun _ hk => hk.2) (.slice Ao14 t134.length co14)) (fun _ h_ => h_.1)))); (case side2 => exact (Kd.R_reads' HO136.out).2.1); rintro e w15 ⟨v140, rfl, ho0, hb⟩; refine ⟨_, rfl, ?_⟩; have n0_ := Aside0.mk (Kd.V_elder' (by (with_reducible repeat (first | apply Kd.V_alloc | apply Kd.V_drewN | apply Kd.V_drew)); exact (Kd.V_mono (Kd.V_far (p := ⟨gb128, 2, none⟩) (Kd.V_far (p := ⟨gb128, 1, none⟩) (Kd.V_far (p := ⟨gb128, 0, none⟩) (Kd.V_mono HO_129002.out (fun k_ hk => (⟨hk, hk.1.1.2⟩ : _ ∧ k_ ≠ gb128))) (fun _ hk => hk.2) (.int .i64 t132)) (fun _ hk => hk.2) (.int .i64 t133)) (fun _ hk => hk.2) (.slice Ao14 t134.length co14)) (fun _ h_ => h_.1))) (Kd.R_base ho0) hb); have n1_ := Aside0.mk (Kd.N_elder' (by (with_reducible repeat (first | apply Kd.N_alloc | apply Kd.N_drewN | apply Kd.N_drew)); exact (Kd.N_mono (Kd.N_far (p := ⟨gb128, 2, none⟩) (Kd.N_far (p := ⟨gb128, 1, none⟩) (Kd.N_far (p := ⟨gb128, 0, none⟩) (Kd.N_mono HO131.out (fun k_ hk => (⟨hk, hk.1.2⟩ : _ ∧ k_ ≠ gb128))) (fun _ hk => hk.2) (.int .i64 t132)) (fun _ hk => hk.2) (.int .i64 t133)) (fun _ hk => hk.2) (.slice Ao14 t134.length co14)) (fun _ h_ => h_.1))) (Kd.R_base ho0) hb); have n2_ := Aside0.mk (Kd.R_elder' (by (with_reducible repeat (first | apply Kd.R_alloc | apply Kd.R_drewN | apply Kd.R_drew)); exact (Kd.R_mono (Kd.R_far (p := ⟨gb128, 2, none⟩) (Kd.R_far (p := ⟨gb128, 1, none⟩) (Kd.R_far (p := ⟨gb128, 0, none⟩) (Kd.R_types HO136.out BK128.out (by decide)) (fun _ hk => hk.2) (.int .i64 t132)) (fun _ hk => hk.2) (.int .i64 t133)) (fun _ hk => hk.2) (.slice Ao14 t134.length co14)) (fun _ h_ => h_.1))) (Kd.R_base ho0) hb); have n3_ := Aside0.mk (Kd.R_lower (Kd.R_new' (Kd.R_newM (M := fun k_ => (w.heap.size ≤ k_)) ho0 (below_size (by repeat (first | (with_reducible first | exact HB.out | apply below_alloc | apply pw_below_drewN | apply below_drew1 | refine below_set ?_ GE128.out) | exact HB.out))) (fun k_ h_ => h_)) (Kd.R_lt (by (with_reducible repeat (first | apply Kd.R_alloc | apply Kd.R_drewN | apply Kd.R_drew)); exact (Kd.R_mono (Kd.R_far (p := ⟨gb128, 2, none⟩) (Kd.R_far (p := ⟨gb128, 1, none⟩) (Kd.R_far (p := ⟨gb128, 0, none⟩) (Kd.R_types HO136.out BK128.out (by decide)) (fun _ hk => hk.2) (.int .i64 t132)) (fun _ hk => hk.2) (.int .i64 t133)) (fun _ hk => hk.2) (.slice Ao14 t134.length co14)) (fun _ h_ => h_.1))))) (below_size (by repeat (first | (with_reducible first | exact HB.out | apply below_alloc | apply pw_below_drewN | apply below_drew1 | refine below_set ?_ GE128.out) | exact HB.out)))); have n4_ := Aside0.mk (blk_below (g := gb128) (o := .cells #[.int .i64 t132, .int .i64 t133, .slice Ao14 t134.length co14] 41 (0, 0)) (by (with_reducible repeat (first | refine blk_drewN ?_ _ | refine blk_drew ?_ | refine blk_alloc ?_ _)); refine blk_put (cs := #[.int .i64 t132, .int .i64 t133, .slice Ao10 x129002_1.length co10]) ?_ 2 _ rfl; (with_reducible repeat (first | refine blk_drewN ?_ _ | refine blk_drew ?_ | refine blk_alloc ?_ _)); refine blk_put (cs := #[.int .i64 t132, .int .i64 x129001_1, .slice Ao10 x129002_1.length co10]) ?_ 1 _ rfl; (with_reducible repeat (first | refine blk_drewN ?_ _ | refine blk_drew ?_ | refine blk_alloc ?_ _)); refine blk_put (cs := #[.int .i64 x129000_1, .int .i64 x129001_1, .slice Ao10 x129002_1.length co10]) ?_ 0 _ rfl; (with_reducible repeat (first | refine blk_drewN ?_ _ | refine blk_drew ?_ | refine blk_alloc ?_ _)); exact BK128.out) hb); have n5_ := Aside0.mk (below_step (by repeat (first | (with_reducible first | exact HB.out | apply below_alloc | apply pw_below_drewN | apply below_drew1 | refine below_set ?_ GE128.out) | exact HB.out)) hb); clear HO_129002; clear HO131; clear HO136; clear BK128; clear HB; have HO_129002 := n0_; have HO131 := n1_; have HO136 := n2_; have HO141 := n3_; have BK128 := n4_; have HB := n5_; clear n0_ n1_ n2_ n3_ n4_ n5_; (try clear hb); (try clear hb2); (try clear hk); (try clear hi); (try clear ho0); have hcz16_0 : w15.cell? ⟨gb128, 0, none⟩ = some (.int .i64 t132) := (blk_cell BK128.out 0).trans rfl; have hcz16_1 : w15.cell? ⟨gb128, 1, none⟩ = some (.int .i64 t133) := (blk_cell BK128.out 1).trans rfl; have hcz16_2 : w15.cell? ⟨gb128, 2, none⟩ = some (.slice Ao14 t134.length co14) := (blk_cell BK128.out 2).trans rfl; have hfz16_0 := blk_frozen BK128.out 0; have hfz16_1 := blk_frozen BK128.out 1; have hfz16_2 := blk_frozen BK128.out 2; obtain ⟨Ao17, co17, eo17⟩ := Kd.R_slice HO141.out; subst eo17))
            go_roundg k1
            case measure => have := HK1.out; omega
            case rel => exact ⟨(y129), (wrap64 (x4_1 + 1)), (t137), (t138), (t139), (.slice Ao17 t139.length co17), (by first | rfl | (simp; done) | (simp [*]; done)), H', ⟨by have := HK1.out; omega⟩, ⟨by (with_reducible repeat (first | apply Kd.N_alloc | apply Kd.N_drewN | apply Kd.N_drew)); exact Kd.N_mono (Kd.N_far (p := ⟨gb128, 2, none⟩) (Kd.N_far (p := ⟨gb128, 1, none⟩) (Kd.N_far (p := ⟨gb128, 0, none⟩) (Kd.N_mono HO131.out (fun k_ hk => (⟨hk, hk.1.1.2⟩ : _ ∧ k_ ≠ gb128))) (fun _ hk => hk.2) (.int .i64 t137)) (fun _ hk => hk.2) (.int .i64 t138)) (fun _ hk => hk.2) (.slice Ao17 t139.length co17)) (fun _ hk => ⟨hk.1.1.1.1, hk.1.1.1.2⟩)⟩, ⟨Kd.V_mono (Kd.R_V (Kd.R_far (p := ⟨gb128, 2, none⟩) (Kd.R_far (p := ⟨gb128, 1, none⟩) (Kd.R_far (p := ⟨gb128, 0, none⟩) (Kd.R_types (Kd.R_types (Kd.R_apart' HO141.out (Kd.N_typed HO131.out) (by decide)) BK128.out (by decide)) BK128.out (by decide)) (fun _ hk => hk.2) (.int .i64 t137)) (fun _ hk => hk.2) (.int .i64 t138)) (fun _ hk => hk.2) (.slice Ao17 t139.length co17))) (fun k_ hk => by first | exact ⟨.inr hk.1, hk.1.1.2, hk.2⟩ | exact ⟨.inr hk.1.1, hk.1.1.2, hk.2⟩ | exact ⟨.inr hk.1.1.1, hk.1.1.2, hk.2⟩ | exact ⟨.inr hk.1.1.1.1, hk.1.1.2, hk.2⟩ | exact ⟨.inr hk.1.1.1.1.1, hk.1.1.2, hk.2⟩ | exact ⟨.inr hk.1.1.1.1.1.1, hk.1.1.2, hk.2⟩ | exact ⟨.inr hk.1.1.1.1.1.1.1, hk.1.1.2, hk.2⟩ | exact ⟨.inr hk.1.1.1.1.1.1.1.1, hk.1.1.2, hk.2⟩ | exact ⟨.inr hk.1, hk.2⟩ | exact ⟨.inr hk.1.1, hk.2⟩ | exact ⟨.inr hk.1.1.1, hk.2⟩ | exact ⟨.inr hk.1.1.1.1, hk.2⟩ | exact ⟨.inr hk.1.1.1.1.1, hk.2⟩ | exact ⟨.inr hk.1.1.1.1.1.1, hk.2⟩ | exact ⟨.inr hk.1.1.1.1.1.1.1, hk.2⟩ | exact ⟨.inr hk.1.1.1.1.1.1.1.1, hk.2⟩ | exact ⟨⟨.inr hk.1, hk.1.2⟩, hk.2⟩ | exact ⟨⟨.inr hk.1.1, hk.1.2⟩, hk.2⟩ | exact ⟨⟨.inr hk.1.1.1, hk.1.2⟩, hk.2⟩ | exact ⟨⟨.inr hk.1.1.1.1, hk.1.2⟩, hk.2⟩ | exact ⟨⟨.inr hk.1.1.1.1.1, hk.1.2⟩, hk.2⟩ | exact ⟨⟨.inr hk.1.1.1.1.1.1, hk.1.2⟩, hk.2⟩ | exact ⟨⟨.inr hk.1.1.1.1.1.1.1, hk.1.2⟩, hk.2⟩ | exact ⟨⟨.inr hk.1.1.1.1.1.1.1.1, hk.1.2⟩, hk.2⟩ | exact .inr hk.1 | exact .inr hk.1.1 | exact .inr hk.1.1.1 | exact .inr hk.1.1.1.1 | exact .inr hk.1.1.1.1.1 | exact .inr hk.1.1.1.1.1.1 | exact .inr hk.1.1.1.1.1.1.1 | exact .inr hk.1.1.1.1.1.1.1.1)⟩, ⟨by (with_reducible repeat (first | refine blk_drewN ?_ _ | refine blk_drew ?_ | refine blk_alloc ?_ _)); refine blk_put (cs := #[.int .i64 t137, .int .i64 t138, .slice Ao14 t134.length co14]) ?_ 2 _ rfl; (with_reducible repeat (first | refine blk_drewN ?_ _ | refine blk_drew ?_ | refine blk_alloc ?_ _)); refine blk_put (cs := #[.int .i64 t137, .int .i64 t133, .slice Ao14 t134.length co14]) ?_ 1 _ rfl; (with_reducible repeat (first | refine blk_drewN ?_ _ | refine blk_drew ?_ | refine blk_alloc ?_ _)); refine blk_put (cs := #[.int .i64 t132, .int .i64 t133, .slice Ao14 t134.length co14]) ?_ 0 _ rfl; (with_reducible repeat (first | refine blk_drewN ?_ _ | refine blk_drew ?_ | refine blk_alloc ?_ _)); exact BK128.out⟩, ⟨by repeat (first | (with_reducible first | exact HB.out | apply below_alloc | apply pw_below_drewN | apply below_drew1 | refine below_set ?_ GE128.out) | exact HB.out)⟩⟩
          · rw [if_neg c6] at H
            have c6b0 : (x4_1 == 3) = false := beq_eq_false_iff_ne.mpr c6
            have c6b1 : (x4_1 != 3) = true := bne_iff_ne.mpr c6
            have H' := Aside0.mk H
            clear H
            have hcz18_0 : wr.cell? ⟨gb128, 0, none⟩ = some (.int .i64 x129000_1) := (blk_cell BK128.out 0).trans rfl
            have hcz18_1 : wr.cell? ⟨gb128, 1, none⟩ = some (.int .i64 x129001_1) := (blk_cell BK128.out 1).trans rfl
            have hcz18_2 : wr.cell? ⟨gb128, 2, none⟩ = some (u129002) := (blk_cell BK128.out 2).trans rfl
            have hfz18_0 := blk_frozen BK128.out 0
            have hfz18_1 := blk_frozen BK128.out 1
            have hfz18_2 := blk_frozen BK128.out 2
            obtain ⟨Ao20, co20, eo20⟩ := Kd.V_slice HO_129002.out
            subst eo20
            go_wp2_with (first | ((with_reducible refine gate_builtin (b := .append) (xs := #[.tmp 9, .tmp 11]) rfl ?_); at_builtin; refine Kd.N_append k41 (w0 := w) w.heap.size rfl (.tmp 9) (.tmp 11) 51 41 (.agg #[(.int .i64 0), (.int .i64 0), (.slice none 0 0)]) 40 rfl Tryd.underlying51 info41 rfl (by decide) (by omega) u3 x3_1 (⟨x129000_1, x129001_1, x129002_1⟩ : S41) [.int .i64 x129000_1, .int .i64 x129001_1, .slice Ao20 x129002_1.length co20] (fun k_ => (P0_2_ k_ ∨ w.heap.size ≤ k_) ∧ k_ ≠ gb128) (fun k_ => ((fun k_ => (P0_2_ k_ ∨ w.heap.size ≤ k_) ∧ k_ ≠ gb128)) k_ ∧ some k_ ≠ (u3 : Value).ownBlock) rfl rfl ?aP (fun _ hk => hk) ?aF ?aO ?aB ?aS ?aL ?_; (case aP => exact (k41_mkF _ _ (⟨x129000_1, x129001_1, x129002_1⟩ : S41) (Kd.V_reads' (Kd.V_mono (ok' := (fun k_ => ((fun k_ => (P0_2_ k_ ∨ w.heap.size ≤ k_) ∧ k_ ≠ gb128)) k_ ∧ some k_ ≠ (u3 : Value).ownBlock)) (HO_129002.out) (fun k_ hk => ⟨⟨hk.1, hk.2.2⟩, hk.2.1⟩))).2.1 (Kd.V_F (Kd.V_mono (ok' := (fun k_ => ((fun k_ => (P0_2_ k_ ∨ w.heap.size ≤ k_) ∧ k_ ≠ gb128)) k_ ∧ some k_ ≠ (u3 : Value).ownBlock)) (HO_129002.out) (fun k_ hk => ⟨⟨hk.1, hk.2.2⟩, hk.2.1⟩))))); (case aB => exact (by repeat (first | (with_reducible first | exact HB.out | apply below_alloc | apply pw_below_drewN | apply below_drew1 | refine below_set ?_ GE128.out) | exact HB.out))); (case aF => exact (fun k_ hk => ⟨(.inr (Nat.le_trans (below_size (by repeat (first | (with_reducible first | exact HB.out | apply below_alloc | apply pw_below_drewN | apply below_drew1 | refine below_set ?_ GE128.out) | exact HB.out))) hk)), Kd.freshB (g := gb128) (o := .cells #[.int .i64 x129000_1, .int .i64 x129001_1, .slice Ao20 x129002_1.length co20] 41 (0, 0)) (by (with_reducible repeat (first | refine blk_drewN ?_ _ | refine blk_drew ?_ | refine blk_alloc ?_ _)); exact BK128.out) k_ hk⟩)); (case aO => exact (by (with_reducible repeat (first | apply Kd.N_alloc | apply Kd.N_drewN | apply Kd.N_drew)); exact HO_3.out)); (case aS => exact (below_size (by repeat (first | (with_reducible first | exact HB.out | apply below_alloc | apply pw_below_drewN | apply below_drew1 | refine below_set ?_ GE128.out) | exact HB.out)))); (case aL => have := LMc4.out; omega); intro v130 w19 ho hb hg hat; rw [← Ny129.out] at ho; have n0_ := Aside0.mk (Kd.V_afterv (ok := (fun k_ => (P0_2_ k_ ∨ w.heap.size ≤ k_) ∧ k_ ≠ gb128)) (by (with_reducible repeat (first | apply Kd.V_alloc | apply Kd.V_drewN | apply Kd.V_drew)); exact Kd.V_mono HO_129002.out (fun _ hk => ⟨⟨hk.1, hk.2.2⟩, hk.2.1⟩)) hg hat); have n1_ := Aside0.mk (blk_grown (g := gb128) (o := .cells #[.int .i64 x129000_1, .int .i64 x129001_1, .slice Ao20 x129002_1.length co20] 41 (0, 0)) (by (with_reducible repeat (first | refine blk_drewN ?_ _ | refine blk_drew ?_ | refine blk_alloc ?_ _)); exact BK128.out) hg (Kd.N_away HO_3.out (fun _ hk => hk.2))); have n2_ := Aside0.mk (hb); have n3_ := Aside0.mk (ho); clear HO_129002; clear BK128; clear HB; clear HO_3; have HO_129002 := n0_; have BK128 := n1_; have HB := n2_; have HO131 := n3_; clear n0_ n1_ n2_ n3_; clear ho hb hg hat; have hcz21_0 : w19.cell? ⟨gb128, 0, none⟩ = some (.int .i64 x129000_1) := (blk_cell BK128.out 0).trans rfl; have hcz21_1 : w19.cell? ⟨gb128, 1, none⟩ = some (.int .i64 x129001_1) := (blk_cell BK128.out 1).trans rfl; have hcz21_2 : w19.cell? ⟨gb128, 2, none⟩ = some (.slice Ao20 x129002_1.length co20) := (blk_cell BK128.out 2).trans rfl; have hfz21_0 := blk_frozen BK128.out 0; have hfz21_1 := blk_frozen BK128.out 1; have hfz21_2 := blk_frozen BK128.out 2) | ((with_reducible refine gate_callee (f := 40) rfl ?_); refine goesL_ (some 14) rfl rfl Tryd.func40 (by kernel_rfl) rfl #[.agg #[.int .i64 x129000_1, .int .i64 x129001_1, .slice Ao20 x129002_1.length co20]] rfl (by (try simp only [List.map_toArray, List.map_cons, List.map_nil]); first | done | rfl | (simp only [List.length_drop, List.length_take]; rfl)) ?_; (with_reducible refine (spec_tyTurn.calls k1 x129000_1 x129001_1 _ _ x129002_1 t132 t133 t134 _ ?side1 ?side2 A5.out).mono ?_); (case side1 => repeat (first | exact (Kd.V_reads' HO_129002.out).2.2 | (with_reducible refine Kd.C_alloc ?_ _) | (with_reducible refine Kd.C_drewN ?_ _) | (with_reducible refine Kd.C_drew ?_))); (case side2 => exact (Kd.V_reads' HO_129002.out).2.1); rintro e w22 ⟨v135, rfl, ho0, hb⟩; refine ⟨_, rfl, ?_⟩; have n0_ := Aside0.mk (Kd.V_elder' (by (with_reducible repeat (first | apply Kd.V_alloc | apply Kd.V_drewN | apply Kd.V_drew)); exact HO_129002.out) (Kd.R_base ho0) hb); have n1_ := Aside0.mk (Kd.N_elder' (by (with_reducible repeat (first | apply Kd.N_alloc | apply Kd.N_drewN | apply Kd.N_drew)); exact HO131.out) (Kd.R_base ho0) hb); have n2_ := Aside0.mk (Kd.R_lower (Kd.R_newM (M := fun k_ => (w.heap.size ≤ k_)) ho0 (below_size (by repeat (first | (with_reducible first | exact HB.out | apply below_alloc | apply pw_below_drewN | apply below_drew1 | refine below_set ?_ GE128.out) | exact HB.out))) (fun k_ h_ => h_)) (below_size (by repeat (first | (with_reducible first | exact HB.out | apply below_alloc | apply pw_below_drewN | apply below_drew1 | refine below_set ?_ GE128.out) | exact HB.out)))); have n3_ := Aside0.mk (blk_below (g := gb128) (o := .cells #[.int .i64 x129000_1, .int .i64 x129001_1, .slice Ao20 x129002_1.length co20] 41 (0, 0)) (by (with_reducible repeat (first | refine blk_drewN ?_ _ | refine blk_drew ?_ | refine blk_alloc ?_ _)); exact BK128.out) hb); have n4_ := Aside0.mk (below_step (by repeat (first | (with_reducible first | exact HB.out | apply below_alloc | apply pw_below_drewN | apply below_drew1 | refine below_set ?_ GE128.out) | exact HB.out)) hb); clear HO_129002; clear HO131; clear BK128; clear HB; have HO_129002 := n0_; have HO131 := n1_; have HO136 := n2_; have BK128 := n3_; have HB := n4_; clear n0_ n1_ n2_ n3_ n4_; (try clear hb); (try clear hb2); (try clear hk); (try clear hi); (try clear ho0); have hcz23_0 : w22.cell? ⟨gb128, 0, none⟩ = some (.int .i64 x129000_1) := (blk_cell BK128.out 0).trans rfl; have hcz23_1 : w22.cell? ⟨gb128, 1, none⟩ = some (.int .i64 x129001_1) := (blk_cell BK128.out 1).trans rfl; have hcz23_2 : w22.cell? ⟨gb128, 2, none⟩ = some (.slice Ao20 x129002_1.length co20) := (blk_cell BK128.out 2).trans rfl; have hfz23_0 := blk_frozen BK128.out 0; have hfz23_1 := blk_frozen BK128.out 1; have hfz23_2 := blk_frozen BK128.out 2; obtain ⟨Ao24, co24, eo24⟩ := Kd.R_slice HO136.out; subst eo24))
            go_roundg k1
            case measure => have := HK1.out; omega
            case rel => exact ⟨(y129), (wrap64 (x4_1 + 1)), (t132), (t133), (t134), (.slice Ao24 t134.length co24), (by first | rfl | (simp; done) | (simp [*]; done)), H', ⟨by have := HK1.out; omega⟩, ⟨by (with_reducible repeat (first | apply Kd.N_alloc | apply Kd.N_drewN | apply Kd.N_drew)); exact Kd.N_mono (Kd.N_far (p := ⟨gb128, 2, none⟩) (Kd.N_far (p := ⟨gb128, 1, none⟩) (Kd.N_far (p := ⟨gb128, 0, none⟩) (Kd.N_mono HO131.out (fun k_ hk => (⟨hk, hk.1.2⟩ : _ ∧ k_ ≠ gb128))) (fun _ hk => hk.2) (.int .i64 t132)) (fun _ hk => hk.2) (.int .i64 t133)) (fun _ hk => hk.2) (.slice Ao24 t134.length co24)) (fun _ hk => ⟨hk.1.1.1, hk.1.1.2⟩)⟩, ⟨Kd.V_mono (Kd.R_V (Kd.R_far (p := ⟨gb128, 2, none⟩) (Kd.R_far (p := ⟨gb128, 1, none⟩) (Kd.R_far (p := ⟨gb128, 0, none⟩) (Kd.R_types (Kd.R_types (Kd.R_apart' HO136.out (Kd.N_typed HO131.out) (by decide)) BK128.out (by decide)) BK128.out (by decide)) (fun _ hk => hk.2) (.int .i64 t132)) (fun _ hk => hk.2) (.int .i64 t133)) (fun _ hk => hk.2) (.slice Ao24 t134.length co24))) (fun k_ hk => by first | exact ⟨.inr hk.1, hk.1.1.2, hk.2⟩ | exact ⟨.inr hk.1.1, hk.1.1.2, hk.2⟩ | exact ⟨.inr hk.1.1.1, hk.1.1.2, hk.2⟩ | exact ⟨.inr hk.1.1.1.1, hk.1.1.2, hk.2⟩ | exact ⟨.inr hk.1.1.1.1.1, hk.1.1.2, hk.2⟩ | exact ⟨.inr hk.1.1.1.1.1.1, hk.1.1.2, hk.2⟩ | exact ⟨.inr hk.1.1.1.1.1.1.1, hk.1.1.2, hk.2⟩ | exact ⟨.inr hk.1.1.1.1.1.1.1.1, hk.1.1.2, hk.2⟩ | exact ⟨.inr hk.1, hk.2⟩ | exact ⟨.inr hk.1.1, hk.2⟩ | exact ⟨.inr hk.1.1.1, hk.2⟩ | exact ⟨.inr hk.1.1.1.1, hk.2⟩ | exact ⟨.inr hk.1.1.1.1.1, hk.2⟩ | exact ⟨.inr hk.1.1.1.1.1.1, hk.2⟩ | exact ⟨.inr hk.1.1.1.1.1.1.1, hk.2⟩ | exact ⟨.inr hk.1.1.1.1.1.1.1.1, hk.2⟩ | exact ⟨⟨.inr hk.1, hk.1.2⟩, hk.2⟩ | exact ⟨⟨.inr hk.1.1, hk.1.2⟩, hk.2⟩ | exact ⟨⟨.inr hk.1.1.1, hk.1.2⟩, hk.2⟩ | exact ⟨⟨.inr hk.1.1.1.1, hk.1.2⟩, hk.2⟩ | exact ⟨⟨.inr hk.1.1.1.1.1, hk.1.2⟩, hk.2⟩ | exact ⟨⟨.inr hk.1.1.1.1.1.1, hk.1.2⟩, hk.2⟩ | exact ⟨⟨.inr hk.1.1.1.1.1.1.1, hk.1.2⟩, hk.2⟩ | exact ⟨⟨.inr hk.1.1.1.1.1.1.1.1, hk.1.2⟩, hk.2⟩ | exact .inr hk.1 | exact .inr hk.1.1 | exact .inr hk.1.1.1 | exact .inr hk.1.1.1.1 | exact .inr hk.1.1.1.1.1 | exact .inr hk.1.1.1.1.1.1 | exact .inr hk.1.1.1.1.1.1.1 | exact .inr hk.1.1.1.1.1.1.1.1)⟩, ⟨by (with_reducible repeat (first | refine blk_drewN ?_ _ | refine blk_drew ?_ | refine blk_alloc ?_ _)); refine blk_put (cs := #[.int .i64 t132, .int .i64 t133, .slice Ao20 x129002_1.length co20]) ?_ 2 _ rfl; (with_reducible repeat (first | refine blk_drewN ?_ _ | refine blk_drew ?_ | refine blk_alloc ?_ _)); refine blk_put (cs := #[.int .i64 t132, .int .i64 x129001_1, .slice Ao20 x129002_1.length co20]) ?_ 1 _ rfl; (with_reducible repeat (first | refine blk_drewN ?_ _ | refine blk_drew ?_ | refine blk_alloc ?_ _)); refine blk_put (cs := #[.int .i64 x129000_1, .int .i64 x129001_1, .slice Ao20 x129002_1.length co20]) ?_ 0 _ rfl; (with_reducible repeat (first | refine blk_drewN ?_ _ | refine blk_drew ?_ | refine blk_alloc ?_ _)); exact BK128.out⟩, ⟨by repeat (first | (with_reducible first | exact HB.out | apply below_alloc | apply pw_below_drewN | apply below_drew1 | refine below_set ?_ GE128.out) | exact HB.out)⟩⟩
        · rw [if_neg c4] at H
          exact absurd H (by simp)
      · rw [if_neg c3] at H
        have c3b0 : decide (x4_1 < 8) = false := decide_eq_false c3
        clear c3
        obtain rfl := Option.some.inj H
        go_wp2
        go_ret
        exact ⟨_, by first | rfl | (simp [errW_none, errW_some] <;> rfl) | (simp [*, errW_none, errW_some] <;> rfl), by (with_reducible repeat (first | apply Kd.N_alloc | apply Kd.N_drewN | apply Kd.N_drew)); exact Kd.N_mono HO_3.out (fun _ hk => hk.1), by repeat (first | (with_reducible first | exact HB.out | apply below_alloc | apply pw_below_drewN | apply below_drew1 | refine below_set ?_ GE128.out) | exact HB.out)⟩

/-! ### spec_tyText: function 31 -/
def spec_tyText.l0 : Nat → ByteArray → Int → Int → Int → List Int → Option (ByteArray)
  | 0, _, _, _, _, _ => none
  | k + 1, x3, x4, x143000, x143001, x143002 => if x4 < x143001 then (if x4 > 0 then (if x3.size + 1 ≤ 9223372036854775807 then (if 0 ≤ (wrap64 (x4 * x143000)) then (if (wrap64 (x4 * x143000)) ≤ (wrap64 ((wrap64 (x4 + 1)) * x143000)) then (if (wrap64 ((wrap64 (x4 + 1)) * x143000)) ≤ (x143002.length : Int) then (if (x3 ++ (⟨#[47]⟩ : ByteArray)).size + (strOfNums ((x143002.take ((wrap64 ((wrap64 (x4 + 1)) * x143000)) : Int).toNat).drop ((wrap64 (x4 * x143000)) : Int).toNat)).size ≤ 9223372036854775807 then (spec_tyText.l0 k ((x3 ++ (⟨#[47]⟩ : ByteArray)) ++ (strOfNums ((x143002.take ((wrap64 ((wrap64 (x4 + 1)) * x143000)) : Int).toNat).drop ((wrap64 (x4 * x143000)) : Int).toNat))) (wrap64 (x4 + 1)) x143000 x143001 x143002) else (none)) else (none)) else (none)) else (none)) else (none)) else (if 0 ≤ (wrap64 (x4 * x143000)) then (if (wrap64 (x4 * x143000)) ≤ (wrap64 ((wrap64 (x4 + 1)) * x143000)) then (if (wrap64 ((wrap64 (x4 + 1)) * x143000)) ≤ (x143002.length : Int) then (if x3.size + (strOfNums ((x143002.take ((wrap64 ((wrap64 (x4 + 1)) * x143000)) : Int).toNat).drop ((wrap64 (x4 * x143000)) : Int).toNat)).size ≤ 9223372036854775807 then (spec_tyText.l0 k (x3 ++ (strOfNums ((x143002.take ((wrap64 ((wrap64 (x4 + 1)) * x143000)) : Int).toNat).drop ((wrap64 (x4 * x143000)) : Int).toNat))) (wrap64 (x4 + 1)) x143000 x143001 x143002) else (none)) else (none)) else (none)) else (none))) else (some x3)
def spec_tyText.f (k : Nat) (a0_0 : Int) (a0_1 : Int) (l0_2 : List Int) : Option (ByteArray) := spec_tyText.l0 k (⟨#[]⟩ : ByteArray) 0 a0_0 a0_1 l0_2
theorem spec_tyText.mono_l : ∀ k, (∀ y0 y1 y2 y3 y4, LeO (spec_tyText.l0 k y0 y1 y2 y3 y4) (spec_tyText.l0 (k + 1) y0 y1 y2 y3 y4))
  | 0 => fun _ _ _ _ _ r h => by simp [spec_tyText.l0] at h
  | k + 1 => by
    have ih0 := spec_tyText.mono_l k
    · intro y0 y1 y2 y3 y4
      unfold spec_tyText.l0
      repeat' first
      | (with_reducible exact ih0 _ _ _ _ _)
      | (with_reducible exact LeO.refl _)
      | (with_reducible exact LeO.none _)
      | (with_reducible refine LeO.ite ?_ ?_)
      | (with_reducible refine LeO.bind ?_ (fun _ => ?_))
      | exact ih0 _ _ _ _ _
      | exact LeO.none _
      | refine LeO.ite ?_ ?_
      | refine LeO.bind ?_ (fun _ => ?_)
theorem spec_tyText.mono : ∀ a0 a1 a2 k, LeO (spec_tyText.f k a0 a1 a2) (spec_tyText.f (k + 1) a0 a1 a2) := by
  intro a0 a1 a2 k
  have ih0 := spec_tyText.mono_l k
  unfold spec_tyText.f
  repeat' first
      | (with_reducible exact ih0 _ _ _ _ _)
      | (with_reducible exact LeO.refl _)
      | (with_reducible exact LeO.none _)
      | (with_reducible refine LeO.ite ?_ ?_)
      | (with_reducible refine LeO.bind ?_ (fun _ => ?_))
      | exact ih0 _ _ _ _ _
      | exact LeO.none _
      | refine LeO.ite ?_ ?_
      | refine LeO.bind ?_ (fun _ => ?_)
set_option maxHeartbeats 8000000 in
set_option maxRecDepth 100000 in
theorem spec_tyText.calls (k : Nat) (a0_0 : Int) (a0_1 : Int) (A0_2 : Option Addr) (c0_2 : Nat) (l0_2 : List Int) (r : ByteArray) (w : World) (hr0_2 : Kd.C (Kd.int .u8) w A0_2 l0_2.length l0_2) (hc0_2 : l0_2.length ≤ c0_2) (h : spec_tyText.f k a0_0 a0_1 l0_2 = some r) :
    Calls Tryd.prog 31 #[.agg #[.int .i64 a0_0, .int .i64 a0_1, .slice A0_2 l0_2.length c0_2]] w fun e w' => e = .returned (.string r) ∧ Below w.heap.size w w' := by
  have hu41 := Tryd.underlying41
  have HR0_2 := Aside0.mk hr0_2
  have HC0_2 := Aside0.mk hc0_2
  clear hr0_2 hc0_2
  have HB := Aside0.mk (Below.refl w.heap.size w)
  have H : (spec_tyText.l0 k (⟨#[]⟩ : ByteArray) 0 a0_0 a0_1 l0_2) = some r := h
  clear h
  have H' := Aside0.mk H
  clear H
  go_enter Tryd.func31, Tryd.ntmps31
  go_wp2_with (first | ((with_reducible refine gate_dst (N := 1) rfl ?_); refine box_event ?hg (N := 1) ?hd (cs := #[.int .i64 a0_0, .int .i64 a0_1, .slice A0_2 l0_2.length c0_2]) (t := 41) ?hr ?_; (case hd => rfl); (case hg => rfl); (case hr => first | (go_simp; done) | (go_simp; rfl)); intro gb142 hg w2 hbox hb; have n0_ := Aside0.mk (below_step (by repeat (first | (with_reducible first | exact HB.out | apply below_alloc | apply pw_below_drewN | apply below_drew1) | exact HB.out)) hb); have n1_ := Aside0.mk (hbox); have n2_ := Aside0.mk ((by rw [hg]; exact (below_size (by repeat (first | (with_reducible first | exact HB.out | apply below_alloc | apply pw_below_drewN | apply below_drew1) | exact HB.out))) : w.heap.size ≤ gb142)); have n3_ := Aside0.mk ((by rw [hg]; exact (below_size (by repeat (first | (with_reducible first | exact HB.out | apply below_alloc | apply pw_below_drewN | apply below_drew1) | exact HB.out))) : w.heap.size ≤ gb142)); clear HB; have HB := n0_; have BK142 := n1_; have GW142 := n2_; have GE142 := n3_; clear n0_ n1_ n2_ n3_; clear hb hbox hg))
  go_loopg [3, 4] k (fun kq v3 v4 w' => ∃ (x3_1 : ByteArray) (x4_1 : Int), v3 = .string x3_1 ∧ v4 = .int .i64 x4_1 ∧ Aside0 (spec_tyText.l0 kq x3_1 x4_1 a0_0 a0_1 l0_2 = some r) ∧ Aside0 (kq ≤ k) ∧ Aside0 (w'.heap[gb142]? = some (.cells #[.int .i64 a0_0, .int .i64 a0_1, (.slice A0_2 l0_2.length c0_2)] 41 (0, 0))) ∧ Aside0 (Below w.heap.size w w'))
  case atStart => exact ⟨((⟨#[]⟩ : ByteArray)), (0), (by first | rfl | (simp; done) | (simp [*]; done)), (by first | rfl | (simp; done) | (simp [*]; done)), H', ⟨Nat.le_refl _⟩, ⟨by (with_reducible repeat (first | refine blk_drewN ?_ _ | refine blk_drew ?_ | refine blk_alloc ?_ _)); exact BK142.out⟩, ⟨by repeat (first | (with_reducible first | exact HB.out | apply below_alloc | apply pw_below_drewN | apply below_drew1 | refine below_set ?_ GE142.out) | exact HB.out)⟩⟩
  case round =>
    clear H'
    try clear p2
    obtain ⟨x3_1, x4_1, rfl, rfl, HA, HK1, BK142, HB⟩ := hrel
    cases gk with
    | zero => exact absurd HA.out (by simp [spec_tyText.l0])
    | succ k1 =>
      have H := HA.out
      clear HA
      simp only [spec_tyText.l0] at H
      by_cases c3 : x4_1 < a0_1
      · rw [if_pos c3] at H
        have c3b0 : decide (x4_1 < a0_1) = true := decide_eq_true c3
        clear c3
        by_cases c4 : x4_1 > 0
        · rw [if_pos c4] at H
          have c4b0 : decide (0 < x4_1) = true := decide_eq_true c4
          clear c4
          by_cases c5 : x3_1.size + 1 ≤ 9223372036854775807
          · rw [if_pos c5] at H
            have c5b0 := eq_true c5
            have c5b1 : decide (x3_1.size + 1 ≤ 9223372036854775807) = true := decide_eq_true c5
            try have c5b2 : (9223372036854775807 < x3_1.size + 1) = False := eq_false (Nat.not_lt.2 c5)
            obtain ⟨ji6, hji6⟩ : ∃ j_ : Int, (wrap64 (x4_1 * a0_0)) = j_ := ⟨_, rfl⟩
            replace H : (if 0 ≤ (ji6) then (if (ji6) ≤ (wrap64 ((wrap64 (x4_1 + 1)) * a0_0)) then (if (wrap64 ((wrap64 (x4_1 + 1)) * a0_0)) ≤ (l0_2.length : Int) then (if (x3_1 ++ (⟨#[47]⟩ : ByteArray)).size + (strOfNums ((l0_2.take ((wrap64 ((wrap64 (x4_1 + 1)) * a0_0)) : Int).toNat).drop ((ji6) : Int).toNat)).size ≤ 9223372036854775807 then (spec_tyText.l0 k1 ((x3_1 ++ (⟨#[47]⟩ : ByteArray)) ++ (strOfNums ((l0_2.take ((wrap64 ((wrap64 (x4_1 + 1)) * a0_0)) : Int).toNat).drop ((ji6) : Int).toNat))) (wrap64 (x4_1 + 1)) a0_0 a0_1 l0_2) else (none)) else (none)) else (none)) else (none)) = some r := by first | (rw [hji6] at H; exact H) | (simp only [hji6] at H ⊢; exact H)
            have hji6w : (IntKind.i64.wrap (x4_1 * a0_0)) = ji6 := (i64_w _).trans hji6
            by_cases c7 : 0 ≤ (ji6)
            · rw [if_pos c7] at H
              have c7b0 := eq_true c7
              have c7b1 : decide (0 ≤ (ji6)) = true := decide_eq_true c7
              clear c7
              by_cases c8 : (ji6) ≤ (wrap64 ((wrap64 (x4_1 + 1)) * a0_0))
              · rw [if_pos c8] at H
                have c8b0 := eq_true c8
                have c8b1 : decide ((ji6) ≤ (wrap64 ((wrap64 (x4_1 + 1)) * a0_0))) = true := decide_eq_true c8
                by_cases c9 : (wrap64 ((wrap64 (x4_1 + 1)) * a0_0)) ≤ (l0_2.length : Int)
                · rw [if_pos c9] at H
                  have c9b0 := eq_true c9
                  have c9b1 : decide ((wrap64 ((wrap64 (x4_1 + 1)) * a0_0)) ≤ (l0_2.length : Int)) = true := decide_eq_true c9
                  by_cases c10 : (x3_1 ++ (⟨#[47]⟩ : ByteArray)).size + (strOfNums ((l0_2.take ((wrap64 ((wrap64 (x4_1 + 1)) * a0_0)) : Int).toNat).drop ((ji6) : Int).toNat)).size ≤ 9223372036854775807
                  · rw [if_pos c10] at H
                    have c10b0 := eq_true c10
                    have c10b1 : decide ((x3_1 ++ (⟨#[47]⟩ : ByteArray)).size + (strOfNums ((l0_2.take ((wrap64 ((wrap64 (x4_1 + 1)) * a0_0)) : Int).toNat).drop ((ji6) : Int).toNat)).size ≤ 9223372036854775807) = true := decide_eq_true c10
                    try have c10b2 : (9223372036854775807 < (x3_1 ++ (⟨#[47]⟩ : ByteArray)).size + (strOfNums ((l0_2.take ((wrap64 ((wrap64 (x4_1 + 1)) * a0_0)) : Int).toNat).drop ((ji6) : Int).toNat)).size) = False := eq_false (Nat.not_lt.2 c10)
                    have H' := Aside0.mk H
                    clear H
                    have hcz11_0 : wr.cell? ⟨gb142, 0, none⟩ = some (.int .i64 a0_0) := (blk_cell BK142.out 0).trans rfl
                    have hcz11_1 : wr.cell? ⟨gb142, 1, none⟩ = some (.int .i64 a0_1) := (blk_cell BK142.out 1).trans rfl
                    have hcz11_2 : wr.cell? ⟨gb142, 2, none⟩ = some (.slice A0_2 l0_2.length c0_2) := (blk_cell BK142.out 2).trans rfl
                    have hfz11_0 := blk_frozen BK142.out 0
                    have hfz11_1 := blk_frozen BK142.out 1
                    have hfz11_2 := blk_frozen BK142.out 2
                    obtain ⟨i012, hi012, _, hsz12, _⟩ := info_parts info5
                    obtain ⟨A12, hcut12, hA12, hC12⟩ := print_mid_of (P := Tryd.prog) (Value.int .u8) 0 39 5 .i64 .i64 Tryd.underlying39 hi012 hsz12 A0_2 c0_2 l0_2 (ji6) (wrap64 ((wrap64 (x4_1 + 1)) * a0_0)) (of_decide_eq_true (by first | (with_reducible assumption) | assumption)) (by first | omega | exact of_decide_eq_true (by first | (with_reducible assumption) | assumption)) (of_decide_eq_true (by first | (with_reducible assumption) | assumption)) HC0_2.out
                    have HR143 := Aside0.mk (Kd.C_of_reads (h1 := fun _ => rfl) (hA12 _ (Kd.reads_of_C HR0_2.out)))
                    have HC143 := Aside0.mk hC12
                    clear hA12 hC12 hi012 hsz12
                    have hcv13 := Kd.C_string (P := Tryd.prog) (A := A12) (c := (c0_2 - (ji6).toNat)) Tryd.underlying39 Tryd.underlying5 Tryd.underlying9 (Kd.C_below HR143.out HB.out)
                    try (rw [List.length_drop, List.length_take, Nat.min_eq_left] at hcv13; rotate_left; exact Int.toNat_le.2 (of_decide_eq_true (by first | (with_reducible assumption) | assumption)))
                    go_wp2
                    go_roundg k1
                    case measure => have := HK1.out; omega
                    case rel => exact ⟨((x3_1 ++ (⟨#[47]⟩ : ByteArray)) ++ (strOfNums ((l0_2.take ((wrap64 ((wrap64 (x4_1 + 1)) * a0_0)) : Int).toNat).drop ((ji6) : Int).toNat))), (wrap64 (x4_1 + 1)), (by first | rfl | (simp; done) | (simp only [← hji6] <;> (first | rfl | simp)) | (simp [*]; done)), (by first | rfl | (simp; done) | (simp [*]; done)), H', ⟨by have := HK1.out; omega⟩, ⟨by (with_reducible repeat (first | refine blk_drewN ?_ _ | refine blk_drew ?_ | refine blk_alloc ?_ _)); exact BK142.out⟩, ⟨by repeat (first | (with_reducible first | exact HB.out | apply below_alloc | apply pw_below_drewN | apply below_drew1 | refine below_set ?_ GE142.out) | exact HB.out)⟩⟩
                  · rw [if_neg c10] at H
                    exact absurd H (by simp)
                · rw [if_neg c9] at H
                  exact absurd H (by simp)
              · rw [if_neg c8] at H
                exact absurd H (by simp)
            · rw [if_neg c7] at H
              exact absurd H (by simp)
          · rw [if_neg c5] at H
            exact absurd H (by simp)
        · rw [if_neg c4] at H
          have c4b0 : decide (0 < x4_1) = false := decide_eq_false c4
          clear c4
          obtain ⟨ji14, hji14⟩ : ∃ j_ : Int, (wrap64 (x4_1 * a0_0)) = j_ := ⟨_, rfl⟩
          replace H : (if 0 ≤ (ji14) then (if (ji14) ≤ (wrap64 ((wrap64 (x4_1 + 1)) * a0_0)) then (if (wrap64 ((wrap64 (x4_1 + 1)) * a0_0)) ≤ (l0_2.length : Int) then (if x3_1.size + (strOfNums ((l0_2.take ((wrap64 ((wrap64 (x4_1 + 1)) * a0_0)) : Int).toNat).drop ((ji14) : Int).toNat)).size ≤ 9223372036854775807 then (spec_tyText.l0 k1 (x3_1 ++ (strOfNums ((l0_2.take ((wrap64 ((wrap64 (x4_1 + 1)) * a0_0)) : Int).toNat).drop ((ji14) : Int).toNat))) (wrap64 (x4_1 + 1)) a0_0 a0_1 l0_2) else (none)) else (none)) else (none)) else (none)) = some r := by first | (rw [hji14] at H; exact H) | (simp only [hji14] at H ⊢; exact H)
          have hji14w : (IntKind.i64.wrap (x4_1 * a0_0)) = ji14 := (i64_w _).trans hji14
          by_cases c15 : 0 ≤ (ji14)
          · rw [if_pos c15] at H
            have c15b0 := eq_true c15
            have c15b1 : decide (0 ≤ (ji14)) = true := decide_eq_true c15
            clear c15
            by_cases c16 : (ji14) ≤ (wrap64 ((wrap64 (x4_1 + 1)) * a0_0))
            · rw [if_pos c16] at H
              have c16b0 := eq_true c16
              have c16b1 : decide ((ji14) ≤ (wrap64 ((wrap64 (x4_1 + 1)) * a0_0))) = true := decide_eq_true c16
              by_cases c17 : (wrap64 ((wrap64 (x4_1 + 1)) * a0_0)) ≤ (l0_2.length : Int)
              · rw [if_pos c17] at H
                have c17b0 := eq_true c17
                have c17b1 : decide ((wrap64 ((wrap64 (x4_1 + 1)) * a0_0)) ≤ (l0_2.length : Int)) = true := decide_eq_true c17
                by_cases c18 : x3_1.size + (strOfNums ((l0_2.take ((wrap64 ((wrap64 (x4_1 + 1)) * a0_0)) : Int).toNat).drop ((ji14) : Int).toNat)).size ≤ 9223372036854775807
                · rw [if_pos c18] at H
                  have c18b0 := eq_true c18
                  have c18b1 : decide (x3_1.size + (strOfNums ((l0_2.take ((wrap64 ((wrap64 (x4_1 + 1)) * a0_0)) : Int).toNat).drop ((ji14) : Int).toNat)).size ≤ 9223372036854775807) = true := decide_eq_true c18
                  try have c18b2 : (9223372036854775807 < x3_1.size + (strOfNums ((l0_2.take ((wrap64 ((wrap64 (x4_1 + 1)) * a0_0)) : Int).toNat).drop ((ji14) : Int).toNat)).size) = False := eq_false (Nat.not_lt.2 c18)
                  have H' := Aside0.mk H
                  clear H
                  have hcz19_0 : wr.cell? ⟨gb142, 0, none⟩ = some (.int .i64 a0_0) := (blk_cell BK142.out 0).trans rfl
                  have hcz19_1 : wr.cell? ⟨gb142, 1, none⟩ = some (.int .i64 a0_1) := (blk_cell BK142.out 1).trans rfl
                  have hcz19_2 : wr.cell? ⟨gb142, 2, none⟩ = some (.slice A0_2 l0_2.length c0_2) := (blk_cell BK142.out 2).trans rfl
                  have hfz19_0 := blk_frozen BK142.out 0
                  have hfz19_1 := blk_frozen BK142.out 1
                  have hfz19_2 := blk_frozen BK142.out 2
                  obtain ⟨i020, hi020, _, hsz20, _⟩ := info_parts info5
                  obtain ⟨A20, hcut20, hA20, hC20⟩ := print_mid_of (P := Tryd.prog) (Value.int .u8) 0 39 5 .i64 .i64 Tryd.underlying39 hi020 hsz20 A0_2 c0_2 l0_2 (ji14) (wrap64 ((wrap64 (x4_1 + 1)) * a0_0)) (of_decide_eq_true (by first | (with_reducible assumption) | assumption)) (by first | omega | exact of_decide_eq_true (by first | (with_reducible assumption) | assumption)) (of_decide_eq_true (by first | (with_reducible assumption) | assumption)) HC0_2.out
                  have HR144 := Aside0.mk (Kd.C_of_reads (h1 := fun _ => rfl) (hA20 _ (Kd.reads_of_C HR0_2.out)))
                  have HC144 := Aside0.mk hC20
                  clear hA20 hC20 hi020 hsz20
                  have hcv21 := Kd.C_string (P := Tryd.prog) (A := A20) (c := (c0_2 - (ji14).toNat)) Tryd.underlying39 Tryd.underlying5 Tryd.underlying9 (Kd.C_below HR144.out HB.out)
                  try (rw [List.length_drop, List.length_take, Nat.min_eq_left] at hcv21; rotate_left; exact Int.toNat_le.2 (of_decide_eq_true (by first | (with_reducible assumption) | assumption)))
                  go_wp2
                  go_roundg k1
                  case measure => have := HK1.out; omega
                  case rel => exact ⟨(x3_1 ++ (strOfNums ((l0_2.take ((wrap64 ((wrap64 (x4_1 + 1)) * a0_0)) : Int).toNat).drop ((ji14) : Int).toNat))), (wrap64 (x4_1 + 1)), (by first | rfl | (simp; done) | (simp only [← hji14] <;> (first | rfl | simp)) | (simp [*]; done)), (by first | rfl | (simp; done) | (simp [*]; done)), H', ⟨by have := HK1.out; omega⟩, ⟨by (with_reducible repeat (first | refine blk_drewN ?_ _ | refine blk_drew ?_ | refine blk_alloc ?_ _)); exact BK142.out⟩, ⟨by repeat (first | (with_reducible first | exact HB.out | apply below_alloc | apply pw_below_drewN | apply below_drew1 | refine below_set ?_ GE142.out) | exact HB.out)⟩⟩
                · rw [if_neg c18] at H
                  exact absurd H (by simp)
              · rw [if_neg c17] at H
                exact absurd H (by simp)
            · rw [if_neg c16] at H
              exact absurd H (by simp)
          · rw [if_neg c15] at H
            exact absurd H (by simp)
      · rw [if_neg c3] at H
        have c3b0 : decide (x4_1 < a0_1) = false := decide_eq_false c3
        clear c3
        obtain rfl := Option.some.inj H
        have hcz22_0 : wr.cell? ⟨gb142, 0, none⟩ = some (.int .i64 a0_0) := (blk_cell BK142.out 0).trans rfl
        have hcz22_1 : wr.cell? ⟨gb142, 1, none⟩ = some (.int .i64 a0_1) := (blk_cell BK142.out 1).trans rfl
        have hcz22_2 : wr.cell? ⟨gb142, 2, none⟩ = some (.slice A0_2 l0_2.length c0_2) := (blk_cell BK142.out 2).trans rfl
        have hfz22_0 := blk_frozen BK142.out 0
        have hfz22_1 := blk_frozen BK142.out 1
        have hfz22_2 := blk_frozen BK142.out 2
        go_wp2
        go_ret
        exact ⟨by first | rfl | (simp [errW_none, errW_some] <;> rfl) | (simp [*, errW_none, errW_some] <;> rfl), by repeat (first | (with_reducible first | exact HB.out | apply below_alloc | apply pw_below_drewN | apply below_drew1 | refine below_set ?_ GE142.out) | exact HB.out)⟩

end Go.Proofs.YtcglmngfglmcgaaDoor.Q
