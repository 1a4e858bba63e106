/- Contract of the program's method (Board).canSolve, in one line: the blocks' numbers in their order, without the hole. -/
import Derived.Shelf.SlicesE.DeleteFunc
import Derived.WalkKit
import Derived.RangeFuncRecord
import Derived.Deep.LoopGhost
import Derived.Lib.Walk
import Derived.Lib.SliceRun
import Derived.Test.YtcblfoaomlokoaaProg
import Derived.Test.YtcblfoaomlokoaaWLast
import Derived.Test.YtcblfoaomlokoaaWMore
import Derived.Test.YtcblfoaomlokoaaShelf
set_option linter.unusedVariables false
set_option linter.unusedSimpArgs false
namespace Go.Proofs.YtcblfoaomlokoaaV
open Go.Shelf Go.RowKit Go.Lib Go.Sort Go.Proofs.YtcblfoaomlokoaaW.PrintWords Go.Proofs.YtcblfoaomlokoaaW.PrintLast
namespace CS
theorem put_grown {w : World} {g n o : Nat} (d : Array Int) : w.grownBy (putRow (Value.int .i64) (Sort.ahead w n) g o d) (some g) := by
  refine ⟨rfl, rfl, rfl, by simp [putRow, mapBlock, Sort.ahead], fun k hk hne => ?_⟩
  have : g ≠ k := fun e => hne (by rw [e])
  simp [putRow, mapBlock, Sort.ahead, Array.getElem?_modify, this]
theorem isHole (W : World) (x : Int) : FnGives Try.prog 36 #[] #[.int .i64 x] (.bool (decide (x = 0))) W := by
  show Calls Try.prog 36 #[.int .i64 x] W _
  go_enter Try.func36, Try.ntmps36
  go_wp2
  all_goals (go_ret; exact ⟨by first | rfl | (simp; done) | (simp [beq_eq_decide]; done), 0, rfl⟩)
theorem holds_of_R {W : World} {e b g cap : Nat} {ok : Nat → Prop} {l : List Int} (h : Kd.R (Kd.int .i64) e W b ok (.slice (some ⟨g, 0, none⟩) l.length cap) l) : Holds (Value.int .i64) W g 0 l.toArray := by
  intro j hj
  have hj' : j < l.length := by simpa using hj
  obtain ⟨h1, h2⟩ := Kd.R_cell (0 : Int) h (j : Int) (by omega) (by omega)
  rw [Int.toNat_natCast] at h1 h2
  rw [Nat.zero_add]
  refine ⟨?_, h2⟩
  rw [h1]
  unfold rdOf
  rw [Int.toNat_natCast]
  simp [List.getD, hj']
theorem C_of_holds {W : World} {g m : Nat} {d : Array Int} {l : List Int} (h : Holds (Value.int .i64) W g 0 d) (hl : m = l.length) (hsm : l.length ≤ 1000000) (hd : ∀ j (hj : j < l.length), j < d.size ∧ d[j]! = l[j]) : Kd.C (Kd.int .i64) W (some ⟨g, 0, none⟩) m l := by
  refine ⟨hl.symm, by omega, fun _ => ⟨_, rfl, fun j p hj => ⟨[.int .i64 p], rfl, rfl, fun i u hu => ?_⟩⟩⟩
  have hjl := (List.getElem?_eq_some_iff.1 hj).1
  have hjv := (List.getElem?_eq_some_iff.1 hj).2
  have hi : i = 0 := by
    have := (List.getElem?_eq_some_iff.1 hu).1
    simp at this
    omega
  subst hi
  have hu' : Value.int .i64 p = u := by simpa using hu
  subst hu'
  have e1 : j * (Kd.int .i64).sz + 0 = j := by show j * 1 + 0 = j; omega
  rw [e1, add_plain]
  obtain ⟨d1, d2⟩ := hd j hjl
  have := (h j d1).1
  rw [Nat.zero_add, d2, hjv] at this
  exact this
theorem cell_heap {W : World} {B j : Nat} {cur : Array Value} {t : TypeId} {fr : Nat × Nat} {v : Value} (h : W.heap[B]? = some (.cells cur t fr)) (hj : cur[j]? = some v) : W.cell? ⟨B, j, none⟩ = some v := by
  simp [World.cell?, h, hj]
end CS
open CS
set_option maxRecDepth 100000 in
set_option maxHeartbeats 2000000 in
theorem canSolve_calls (a : Int) (A : Option Addr) (c : Nat) (l : List Int) (h p : Int) (s r : Bool) (w : World) (hpos : 0 < l.length) (hl : l.length ≤ 1000000)
    (HH : 1 < a → ∀ W, Below w.heap.size w W → Calls Try.prog 21 #[.agg #[.int .i64 a, .slice A l.length c]] W fun e w' => e = .returned (.int .i64 h) ∧ Below W.heap.size W w')
    (HP : 1 < a → 1 < h → ∀ W, Below w.heap.size w W → Calls Try.prog 32 #[.agg #[.int .i64 a, .slice A l.length c]] W fun e w' => e = .returned (.int .i64 p) ∧ Below W.heap.size W w')
    (HC : ∀ W, Below w.heap.size w W → Calls Try.prog 35 #[.slice A l.length c] W fun e w' => ∃ v_ : Value, e = .returned v_ ∧ Kd.R (Kd.int .i64) 3 w' W.heap.size (fun _ => True) v_ l ∧ Below W.heap.size W w')
    (HS : ¬ (1 < a ∧ 1 < h) → ∀ (A1 : Option Addr) (c1 : Nat) (W : World), Kd.C (Kd.int .i64) W A1 (l.filter fun x => !decide (x = 0)).length (l.filter fun x => !decide (x = 0)) → (l.filter fun x => !decide (x = 0)).length ≤ c1 →
      Calls Try.prog 33 #[.slice A1 (l.filter fun x => !decide (x = 0)).length c1] W fun e w' => e = .returned (.bool s) ∧ Drawn0 W w')
    (hr : r = if 1 < a then (if 1 < h then decide (p = 0) else s) else s) :
    Calls Try.prog 19 #[.agg #[.int .i64 a, .slice A l.length c]] w fun e w' => e = .returned (.bool r) ∧ Below w.heap.size w w' := by
  -- the line
  have eg : ∀ args w, (callFunc 36 args).run Try.prog w = .ok (.enter 36 args) w := enters_of Try.func36 (by kernel_rfl) rfl
  have HD : ∀ (g cap : Nat) (W : World), Kd.R (Kd.int .i64) 3 W w.heap.size (fun _ => True) (.slice (some ⟨g, 0, none⟩) l.length cap) l → l.length ≤ cap →
      Calls Try.prog 34 #[.slice (some ⟨g, 0, none⟩) l.length cap, .func (.func 36) #[] #[]] W fun e w' => e = .returned (.slice (some ⟨g, 0, none⟩) (l.filter fun x => !decide (x = 0)).length cap) ∧ W.grownBy w' (some g) ∧ Kd.C (Kd.int .i64) w' (some ⟨g, 0, none⟩) (l.filter fun x => !decide (x = 0)).length (l.filter fun x => !decide (x = 0)) := by
    intro g cap W hR hcap
    have hH := holds_of_R hR
    have hls : l.toArray.size = l.length := by simp
    have hle : (l.filter fun x => !decide (x = 0)).length ≤ l.length := List.length_filter_le _ _
    have X := AnyE.slices_DeleteFunc Try.laysSlH10 (Value.int .i64) (fun _ => rfl) (fun x => decide (x = 0)) 36 #[] eg 0 (fun w => Try.zeroValue3 w) g 0 cap l.toArray W
      (fun W x _ => isHole W x) (fun n os dk x _ => isHole _ x) hH (by rw [hls]; omega) (by rw [hls]; exact hcap)
    rw [hls] at X
    refine X.mono ?_
    rintro e w' ⟨he, q, rfl⟩
    refine ⟨by rw [he], put_grown _, ?_⟩
    refine C_of_holds (holds_putRow (Value.int .i64) _ g 0 l.toArray _ (holds_ahead (Value.int .i64) W q g 0 l.toArray hH) ?_) rfl (by omega) ?_
    · simp
      omega
    · intro j hj
      have hj2 : j < l.length := by omega
      refine ⟨by simp; omega, ?_⟩
      simp only [List.getElem!_toArray]
      rw [getElem!_pos _ j (by simp; omega), List.getElem_append_left hj]
  have HD' := Aside0.mk HD
  have HH' := Aside0.mk HH
  have HP' := Aside0.mk HP
  have HC' := Aside0.mk HC
  have HS' := Aside0.mk HS
  clear HD HH HP HC HS eg
  generalize hF : (l.filter fun x => !decide (x = 0)) = F at HD' HS'
  have HFL : Aside0 (F.length ≤ l.length) := Aside0.mk (by rw [← hF]; exact List.length_filter_le _ _)
  clear hF
  have hBa : Below w.heap.size w (w.alloc (.cells #[.int .i64 a, .slice A l.length c] 28)) := (Below.refl _ w).alloc (Nat.le_refl _) _
  have hx := World.alloc_heap_new w (.cells #[.int .i64 a, .slice A l.length c] 28)
  have hsz : (w.alloc (.cells #[.int .i64 a, .slice A l.length c] 28)).heap.size = w.heap.size + 1 := World.size_alloc ..
  have BX := Aside0.mk (And.intro hBa (And.intro hx hsz))
  clear hBa hx hsz
  by_cases h1 : 1 < a
  · rw [if_pos h1] at hr
    by_cases h2 : 1 < h
    · rw [if_pos h2] at hr
      subst hr
      go_enter Try.func19, Try.ntmps19
      go_wp2_with (first | (go_at_call 21; refine (HH'.out h1 _ BX.out.1).mono ?_; rintro e w1 ⟨rfl, hb1⟩; have hy := (hb1.block w.heap.size (by rw [BX.out.2.2]; omega)).trans BX.out.2.1; have k0 := CS.cell_heap (j := 0) hy rfl; have k1 := CS.cell_heap (j := 1) hy rfl; have hB1 : Below w.heap.size w w1 := BX.out.1.trans (hb1.mono BX.out.1.size); clear hb1 hy) | (go_at_call 32; refine (HP'.out h1 h2 _ hB1).mono ?_; rintro e w2 ⟨rfl, hb2⟩))
      go_ret
      exact ⟨by first | rfl | (simp; done), hB1.trans (hb2.mono hB1.size)⟩
    · rw [if_neg h2] at hr
      subst hr
      have HS2 := Aside0.mk (HS'.out (fun z => h2 z.2))
      go_enter Try.func19, Try.ntmps19
      go_wp2_with (first | (go_at_call 21; refine (HH'.out h1 _ BX.out.1).mono ?_; rintro e w1 ⟨rfl, hb1⟩; have hy := (hb1.block w.heap.size (by rw [BX.out.2.2]; omega)).trans BX.out.2.1; have k0 := CS.cell_heap (j := 0) hy rfl; have k1 := CS.cell_heap (j := 1) hy rfl; have hB1 : Below w.heap.size w w1 := BX.out.1.trans (hb1.mono BX.out.1.size); clear hb1 hy) | (go_at_call 35; refine (HC'.out _ hB1).mono ?_; rintro e w2 ⟨v2, rfl, hR2, hb2⟩; obtain ⟨g, cap, rfl, hgb, hgl⟩ := Kd.R_form hR2 hpos) | (go_at_call 34; refine (HD'.out g cap _ (Kd.R_lower hR2 hB1.size) (Kd.R_reads' hR2).2.1).mono ?_; rintro e w3 ⟨rfl, hg3, hC3⟩) | (go_at_call 33; refine (HS2.out _ _ _ hC3 (Nat.le_trans HFL.out (Kd.R_reads' hR2).2.1)).mono ?_; rintro e w4 ⟨rfl, hd4⟩))
      go_ret
      have hB2 := hB1.trans (hb2.mono hB1.size)
      have hB3 := hB2.grown hg3 hB2.size (by intro k hk; have hk' : some g = some k := hk; cases hk'; exact Nat.le_trans hB1.size hgb)
      exact ⟨by first | rfl | (simp; done), hB3.trans (hd4.below.mono hB3.size)⟩
  · rw [if_neg h1] at hr
    subst hr
    have HS2 := Aside0.mk (HS'.out (fun z => h1 z.1))
    have k0 := CS.cell_heap (j := 0) BX.out.2.1 rfl
    have k1 := CS.cell_heap (j := 1) BX.out.2.1 rfl
    go_enter Try.func19, Try.ntmps19
    go_wp2_with (first | (go_at_call 35; refine (HC'.out _ BX.out.1).mono ?_; rintro e w2 ⟨v2, rfl, hR2, hb2⟩; obtain ⟨g, cap, rfl, hgb, hgl⟩ := Kd.R_form hR2 hpos) | (go_at_call 34; refine (HD'.out g cap _ (Kd.R_lower hR2 BX.out.1.size) (Kd.R_reads' hR2).2.1).mono ?_; rintro e w3 ⟨rfl, hg3, hC3⟩) | (go_at_call 33; refine (HS2.out _ _ _ hC3 (Nat.le_trans HFL.out (Kd.R_reads' hR2).2.1)).mono ?_; rintro e w4 ⟨rfl, hd4⟩))
    go_ret
    have hB2 := BX.out.1.trans (hb2.mono BX.out.1.size)
    have hB3 := hB2.grown hg3 hB2.size (by intro k hk; have hk' : some g = some k := hk; cases hk'; exact Nat.le_trans BX.out.1.size hgb)
    exact ⟨by first | rfl | (simp; done), hB3.trans (hd4.below.mono hB3.size)⟩
end Go.Proofs.YtcblfoaomlokoaaV
