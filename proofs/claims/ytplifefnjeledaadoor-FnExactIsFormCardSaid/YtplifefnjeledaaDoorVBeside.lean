/- Contract of the program's method (tray).beside: the numbers of a cell's neighbours. -/
import Derived.WalkKit
import Derived.Deep.LoopGhost
import Derived.Lib.Walk
import Derived.RangeFuncRecord
import Derived.Shelf.RegionOpenPlain
import Derived.Deep.RegionWith
import Derived.Deep.CutBlock
import Derived.RangeFuncBox
import Derived.Test.YtplifefnjeledaaDoorProg
import Derived.Test.YtplifefnjeledaaDoorWLast
import Derived.Test.YtplifefnjeledaaDoorWMore
import Derived.Test.YtplifefnjeledaaDoorVWithin
set_option linter.unusedVariables false
set_option linter.unusedSimpArgs false
namespace Go.Proofs.YtplifefnjeledaaDoorV
open Go.RowKit Go.Proofs.YtplifefnjeledaaDoorW.PrintWords Go.Proofs.YtplifefnjeledaaDoorW.PrintLast
namespace BS
theorem cell_heap {W : World} {B j : Nat} {cur : Array Value} {t : TypeId} {fr : Nat × Nat} {v : Value} (h : W.heap[B]? = some (.cells cur t fr)) (hj : cur[j]? = some v) : W.cell? ⟨B, j, none⟩ = some v := by
 simp [World.cell?, h, hj]
end BS
def besD : List (Int × Int) := [(0, -1), (1, 0), (0, 1), (-1, 0)]
def besOne (w h x y : Int) (d : Int × Int) : List Int := if (inW (wrap64 (x + d.1)) 0 (wrap64 (w - 1)) && inW (wrap64 (y + d.2)) 0 (wrap64 (h - 1))) = true then [wrap64 (wrap64 (wrap64 (y + d.2) * w) + wrap64 (x + d.1))] else []
def besL (w h k : Int) (n : Nat) : List Int := (besD.take n).flatMap (besOne w h (Int.tmod k w) (wrap64 (Int.tdiv k w)))
theorem besL_succ {w h k : Int} {n : Nat} {d : Int × Int} (hd : besD[n]? = some d) : besL w h k (n + 1) = besL w h k n ++ besOne w h (Int.tmod k w) (wrap64 (Int.tdiv k w)) d := by
 obtain ⟨hlt, he⟩ := List.getElem?_eq_some_iff.1 hd
 unfold besL
 rw [List.take_succ_eq_append_getElem hlt, List.flatMap_append, he]
 simp
theorem besL_len (w h k : Int) (n : Nat) : (besL w h k n).length ≤ 4 := by
 have one : ∀ d, (besOne w h (Int.tmod k w) (wrap64 (Int.tdiv k w)) d).length ≤ 1 := by
  intro d
  unfold besOne
  split <;> simp
 have all : ∀ l : List (Int × Int), (l.flatMap (besOne w h (Int.tmod k w) (wrap64 (Int.tdiv k w)))).length ≤ l.length := by
  intro l
  induction l with
  | nil => simp
  | cons d l ih =>
   rw [List.flatMap_cons, List.length_append, List.length_cons]
   have := one d
   omega
 refine Nat.le_trans (all _) ?_
 rw [List.length_take]
 exact Nat.min_le_right _ _
theorem infoIB : (Tryd.prog.info? 3).map (fun i => (i.zero, i.size, i.bytes)) = some (some (.int .i64 0), 1, 8) := by kernel_rfl
set_option maxRecDepth 100000 in
set_option maxHeartbeats 4000000 in
theorem beside_calls (HW : ∀ (a b c : Int) (W : World), Calls Tryd.prog 61 #[.int .i64 a, .int .i64 b, .int .i64 c] W fun e w' => e = .returned (.bool (inW a b c)) ∧ Drawn0 W w')
  (HN : ∀ (a0 a1 : Int) (A : Option Addr) (c : Nat) (l : List Int) (x y : Int) (w : World), Kd.C (Kd.int .u8) w A l.length l → l.length ≤ c →
   Calls Tryd.prog 67 #[.agg #[.int .i64 a0, .int .i64 a1, .slice A l.length c], .int .i64 x, .int .i64 y] w fun e w' => e = .returned (.int .i64 (wrap64 (wrap64 (y * a0) + x))) ∧ Below w.heap.size w w')
  (a0 a1 : Int) (A : Option Addr) (c : Nat) (l : List Int) (k : Int) (w : World) (hr : Kd.C (Kd.int .u8) w A l.length l) (hc : l.length ≤ c) (h0 : a0 ≠ 0) :
  Calls Tryd.prog 46 #[.agg #[.int .i64 a0, .int .i64 a1, .slice A l.length c], .int .i64 k] w fun e w' => ∃ v_ : Value, e = .returned v_ ∧ Kd.R (Kd.int .i64) 3 w' w.heap.size (fun _ => True) v_ (besL a0 a1 k 4) ∧ Below w.heap.size w w' := by
 have HW' := Aside0.mk HW
 have HN' := Aside0.mk HN
 have Hr := Aside0.mk (And.intro hr hc)
 clear HW HN hr hc
 have hB0 : Below w.heap.size w (w.alloc (.cells #[.int .i64 a0, .int .i64 a1, .slice A l.length c] 42)) := (Below.refl _ w).alloc (Nat.le_refl _) _
 have hx0 := World.alloc_heap_new w (.cells #[.int .i64 a0, .int .i64 a1, .slice A l.length c] 42)
 have hs0 : (w.alloc (.cells #[.int .i64 a0, .int .i64 a1, .slice A l.length c] 42)).heap.size = w.heap.size + 1 := by simp
 obtain ⟨W0, hW0⟩ : ∃ W0, w.alloc (.cells #[.int .i64 a0, .int .i64 a1, .slice A l.length c] 42) = W0 := ⟨_, rfl⟩
 rw [hW0] at hB0 hx0 hs0
 obtain ⟨b0, hb0⟩ : ∃ b0, w.heap.size = b0 := ⟨_, rfl⟩
 go_enter Tryd.func46, Tryd.ntmps46
 have c3b0 : (a0 == 0) = false := beq_eq_false_iff_ne.mpr h0
 have c3b1 : (a0 != 0) = true := bne_iff_ne.mpr h0
 go_wp2
 rw [hb0] at hB0 hx0 hs0
 have k0 : W0.cell? ⟨b0, 0, none⟩ = some (.int .i64 a0) := BS.cell_heap hx0 rfl
 have k1 : W0.cell? ⟨b0, 1, none⟩ = some (.int .i64 a1) := BS.cell_heap hx0 rfl
 have k2 : W0.cell? ⟨b0, 2, none⟩ = some (.slice A l.length c) := BS.cell_heap hx0 rfl
 have A1 := Aside0.mk (And.intro hB0 (And.intro hx0 hs0))
 clear hB0 hx0 hs0
 have hlt0 : b0 < W0.heap.size := by have := A1.out.2.2; omega
 have k0' : (W0.alloc (.cells #[] 3)).cell? ⟨b0, 0, none⟩ = some (.int .i64 a0) := (((Below.refl _ W0).alloc (Nat.le_refl _) (.cells #[] 3)).cell (p := ⟨b0, 0, none⟩) hlt0).trans k0
 have mixed : Tryd.prog.follows Departure.mixedOrders = true := by kernel_rfl
 go_region_o
 have hb1 : Below b0 w (W0.alloc (.cells #[] 3)).drew := pw_below_drewN (A1.out.1.alloc (Nat.le_of_lt hlt0) (.cells #[] 3)) 1
 have hx1 : (W0.alloc (.cells #[] 3)).drew.heap[b0]? = some (.cells #[.int .i64 a0, .int .i64 a1, .slice A l.length c] 42 (0, 0)) := (Below.heap_alloc W0 (.cells #[] 3) b0 hlt0).trans A1.out.2.1
 have hR1 : Kd.R (Kd.int .i64) 3 (W0.alloc (.cells #[] 3)).drew b0 (fun _ => True) (.slice (some ⟨W0.heap.size, 0, none⟩) 0 0) [] :=
  Kd.R_drew (Kd.R_of_own (enc := Value.int .i64) (h1 := fun _ => rfl) ⟨by simp [encs], Or.inr ⟨W0.heap.size, 0, #[], rfl, Nat.le_of_lt hlt0, World.alloc_heap_new W0 _, by simp, by unfold maxLen; omega, by simp, by simp [encs]⟩⟩ (fun _ _ => trivial))
 have hs1 : b0 < (W0.alloc (.cells #[] 3)).drew.heap.size := Nat.lt_of_lt_of_le hlt0 (by simp [World.drew])
 have hu1 : (Value.slice (some ⟨W0.heap.size, 0, none⟩) 0 0).ownBlock = some W0.heap.size := by simp [Value.ownBlock]
 have hne : W0.heap.size ≠ b0 := by omega
 obtain ⟨W1, hW1⟩ : ∃ W1, (W0.alloc (.cells #[] 3)).drew = W1 := ⟨_, rfl⟩
 obtain ⟨u1, hu⟩ : ∃ u1, (Value.slice (some ⟨W0.heap.size, 0, none⟩) 0 0) = u1 := ⟨_, rfl⟩
 rw [hW1, hu]
 rw [hW1] at hb1 hx1 hR1 hs1
 rw [hu] at hR1
 clear hu1 hW1 k0 k1 k2 k0' A1 hW0 hne hlt0 hu
 obtain ⟨xx, hxx⟩ : ∃ xx, Int.tmod k a0 = xx := ⟨_, rfl⟩
 obtain ⟨yy, hyy⟩ : ∃ yy, wrap64 (Int.tdiv k a0) = yy := ⟨_, rfl⟩
 have hb2 := hb1.alloc (Nat.le_of_lt hs1) (.cells #[.int .i64 0, .int .i64 (-1), .int .i64 1, .int .i64 0, .int .i64 0, .int .i64 1, .int .i64 (-1), .int .i64 0] 87)
 have hx2 := (Below.heap_alloc W1 (.cells #[.int .i64 0, .int .i64 (-1), .int .i64 1, .int .i64 0, .int .i64 0, .int .i64 1, .int .i64 (-1), .int .i64 0] 87) b0 hs1).trans hx1
 have hd2 := World.alloc_heap_new W1 (.cells #[.int .i64 0, .int .i64 (-1), .int .i64 1, .int .i64 0, .int .i64 0, .int .i64 1, .int .i64 (-1), .int .i64 0] 87)
 have hR2 := Kd.R_alloc hR1 (.cells #[.int .i64 0, .int .i64 (-1), .int .i64 1, .int .i64 0, .int .i64 0, .int .i64 1, .int .i64 (-1), .int .i64 0] 87)
 go_wp2
 obtain ⟨W2, hW2⟩ : ∃ W2, W1.alloc (.cells #[.int .i64 0, .int .i64 (-1), .int .i64 1, .int .i64 0, .int .i64 0, .int .i64 1, .int .i64 (-1), .int .i64 0] 87) = W2 := ⟨_, rfl⟩
 obtain ⟨g2, hg2⟩ : ∃ g2, W1.heap.size = g2 := ⟨_, rfl⟩
 rw [hW2] at hb2 hx2 hd2 hR2 ⊢
 rw [hg2] at hd2 hs1 ⊢
 have A2 := Aside0.mk (And.intro hb2 (And.intro hx2 (And.intro hd2 hR2)))
 clear hb2 hx2 hd2 hR2 hb1 hx1 hR1 hW2
 rw [hxx, hyy]
 go_loopw [7, 9, 25] (fun s7 s9 s25 wr => ∃ (n : Nat), n ≤ 4 ∧ s25 = .int .i64 (n : Int) ∧ Aside0 (Kd.R (Kd.int .i64) 3 wr b0 (fun _ => True) s7 (besL a0 a1 k n)) ∧
   Aside0 (wr.heap[b0]? = some (.cells #[.int .i64 a0, .int .i64 a1, .slice A l.length c] 42 (0, 0))) ∧
   Aside0 (wr.heap[g2]? = some (.cells #[.int .i64 0, .int .i64 (-1), .int .i64 1, .int .i64 0, .int .i64 0, .int .i64 1, .int .i64 (-1), .int .i64 0] 87 (0, 0))) ∧ Aside0 (Below b0 w wr))
  (fun _ _ s25 _ => 4 - (intOf s25).toNat)
 case atStart => exact ⟨0, by omega, rfl, Aside0.mk A2.out.2.2.2, Aside0.mk A2.out.2.1, Aside0.mk A2.out.2.2.1, Aside0.mk A2.out.1⟩
 case round =>
  obtain ⟨n, hn, rfl, HR, HX, HD, HB⟩ := hrel
  have lt0 : b0 < wr.heap.size := (Array.getElem?_eq_some_iff.1 HX.out).1
  have lt2 : g2 < wr.heap.size := (Array.getElem?_eq_some_iff.1 HD.out).1
  by_cases hlt : n < 4
  ·have hlti : (n : Int) < 4 := by omega
   obtain ⟨dx, dy, hd, e0, e1⟩ : ∃ dx dy : Int, besD[n]? = some (dx, dy) ∧ wr.cell? ⟨g2, n * 2, none⟩ = some (.int .i64 dx) ∧ wr.cell? ⟨g2, n * 2 + 1, none⟩ = some (.int .i64 dy) := by
    rcases (by omega : n = 0 ∨ n = 1 ∨ n = 2 ∨ n = 3) with rfl | rfl | rfl | rfl
    ·exact ⟨0, -1, rfl, BS.cell_heap HD.out rfl, BS.cell_heap HD.out rfl⟩
    ·exact ⟨1, 0, rfl, BS.cell_heap HD.out rfl, BS.cell_heap HD.out rfl⟩
    ·exact ⟨0, 1, rfl, BS.cell_heap HD.out rfl, BS.cell_heap HD.out rfl⟩
    ·exact ⟨-1, 0, rfl, BS.cell_heap HD.out rfl, BS.cell_heap HD.out rfl⟩
   go_upto_region 5 with (fail)
   have hb3 := HB.out.alloc (Nat.le_of_lt lt0) (.cells #[.int .i64 dx, .int .i64 dy] 87)
   have hx3 := (Below.heap_alloc wr (.cells #[.int .i64 dx, .int .i64 dy] 87) b0 lt0).trans HX.out
   have hd3 := (Below.heap_alloc wr (.cells #[.int .i64 dx, .int .i64 dy] 87) g2 lt2).trans HD.out
   have h93 := World.alloc_heap_new wr (.cells #[.int .i64 dx, .int .i64 dy] 87)
   have hR3 := Kd.R_alloc HR.out (.cells #[.int .i64 dx, .int .i64 dy] 87)
   obtain ⟨W3, hW3⟩ : ∃ W3, wr.alloc (.cells #[.int .i64 dx, .int .i64 dy] 87) = W3 := ⟨_, rfl⟩
   obtain ⟨b9, hb9⟩ : ∃ b9, wr.heap.size = b9 := ⟨_, rfl⟩
   rw [hW3] at hb3 hx3 hd3 h93 hR3 ⊢
   rw [hb9] at h93 ⊢
   clear HB HX HD HR lt0 lt2 hW3 hb9 e0 e1 hs1
   have k0 : W3.cell? ⟨b0, 0, none⟩ = some (.int .i64 a0) := BS.cell_heap hx3 rfl
   have k1 : W3.cell? ⟨b0, 1, none⟩ = some (.int .i64 a1) := BS.cell_heap hx3 rfl
   have k2 : W3.cell? ⟨b0, 2, none⟩ = some (.slice A l.length c) := BS.cell_heap hx3 rfl
   have d0 : W3.cell? ⟨b9, 0, none⟩ = some (.int .i64 dx) := BS.cell_heap h93 rfl
   have d1 : W3.cell? ⟨b9, 1, none⟩ = some (.int .i64 dy) := BS.cell_heap h93 rfl
   have HH := Aside0.mk (And.intro hb3 (And.intro hx3 (And.intro hd3 (And.intro h93 hR3))))
   clear hb3 hx3 hd3 h93 hR3
   have HQ1 : ∀ W, Calls Tryd.prog 61 #[.int .i64 (wrap64 (xx + dx)), .int .i64 0, .int .i64 (wrap64 (a0 - 1))] W fun e w' => e = .returned (.bool (inW (wrap64 (xx + dx)) 0 (wrap64 (a0 - 1)))) ∧ Drawn0 W w' := fun W => HW'.out _ _ _ W
   have HQ2 : ∀ W, Calls Tryd.prog 61 #[.int .i64 (wrap64 (yy + dy)), .int .i64 0, .int .i64 (wrap64 (a1 - 1))] W fun e w' => e = .returned (.bool (inW (wrap64 (yy + dy)) 0 (wrap64 (a1 - 1)))) ∧ Drawn0 W w' := fun W => HW'.out _ _ _ W
   obtain ⟨q1, hq1⟩ : ∃ q1, inW (wrap64 (xx + dx)) 0 (wrap64 (a0 - 1)) = q1 := ⟨_, rfl⟩
   obtain ⟨q2, hq2⟩ : ∃ q2, inW (wrap64 (yy + dy)) 0 (wrap64 (a1 - 1)) = q2 := ⟨_, rfl⟩
   rw [hq1] at HQ1
   rw [hq2] at HQ2
   have Hq := Aside0.mk (And.intro hq1 hq2)
   clear hq1 hq2
   have hsc := besL_succ (w := a0) (h := a1) (k := k) hd
   rw [hxx, hyy] at hsc
   unfold besOne at hsc
   simp only at hsc
   rw [Hq.out.1, Hq.out.2] at hsc
   have hBL := besL_len a0 a1 k n
   have HS := Aside0.mk (And.intro hsc hBL)
   clear hsc hBL
   have hne0 : some b0 ≠ u7.ownBlock := Kd.R_ne HH.out.2.2.2.2 HH.out.2.1 (by decide)
   have hne2 : some g2 ≠ u7.ownBlock := Kd.R_ne HH.out.2.2.2.2 HH.out.2.2.1 (by decide)
   have HNE := Aside0.mk (And.intro hne0 hne2)
   clear hne0 hne2
   cases q1 with
   | false =>
    go_wp2_with (go_at_call 61; (with_reducible refine (HQ1 _).mono ?_); rintro e w1 ⟨rfl, ⟨nd, rfl⟩⟩)
    exact ⟨⟨n + 1, by omega, by simp, Aside0.mk (by rw [HS.out.1, Bool.false_and, if_neg Bool.false_ne_true, List.append_nil]; exact Kd.R_drewN HH.out.2.2.2.2 nd), Aside0.mk HH.out.2.1, Aside0.mk HH.out.2.2.1, Aside0.mk (pw_below_drewN HH.out.1 nd)⟩, by simp [intOf]; omega⟩
   | true =>
    cases q2 with
    | false =>
     go_wp2_with (first | (go_at_call 61; (with_reducible refine (HQ1 _).mono ?_); rintro e w1 ⟨rfl, ⟨nd, rfl⟩⟩; have k1' : (W3.drewN nd).cell? ⟨b0, 1, none⟩ = some (.int .i64 a1) := k1; have d1' : (W3.drewN nd).cell? ⟨b9, 1, none⟩ = some (.int .i64 dy) := d1) | (go_at_call 61; (with_reducible refine (HQ2 _).mono ?_); rintro e w1 ⟨rfl, ⟨nd2, rfl⟩⟩))
     exact ⟨⟨n + 1, by omega, by simp, Aside0.mk (by rw [HS.out.1, Bool.and_false, if_neg Bool.false_ne_true, List.append_nil]; exact Kd.R_drewN HH.out.2.2.2.2 (nd + nd2)), Aside0.mk HH.out.2.1, Aside0.mk HH.out.2.2.1, Aside0.mk (pw_below_drewN HH.out.1 (nd + nd2))⟩, by simp [intOf]; omega⟩
    | true =>
     go_upto_region 6 with (first | (go_at_call 61; (with_reducible refine (HQ1 _).mono ?_); rintro e w1 ⟨rfl, ⟨nd, rfl⟩⟩; have k1' : (W3.drewN nd).cell? ⟨b0, 1, none⟩ = some (.int .i64 a1) := k1; have d1' : (W3.drewN nd).cell? ⟨b9, 1, none⟩ = some (.int .i64 dy) := d1) | (go_at_call 61; (with_reducible refine (HQ2 _).mono ?_); rintro e w1 ⟨rfl, ⟨nd2, rfl⟩⟩))
     have hb4 := pw_below_drewN HH.out.1 (nd + nd2)
     have hx4 : (W3.drewN (nd + nd2)).heap[b0]? = _ := HH.out.2.1
     have hd4 : (W3.drewN (nd + nd2)).heap[g2]? = _ := HH.out.2.2.1
     have h94 : (W3.drewN (nd + nd2)).heap[b9]? = _ := HH.out.2.2.2.1
     have hR4 := Kd.R_drewN HH.out.2.2.2.2 (nd + nd2)
     clear k0 k1 k2 d0 d1 k1' d1' HH HQ1 HQ2 Hq
     obtain ⟨W4, hW4⟩ : ∃ W4, W3.drewN (nd + nd2) = W4 := ⟨_, rfl⟩
     rw [hW4] at hb4 hx4 hd4 h94 hR4 ⊢
     clear hW4
     have k0 : W4.cell? ⟨b0, 0, none⟩ = some (.int .i64 a0) := BS.cell_heap hx4 rfl
     have k1 : W4.cell? ⟨b0, 1, none⟩ = some (.int .i64 a1) := BS.cell_heap hx4 rfl
     have k2 : W4.cell? ⟨b0, 2, none⟩ = some (.slice A l.length c) := BS.cell_heap hx4 rfl
     have d0 : W4.cell? ⟨b9, 0, none⟩ = some (.int .i64 dx) := BS.cell_heap h94 rfl
     have d1 : W4.cell? ⟨b9, 1, none⟩ = some (.int .i64 dy) := BS.cell_heap h94 rfl
     have HH := Aside0.mk (And.intro hb4 (And.intro hx4 (And.intro hd4 (And.intro h94 hR4))))
     have hsz4 : b0 ≤ W4.heap.size := by have := hb4.size; omega
     have HC := HN'.out a0 a1 A c l (wrap64 (xx + dx)) (wrap64 (yy + dy)) W4 (Kd.C_below Hr.out.1 (by rw [hb0]; exact hb4)) Hr.out.2
     clear hb4 hx4 hd4 h94 hR4
     go_wp2_with (first | (go_at_call 67; refine HC.mono ?_; rintro e w5 ⟨rfl, hB5⟩) | ((with_reducible refine gate_builtin (b := .append) (xs := #[.tmp 47, .tmp 58]) rfl ?_); at_builtin; refine Kd.R_append (Kd.int .i64) (w0 := w) b0 rfl (.tmp 47) (.tmp 58) 38 3 (.int .i64 0) 8 rfl Tryd.underlying38 infoIB rfl (by decide) (by omega) u7 (besL a0 a1 k n) (wrap64 (wrap64 (wrap64 (yy + dy) * a0) + wrap64 (xx + dx))) [.int .i64 (wrap64 (wrap64 (wrap64 (yy + dy) * a0) + wrap64 (xx + dx)))] (fun _ => True) (fun _ => False) rfl rfl ?aP (fun _ hk => hk.elim) ?aF ?aO ?aB ?aS ?aL ?_; (case aP => exact rfl); (case aB => exact HH.out.1.trans (hB5.mono hsz4)); (case aF => exact (fun _ _ => trivial)); (case aO => exact Kd.R_below HH.out.2.2.2.2 hB5); (case aS => exact Nat.le_trans hsz4 hB5.size); (case aL => have := HS.out.2; omega); intro v6 w6 ho hb hg hat))
     have hx6 := blk_grown ((hB5.block b0 (Array.getElem?_eq_some_iff.1 HH.out.2.1).1).trans HH.out.2.1) hg HNE.out.1
     have hd6 := blk_grown ((hB5.block g2 (Array.getElem?_eq_some_iff.1 HH.out.2.2.1).1).trans HH.out.2.2.1) hg HNE.out.2
     exact ⟨⟨n + 1, by omega, by simp, Aside0.mk (by rw [HS.out.1, Bool.and_true, if_pos rfl]; exact ho), Aside0.mk hx6, Aside0.mk hd6, Aside0.mk hb⟩, by simp [intOf]; omega⟩
  ·have e : n = 4 := by omega
   subst e
   go_wp2
   go_ret
   rw [hb0]
   exact ⟨_, rfl, HR.out, HB.out⟩
end Go.Proofs.YtplifefnjeledaaDoorV
