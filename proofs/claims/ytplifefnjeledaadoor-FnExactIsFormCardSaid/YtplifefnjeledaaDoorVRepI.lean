/- Contract of slices.Repeat over a row of one element: so many copies of it. -/
import Derived.WalkKit
import Derived.RangeFuncRecord
import Derived.Deep.LoopGhost
import Derived.Deep.RegionLaw
import Derived.Lib.Walk
import Derived.Lib.SliceRun
import Derived.Laws.CopyOwn
import Derived.Laws.CopyRow
import Derived.Laws.IdiomCopy
import Derived.Test.YtplifefnjeledaaDoorProg
import Derived.Test.YtplifefnjeledaaDoorWLast
import Derived.Test.YtplifefnjeledaaDoorWMore
import Derived.Test.YtplifefnjeledaaDoorShelf
set_option linter.unusedVariables false
set_option linter.unusedSimpArgs false
namespace Go.Proofs.YtplifefnjeledaaDoorV
open Go.Shelf Go.RowKit Go.Proofs.YtplifefnjeledaaDoorW.PrintWords Go.Proofs.YtplifefnjeledaaDoorW.PrintLast
namespace RI
theorem take_splice {Z : List Value} {v : Value} {m c : Nat} (hz : Z.take m = List.replicate m v) (hm : m + c ≤ Z.length) : (splice Z m (List.replicate c v)).take (m + c) = List.replicate (m + c) v := by
 unfold splice
 rw [hz, ← List.append_assoc, List.replicate_append_replicate]
 rw [List.take_append_of_le_length (by simp), List.take_of_length_le (by simp)]
theorem cell_heap {W : World} {B j : Nat} {cur : Array Value} {t : TypeId} {fr : Nat × Nat} {v : Value} (h : W.heap[B]? = some (.cells cur t fr)) (hj : cur[j]? = some v) : W.cell? ⟨B, j, none⟩ = some v := by
 simp [World.cell?, h, hj]
theorem own_rep {W : World} {b g n e : Nat} {Z : List Value} {x : Int} (hg : W.heap[g]? = some (.cells Z.toArray e (0, 0))) (hb : b ≤ g) (hl : Z.length = n) (hn : n ≤ 1000000) (hz : Z.take n = List.replicate n (.int .i64 x)) :
  Kd.R (Kd.int .i64) e W b (fun _ => True) (.slice (some ⟨g, 0, none⟩) n n) (List.replicate n x) := by
 have hlen : (List.replicate n x).length = n := List.length_replicate
 refine Kd.R_of_own (enc := Value.int .i64) (h1 := fun _ => rfl) ?_ (fun _ _ => trivial)
 rw [hlen]
 have hr : Z = encs (Value.int .i64) (List.replicate n x) := by
  rw [← List.take_of_length_le (Nat.le_of_eq hl), hz]
  simp [encs]
 exact ⟨by simp [encs], .inr ⟨g, n, Z.toArray, rfl, hb, hg, Nat.le_refl _, by unfold maxLen; omega, by simpa using hl, by rw [← hr]; simp [hl]; exact List.take_of_length_le (Nat.le_of_eq hl)⟩⟩
end RI
open RI
set_option maxRecDepth 100000 in
set_option maxHeartbeats 2000000 in
theorem repeat1RI_calls (ad : Addr) (c : Nat) (x : Int) (n : Nat) (w : World) (hx : w.cell? ad = some (.int .i64 x)) (hn : n ≤ 1000000) :
  Calls Tryd.prog 45 #[.slice (some ad) 1 c, .int .i64 (n : Int)] w fun e w' => ∃ v_ : Value, e = .returned v_ ∧ Kd.R (Kd.int .i64) 3 w' w.heap.size (fun _ => True) v_ (List.replicate n x) ∧ Below w.heap.size w w' := by
 have hmk := print_make (P := Tryd.prog) 38 3 .i64 8 Tryd.underlying38 (by kernel_rfl) (by decide) n (by omega)
 have hM : ∀ W, Calls Tryd.prog 66 #[.int .u64 1, .int .u64 (n : Int)] W fun e w' => e = .returned (.tuple #[.int .u64 0, .int .u64 (n : Int)]) ∧ w' = W := by
  intro W
  have h := Any.bits_Mul Tryd.lays212 1 n (by omega) (by omega) W
  have e1 : 1 * n / 18446744073709551616 = 0 := by omega
  have e2 : 1 * n % 18446744073709551616 = n := by omega
  rw [e1, e2] at h
  exact h
 obtain ⟨g, hg⟩ : ∃ g, w.heap.size = g := ⟨_, rfl⟩
 obtain ⟨W1, hW1⟩ : ∃ W1, w.alloc (Obj.cells (madeCells #[Value.int .i64 0] n) 3) = W1 := ⟨_, rfl⟩
 have hB1 : Below w.heap.size w W1 := by rw [← hW1]; exact (Below.refl _ w).alloc (Nat.le_refl _) _
 have hx1 : W1.cell? ad = some (.int .i64 x) := by rw [← hW1]; exact Lib.cell?_alloc_some _ hx
 have hgW : W1.heap[g]? = some (.cells (madeCells #[Value.int .i64 0] n) 3 (0, 0)) := by rw [← hW1, ← hg]; exact World.alloc_heap_new w _
 have hmk1 : (Instr.makeSlice 38 (.int .i64 (n : Int)) (.int .i64 (n : Int))).run Tryd.prog w = .ok (.slice (some ⟨g, 0, none⟩) n n) W1 := by rw [hmk w, hg, hW1]
 have hsz : (Tryd.prog.info? 3).map (·.size) = some 1 := by kernel_rfl
 clear hmk hx
 rcases Nat.eq_zero_or_pos n with hn0 | hpos
 ·have hcp := run_copy_none (P := Tryd.prog) W1 38 38 3 3 (some ⟨g, 0, none⟩) (some ad) n n 1 c Tryd.underlying38 hsz (by rw [hn0]; rfl)
  have hlt : ¬ ((0 : Int) < (n : Int)) := by omega
  have H0 := Aside0.mk hn0
  clear hn0
  have HB := Aside0.mk (And.intro hB1 hgW)
  clear hB1 hgW hW1 hx1
  go_enter Tryd.func45, Tryd.ntmps45
  go_wp2_with (go_at_call 66; refine (hM _).mono ?_; rintro e w' ⟨rfl, hw'⟩; rw [hw'])
  go_loopw [8] (fun s wr => ∃ (m : Nat) (Z : List Value), m ≤ n ∧ (0 < m ∨ n = 0) ∧ s = .int .i64 (m : Int) ∧ Aside0 (wr.heap[g]? = some (.cells Z.toArray 3 (0, 0))) ∧ Z.length = n ∧ Aside0 (Z.take m = List.replicate m (.int .i64 x)) ∧ Aside0 (Below w.heap.size w wr))
   (fun s _ => n - (intOf s).toNat)
  case atStart => exact ⟨0, (madeCells #[Value.int .i64 0] n).toList, Nat.zero_le _, .inr H0.out, rfl, Aside0.mk (by simpa using HB.out.2), by simp [size_madeCells], Aside0.mk rfl, Aside0.mk HB.out.1⟩
  case round =>
   obtain ⟨m, Z, hm, hm0, rfl, HG, hZl, HZ, HBw⟩ := hrel
   by_cases hlt : m < n
   ·have hm1 : 0 < m := by omega
    have hne : ¬ m = n := by omega
    have hne2 : ¬ n = m := by omega
    have hlti : (m : Int) < (n : Int) := by omega
    obtain ⟨q, hq⟩ : ∃ q, Nat.min m (n - m) = q := ⟨_, rfl⟩
    have hq1 : q ≤ n - m := by rw [← hq]; exact Nat.min_le_right _ _
    have hq2 : q ≤ m := by rw [← hq]; exact Nat.min_le_left _ _
    have hq0 : 0 < q := by rw [← hq]; exact Nat.lt_min.2 ⟨hm1, by omega⟩
    have HQ := Aside0.mk hq
    clear hq
    have hsrc : ∀ (W : World), W.heap[g]? = some (.cells Z.toArray 3 (0, 0)) → ∀ j v, (List.replicate q (Value.int .i64 x))[j]? = some v → W.cell? ((⟨g, 0, none⟩ : Addr).add j) = some v := by
     intro W hW j v hj
     have hjq : j < q := by have := (List.getElem?_eq_some_iff.1 hj).1; simpa using this
     have hv : v = .int .i64 x := by rw [List.getElem?_replicate, if_pos hjq] at hj; exact (Option.some.inj hj).symm
     rw [add_plain, hv]
     refine cell_heap hW ?_
     have h1 : (Z.take m)[j]? = some (Value.int .i64 x) := by rw [HZ.out, List.getElem?_replicate, if_pos (by omega)]
     rw [List.getElem?_take_of_lt (by omega)] at h1
     simpa using h1
    have HS := Aside0.mk hsrc
    clear hsrc
    go_wp2_with fail
    go_region_law (refine step_copy_splice rfl (.tmp 41) (.tmp 44) 38 38 rfl 3 Tryd.underlying38 hsz (some ⟨g, m, none⟩) (some ⟨g, 0, none⟩) (n - m) (n - m) m n (by simp [Act.eval, Act.put]) (by simp [Act.eval, Act.put]) g m Z 3 HG.out (List.replicate q (.int .i64 x)) (by rw [List.length_replicate]; exact HQ.out.symm) (fun _ => ⟨rfl, _, rfl, HS.out _ HG.out⟩) (by rw [List.length_replicate, hZl]; omega) (fun v hv => by rw [List.eq_of_mem_replicate hv]; rfl) g w (by rw [← hg]; first | exact HBw.out | exact pw_below_drewN HBw.out 1) (Nat.le_refl _) ?_; intro w2 hg2 hb2)
    have hT2 := take_splice HZ.out (by rw [hZl]; omega : m + q ≤ Z.length)
    have hL2 := length_splice Z m (List.replicate q (Value.int .i64 x)) (by rw [List.length_replicate, hZl]; omega)
    have hF2 := Aside0.mk (And.intro hg2.out (And.intro hb2 (And.intro hT2 hL2)))
    clear hg2 hb2 hT2 hL2
    have hwi : IntKind.i64.wrap ((m : Int) + (q : Int)) = (m : Int) + (q : Int) := by rw [i64_w]; unfold wrap64; omega
    go_wp2
    refine ⟨⟨_, _, _, _, _, _, _, _, _, _, _, _, _, _, ?rel, rfl⟩, ?ms⟩
    case rel => exact ⟨m + q, _, by omega, .inl (by omega), (by first | rfl | (simp; done) | (simp [hwi]; done)), Aside0.mk hF2.out.1, hF2.out.2.2.2.trans hZl, Aside0.mk hF2.out.2.2.1, Aside0.mk (hg ▸ hF2.out.2.1)⟩
    case ms => (simp [intOf, Act.put, hwi]; omega)
   ·have e : m = n := by omega
    subst e
    have hgb : w.heap.size ≤ g := by omega
    have hF := Aside0.mk (own_rep HG.out hgb hZl hn HZ.out)
    go_wp2
    go_ret
    exact ⟨_, rfl, hF.out, HBw.out⟩
 ·have hcp := run_copy_row (P := Tryd.prog) W1 38 38 3 3 g 0 n n ad 1 c _ _ [.int .i64 x] Tryd.underlying38 hsz hgW (by show 1 = Nat.min 1 n; exact (Nat.min_eq_left hpos).symm) (fun j v hj => by
   have h0 : j = 0 := by have := (List.getElem?_eq_some_iff.1 hj).1; simp at this; omega
   subst h0
   have hv : Value.int .i64 x = v := by simpa using hj
   rw [← hv, show ad.add 0 = ad from by simp [Addr.add]]
   exact hx1) (by simp [size_madeCells]; omega) (fun v hv => by rw [List.mem_singleton.1 hv]; rfl)
  obtain ⟨L, hL⟩ : ∃ L, (madeCells #[Value.int .i64 0] n).toList.take 0 ++ [Value.int .i64 x] ++ (madeCells #[Value.int .i64 0] n).toList.drop (0 + [Value.int .i64 x].length) = L := ⟨_, rfl⟩
  rw [hL] at hcp
  have hLl : L.length = n := by rw [← hL]; simp [size_madeCells]; omega
  have hL1 : L.take 1 = List.replicate 1 (.int .i64 x) := by rw [← hL]; simp
  obtain ⟨W2, hW2⟩ : ∃ W2, W1.setRow g L.toArray = W2 := ⟨_, rfl⟩
  rw [hW2] at hcp
  have hG2 : W2.heap[g]? = some (.cells L.toArray 3 (0, 0)) := by rw [← hW2]; exact setRow_heap W1 g _ _ _ _ hgW
  have hB2 : Below w.heap.size w W2 := by rw [← hW2]; exact below_setRow hB1 (by omega) _
  have HB := Aside0.mk (And.intro hB2 hG2)
  have HL := Aside0.mk (And.intro hLl hL1)
  clear hB1 hgW hW1 hx1 hL hLl hL1 hW2 hG2 hB2
  go_enter Tryd.func45, Tryd.ntmps45
  go_wp2_with (go_at_call 66; refine (hM _).mono ?_; rintro e w' ⟨rfl, hw'⟩; rw [hw'])
  go_loopw [8] (fun s wr => ∃ (m : Nat) (Z : List Value), m ≤ n ∧ (0 < m ∨ n = 0) ∧ s = .int .i64 (m : Int) ∧ Aside0 (wr.heap[g]? = some (.cells Z.toArray 3 (0, 0))) ∧ Z.length = n ∧ Aside0 (Z.take m = List.replicate m (.int .i64 x)) ∧ Aside0 (Below w.heap.size w wr))
   (fun s _ => n - (intOf s).toNat)
  case atStart => exact ⟨1, L, hpos, .inl Nat.one_pos, rfl, Aside0.mk HB.out.2, HL.out.1, Aside0.mk HL.out.2, Aside0.mk HB.out.1⟩
  case round =>
   obtain ⟨m, Z, hm, hm0, rfl, HG, hZl, HZ, HBw⟩ := hrel
   by_cases hlt : m < n
   ·have hm1 : 0 < m := by omega
    have hne : ¬ m = n := by omega
    have hne2 : ¬ n = m := by omega
    have hlti : (m : Int) < (n : Int) := by omega
    obtain ⟨q, hq⟩ : ∃ q, Nat.min m (n - m) = q := ⟨_, rfl⟩
    have hq1 : q ≤ n - m := by rw [← hq]; exact Nat.min_le_right _ _
    have hq2 : q ≤ m := by rw [← hq]; exact Nat.min_le_left _ _
    have hq0 : 0 < q := by rw [← hq]; exact Nat.lt_min.2 ⟨hm1, by omega⟩
    have HQ := Aside0.mk hq
    clear hq
    have hsrc : ∀ (W : World), W.heap[g]? = some (.cells Z.toArray 3 (0, 0)) → ∀ j v, (List.replicate q (Value.int .i64 x))[j]? = some v → W.cell? ((⟨g, 0, none⟩ : Addr).add j) = some v := by
     intro W hW j v hj
     have hjq : j < q := by have := (List.getElem?_eq_some_iff.1 hj).1; simpa using this
     have hv : v = .int .i64 x := by rw [List.getElem?_replicate, if_pos hjq] at hj; exact (Option.some.inj hj).symm
     rw [add_plain, hv]
     refine cell_heap hW ?_
     have h1 : (Z.take m)[j]? = some (Value.int .i64 x) := by rw [HZ.out, List.getElem?_replicate, if_pos (by omega)]
     rw [List.getElem?_take_of_lt (by omega)] at h1
     simpa using h1
    have HS := Aside0.mk hsrc
    clear hsrc
    go_wp2_with fail
    go_region_law (refine step_copy_splice rfl (.tmp 41) (.tmp 44) 38 38 rfl 3 Tryd.underlying38 hsz (some ⟨g, m, none⟩) (some ⟨g, 0, none⟩) (n - m) (n - m) m n (by simp [Act.eval, Act.put]) (by simp [Act.eval, Act.put]) g m Z 3 HG.out (List.replicate q (.int .i64 x)) (by rw [List.length_replicate]; exact HQ.out.symm) (fun _ => ⟨rfl, _, rfl, HS.out _ HG.out⟩) (by rw [List.length_replicate, hZl]; omega) (fun v hv => by rw [List.eq_of_mem_replicate hv]; rfl) g w (by rw [← hg]; first | exact HBw.out | exact pw_below_drewN HBw.out 1) (Nat.le_refl _) ?_; intro w2 hg2 hb2)
    have hT2 := take_splice HZ.out (by rw [hZl]; omega : m + q ≤ Z.length)
    have hL2 := length_splice Z m (List.replicate q (Value.int .i64 x)) (by rw [List.length_replicate, hZl]; omega)
    have hF2 := Aside0.mk (And.intro hg2.out (And.intro hb2 (And.intro hT2 hL2)))
    clear hg2 hb2 hT2 hL2
    have hwi : IntKind.i64.wrap ((m : Int) + (q : Int)) = (m : Int) + (q : Int) := by rw [i64_w]; unfold wrap64; omega
    go_wp2
    refine ⟨⟨_, _, _, _, _, _, _, _, _, _, _, _, _, _, ?rel, rfl⟩, ?ms⟩
    case rel => exact ⟨m + q, _, by omega, .inl (by omega), (by first | rfl | (simp; done) | (simp [hwi]; done)), Aside0.mk hF2.out.1, hF2.out.2.2.2.trans hZl, Aside0.mk hF2.out.2.2.1, Aside0.mk (hg ▸ hF2.out.2.1)⟩
    case ms => (simp [intOf, Act.put, hwi]; omega)
   ·have e : m = n := by omega
    subst e
    have hgb : w.heap.size ≤ g := by omega
    have hF := Aside0.mk (own_rep HG.out hgb hZl hn HZ.out)
    go_wp2
    go_ret
    exact ⟨_, rfl, hF.out, HBw.out⟩
end Go.Proofs.YtplifefnjeledaaDoorV
