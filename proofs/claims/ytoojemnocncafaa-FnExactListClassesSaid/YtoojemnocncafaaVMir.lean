/- Contracts of slices.Reverse over bytes, of the program's methods (tray).own and (tray).mirrored: each piece of w cells turned about in place. -/
import Derived.RangeFuncNested
import Derived.RangeFuncBound
import Derived.RangeFuncCalls
import Derived.RangeFuncLeaves
import Derived.Shelf.Lays
import Derived.Shelf.RegionOpenPlain
import Derived.WalkKit
import Derived.Deep.LoopGhost
import Derived.Lib.Walk
import Derived.Lib.SliceRun
import Derived.Sort.WalkB12
import Derived.Lib.SlicesMore
import Derived.OwnWalkIn
import Derived.Deep.RegionWith
import Derived.TacticsInMore
import Derived.Test.YtoojemnocncafaaVText
namespace Go.Proofs.YtoojemnocncafaaV
open Go.Shelf Go.RowKit Go.Lib Go.Sort Go.Proofs.YtoojemnocncafaaW.PrintWords Go.Proofs.YtoojemnocncafaaW.PrintLast
set_option maxHeartbeats 1600000 in
set_option maxRecDepth 1000000 in
theorem reverse_arr (blk off cap : Nat) (d : Array Int) (w : World) (hH : Holds (Value.int .u8) w blk off d) (hsz : d.size ≤ 9223372036854775807) :
    Calls Try.prog 46 #[.slice (some ⟨blk, off, none⟩) d.size cap] w fun e w' => e = .returned (.tuple #[]) ∧ ∃ n, w' = putRow (Value.int .u8) (Sort.ahead w n) blk off d.reverse := by
  have mixed : Try.prog.follows Departure.mixedOrders = true := by kernel_rfl
  go_enter Try.func46, Try.ntmps46
  go_wp2
  go_loopg [2, 3] d.size (fun k s2 s3 wr => ∃ (i jn : Nat) (jz : Int) (dk : Array Int) (n : Nat), s2 = .int .i64 i ∧ s3 = .int .i64 jz ∧ ((i : Int) < jz → jz = jn ∧ jn < d.size) ∧ (¬ (i : Int) < jz → ¬ i < jn) ∧ jn - i ≤ k ∧
    dk.size = d.size ∧ wr = putRow (Value.int .u8) (Sort.ahead w n) blk off dk ∧ reverseLoop i jn dk = reverseLoop 0 (d.size - 1) d)
  case atStart => exact ⟨0, d.size - 1, (d.size : Int) - 1, d, 0, rfl, rfl, fun h => ⟨by omega, by omega⟩, fun h => by omega, by omega, rfl, (putRow_self (Value.int .u8) w blk off d hH).symm, rfl⟩
  case round =>
    obtain ⟨i, jn, jz, dk, n, rfl, rfl, h1, h2, hk, hds, hwr, heq⟩ := hrel
    by_cases hlt : (i : Int) < jz
    · obtain ⟨rfl, hjn⟩ := h1 hlt
      have hij : i < jn := by omega
      have hid : i < d.size := by omega
      have hHk : Holds (Value.int .u8) wr blk off dk := by rw [hwr]; exact holds_putRow (Value.int .u8) _ blk off d dk (holds_ahead (Value.int .u8) w n blk off d hH) hds
      obtain ⟨ci, fi⟩ := hHk i (by omega)
      obtain ⟨cj, fj⟩ := hHk jn (by omega)
      have A : Aside (wr = putRow (Value.int .u8) (Sort.ahead w n) blk off dk) := hwr
      clear hwr hHk hH h1 h2
      go_wp2_with fail
      go_region_o
      go_wp2
      go_roundg (jn - 1 - (i + 1))
      case measure => omega
      case rel =>
        rw [reverseLoop, if_pos hij] at heq
        exact ⟨i + 1, jn - 1, (jn : Int) - 1, swp dk i jn, n + 1, by simp, rfl, fun h => ⟨by omega, by omega⟩, fun h => by omega, Nat.le_refl _, by rw [size_swp]; exact hds,
          swap_world (Value.int .u8) (by omega) (by omega) A.out (by first | rfl | simp [getElem!_pos, show jn < dk.size by omega]) (by first | rfl | simp [getElem!_pos, show i < dk.size by omega]), heq⟩
    · have hnot := h2 hlt
      go_wp2
      go_end0
      refine ⟨rfl, n, ?_⟩
      rw [reverseLoop, if_neg hnot] at heq
      rw [← Lib.reverseLoop_reverse, ← heq]

/-- A part turned about. -/
def revAt {α : Type} (o m : Nat) (s : List α) : List α := s.take o ++ ((s.drop o).take m).reverse ++ s.drop (o + m)
def mirL (n : Nat) (l : List Int) (ks : List Nat) : List Int := ks.foldl (fun s k => revAt (k * n) (min n (l.length - k * n)) s) l
theorem revAt_len {α : Type} {o m : Nat} {s : List α} (h : o + m ≤ s.length) : (revAt o m s).length = s.length := by
  unfold revAt
  simp only [List.length_append, List.length_take, List.length_reverse, List.length_drop]
  omega
theorem put_take (cur : Array Value) (st : List Int) (o m : Nat) (ht : cur.toList.take st.length = st.map (Value.int .u8)) (hlen : st.length ≤ cur.size) (hom : o + m ≤ st.length) :
    (putCells (Value.int .u8) o ((st.drop o).take m).toArray.reverse cur).toList.take st.length = (revAt o m st).map (Value.int .u8) := by
  have hd : ((st.drop o).take m).length = m := by rw [List.length_take, List.length_drop]; omega
  apply List.ext_getElem?
  intro j
  by_cases hj : j < st.length
  · have hcj : cur[j]? = some (Value.int .u8 st[j]) := by
      have h1 : (cur.toList.take st.length)[j]? = (st.map (Value.int .u8))[j]? := by rw [ht]
      rw [List.getElem?_take_of_lt hj, List.getElem?_map, List.getElem?_eq_getElem hj, Array.getElem?_toList] at h1
      exact h1
    have hcj2 : j < cur.size := by omega
    rw [List.getElem?_take_of_lt hj, Array.getElem?_toList, List.getElem?_map]
    unfold putCells revAt
    rw [Array.getElem?_mapIdx, hcj, Option.map_some]
    by_cases h1 : j < o
    · rw [if_neg (by omega), List.append_assoc, List.getElem?_append_left (by rw [List.length_take]; omega), List.getElem?_take_of_lt h1, List.getElem?_eq_getElem hj]
      rfl
    · by_cases h2 : j < o + m
      · rw [if_pos ⟨by omega, by simp; omega⟩]
        rw [List.append_assoc, List.getElem?_append_right (by rw [List.length_take]; omega), List.length_take, List.getElem?_append_left (by rw [List.length_reverse, hd]; omega)]
        have e : j - min o st.length = j - o := by omega
        have hr : j - o < ((st.drop o).take m).reverse.length := by rw [List.length_reverse, hd]; omega
        rw [e, List.getElem?_eq_getElem hr, Option.map_some]
        congr 2
        have hr2 : j - o < ((st.drop o).take m).toArray.reverse.size := by simp; omega
        rw [getElem!_pos (((st.drop o).take m).toArray.reverse) (j - o) hr2]
        simp
      · rw [if_neg (by simp; omega)]
        rw [List.getElem?_append_right (by simp; omega)]
        have e : j - (st.take o ++ ((st.drop o).take m).reverse).length = j - (o + m) := by rw [List.length_append, List.length_take, List.length_reverse, hd]; omega
        rw [e, List.getElem?_drop]
        have e2 : o + m + (j - (o + m)) = j := by omega
        rw [e2, List.getElem?_eq_getElem hj]
        rfl
  · rw [List.getElem?_take_eq_none (by omega), List.getElem?_eq_none (by rw [List.length_map, revAt_len hom]; omega)]
theorem heap_own {β : Type} (B : Nat) (t : TypeId) (p : β → Array Value → Prop) : Own (fun s W => ∃ cur, W.heap[B]? = some (.cells cur t (0, 0)) ∧ p s cur) := by
  rintro s X Y row ⟨cur, h, hp⟩ hg hrow
  refine ⟨cur, (hg.block B (Array.getElem?_eq_some_iff.1 h).1 (fun e' => ?_)).trans h, hp⟩
  obtain ⟨o, ho, hc⟩ := hrow B e'.symm
  rw [h] at ho
  cases ho
  cases hc
theorem put_heap {w : World} {g n o : Nat} {cur : Array Value} {e : TypeId} {fr : Nat × Nat} (d : Array Int) (hb : w.heap[g]? = some (.cells cur e fr)) :
    (putRow (Value.int .u8) (Sort.ahead w n) g o d).heap[g]? = some (.cells (putCells (Value.int .u8) o d cur) e fr) := by
  simp [putRow, mapBlock, Sort.ahead, Array.getElem?_modify, hb, onCells]
theorem put_grown {w : World} {g n o : Nat} (d : Array Int) : w.grownBy (putRow (Value.int .u8) (Sort.ahead w n) g o d) (some g) := by
  refine ⟨rfl, rfl, rfl, by simp [putRow, mapBlock, Sort.ahead], fun k hk hne => ?_⟩
  have : g ≠ k := fun e => hne (by rw [e])
  simp [putRow, mapBlock, Sort.ahead, Array.getElem?_modify, this]
theorem cell_of_heap {W : World} {B j : Nat} {cur : Array Value} {t : TypeId} {fr : Nat × Nat} {v : Value} (h : W.heap[B]? = some (.cells cur t fr)) (hj : cur[j]? = some v) : W.cell? ⟨B, j, none⟩ = some v := by
  simp [World.cell?, h, hj]
theorem set_heap {W : World} {B j : Nat} {cur : Array Value} {t : TypeId} {fr : Nat × Nat} {v : Value} (h : W.heap[B]? = some (.cells cur t fr)) : (W.setCell ⟨B, j, none⟩ v).heap[B]? = some (.cells (cur.setIfInBounds j v) t fr) := by
  obtain ⟨hlt, hk⟩ := Array.getElem?_eq_some_iff.1 h
  show (W.heap.modify B _)[B]? = _
  rw [Array.getElem?_eq_getElem (by rw [Array.size_modify]; exact hlt), Array.getElem_modify_self, hk]
  rfl
def OwnIn (F : Fence) (m : Nat) : Prop := ∀ (a0 a1 : Int) (b off c : Nat) (l : List Int) (w : World), 0 < l.length → l.length ≤ 1000000 → l.length ≤ c → Kd.C (Kd.int .u8) w (some ⟨b, off, none⟩) l.length l →
  CallsIn F m Try.prog 45 #[.agg #[.int .i64 a0, .int .i64 a1, .slice (some ⟨b, off, none⟩) l.length c]] w fun e w' => ∃ g cap cur, e = .returned (.agg #[.int .i64 a0, .int .i64 a1, .slice (some ⟨g, 0, none⟩) l.length cap]) ∧ w.heap.size ≤ g ∧ w'.heap[g]? = some (.cells cur 5 (0, 0)) ∧ l.length ≤ cap ∧ cap ≤ maxLen ∧ cur.size = cap ∧ cur.toList.take l.length = l.map (Value.int .u8) ∧ Below w.heap.size w w'
def RevIn (F : Fence) (m : Nat) : Prop := ∀ (blk off cap len : Nat) (d : Array Int) (w : World), Holds (Value.int .u8) w blk off d → d.size = len → len ≤ 1000000 →
  CallsIn F m Try.prog 46 #[.slice (some ⟨blk, off, none⟩) len cap] w fun e w' => e = .returned (.tuple #[]) ∧ ∃ n, w' = putRow (Value.int .u8) (Sort.ahead w n) blk off d.reverse
attribute [local go_sem] Oper.semAt_some
set_option maxRecDepth 100000 in
set_option maxHeartbeats 2000000 in
theorem mirrored_in (F : Fence) (hfn : ∀ g, F.fn g) (hro : F.round = none) (m : Nat) (hm : 5 ≤ m) (hOwn : OwnIn F (m - 1)) (hRev : ∀ m', RevIn F m') (b off cap0 n : Nat) (a1 : Int) (l : List Int) (hn : 0 < n) (hn2 : n ≤ 1000000) (hl0 : 0 < l.length) (hlen : l.length ≤ 1000000) (hcap : l.length ≤ cap0) (w : World)
    (hc : Kd.C (Kd.int .u8) w (some ⟨b, off, none⟩) l.length l) :
    CallsIn F m Try.prog 34 #[.agg #[.int .i64 n, .int .i64 a1, .slice (some ⟨b, off, none⟩) l.length cap0]] w fun e w' => ∃ g cap cur, e = .returned (.agg #[.int .i64 n, .int .i64 a1, .slice (some ⟨g, 0, none⟩) l.length cap]) ∧ w.heap.size ≤ g ∧ w'.heap[g]? = some (.cells cur 5 (0, 0)) ∧ l.length ≤ cap ∧ cap ≤ maxLen ∧ cur.size = cap ∧ cur.toList.take l.length = (mirL n l (List.range (nch n l.length))).map (Value.int .u8) ∧ Below w.heap.size w w' := by
  have h1 : 1 ≤ m := by omega
  have HO : ∀ (W : World), Below w.heap.size w W → _ := fun W hW => hOwn n a1 b off cap0 l W hl0 hlen hcap (Kd.C_below hc hW)
  have HO' := Aside0.mk HO
  have HRV := Aside0.mk hRev
  clear HO hOwn hRev hc
  refine callsIn_of_wp_marks Try.func34 rfl (hfn _) ?_ hro
  simp only [Try.ntmps34, List.size_toArray, List.length_cons, List.length_nil, Nat.reduceAdd, Nat.reduceSub, Array.replicate_succ, Array.replicate_zero, List.push_toArray, List.append_toArray, List.nil_append, List.cons_append]
  gi_wp2_with (first
    | (gi_at_call 45; refine (HO'.out _ (((Below.refl _ w).alloc (Nat.le_refl _) _).alloc (by simp) _)).mono ?_; rintro e w1 ⟨g, cap, cur, rfl, hg1, hg2, hg3, hg4, hg5, hg6, hg7⟩; have hA := (hg7.block w.heap.size (by simp; omega)).trans ((Below.heap_alloc _ _ _ (by simp)).trans (World.alloc_heap_new w _)); have hcw : ∀ o : Obj, (w1.alloc o).cell? ⟨w.heap.size, 0, none⟩ = some (.int .i64 n) := fun o => cell_of_heap (j := 0) ((Below.heap_alloc w1 o _ (Array.getElem?_eq_some_iff.1 hA).1).trans hA) rfl)
    | (gi_at_call 32; refine (chunk_in F (m - 1) (hfn _) hro _ _ _ n hn _).mono ?_; rintro e w' ⟨rfl, rfl⟩))
  have gl : g < w1.heap.size := (Array.getElem?_eq_some_iff.1 hg2).1
  have ge : w.heap.size + 1 + 1 ≤ g := by simpa using hg1
  have hRw : w1.heap[w.heap.size + 1]? = some (.cells #[.int .i64 0, .int .i64 0, .slice none 0 0] 40 (0, 0)) := by
    refine (hg7.block (w.heap.size + 1) (by simp)).trans ?_
    have := World.alloc_heap_new (w.alloc (.cells #[.int .i64 (n : Int), .int .i64 a1, .slice (some ⟨b, off, none⟩) l.length cap0] 40)) (.cells #[.int .i64 0, .int .i64 0, .slice none 0 0] 40)
    rwa [World.size_alloc] at this
  have B1 : RowKit.Below w.heap.size w w1 := (((Below.refl _ w).alloc (Nat.le_refl _) _).alloc (by simp) _).trans (hg7.mono (by simp; omega))
  have s1 := B1.size
  obtain ⟨O, hO⟩ : ∃ O, w1.heap.size = O := ⟨_, rfl⟩
  have hO3 := World.alloc_heap_new w1 (.cells #[.int .i64 (n : Int), .int .i64 a1, .slice (some ⟨g, 0, none⟩) l.length cap] 40)
  have hg3' := (Below.heap_alloc w1 (.cells #[.int .i64 (n : Int), .int .i64 a1, .slice (some ⟨g, 0, none⟩) l.length cap] 40) g gl).trans hg2
  have hR3 := (Below.heap_alloc w1 (.cells #[.int .i64 (n : Int), .int .i64 a1, .slice (some ⟨g, 0, none⟩) l.length cap] 40) (w.heap.size + 1) (by omega)).trans hRw
  have B3 := B1.alloc s1 (.cells #[.int .i64 (n : Int), .int .i64 a1, .slice (some ⟨g, 0, none⟩) l.length cap] 40)
  obtain ⟨w3, hw3⟩ : ∃ w3, w1.alloc (.cells #[.int .i64 (n : Int), .int .i64 a1, .slice (some ⟨g, 0, none⟩) l.length cap] 40) = w3 := ⟨_, rfl⟩
  have s3 : w3.heap.size = O + 1 := by rw [← hw3, World.size_alloc, hO]
  rw [hO] at hO3
  rw [hw3] at hO3 hg3' hR3 B3 ⊢
  have bS := Boxed.new w3 32 (.slice (some ⟨g, 0, none⟩) l.length cap)
  rw [s3] at bS
  have hO4 := (Below.heap_alloc w3 (.cells #[.slice (some ⟨g, 0, none⟩) l.length cap] 32) O (by omega)).trans hO3
  have hg4' := (Below.heap_alloc w3 (.cells #[.slice (some ⟨g, 0, none⟩) l.length cap] 32) g (by omega)).trans hg3'
  have hR4 := (Below.heap_alloc w3 (.cells #[.slice (some ⟨g, 0, none⟩) l.length cap] 32) (w.heap.size + 1) (by omega)).trans hR3
  have B4 := B3.alloc B3.size (.cells #[.slice (some ⟨g, 0, none⟩) l.length cap] 32)
  obtain ⟨w4, hw4⟩ : ∃ w4, w3.alloc (.cells #[.slice (some ⟨g, 0, none⟩) l.length cap] 32) = w4 := ⟨_, rfl⟩
  have s4 : w4.heap.size = O + 1 + 1 := by rw [← hw4, World.size_alloc, s3]
  rw [hw4] at bS hO4 hg4' hR4 B4 ⊢
  have bN := Boxed.new w4 3 (.int .i64 (n : Int))
  rw [s4] at bN
  replace bS := bS.alloc (.cells #[.int .i64 (n : Int)] 3)
  have hO5 := (Below.heap_alloc w4 (.cells #[.int .i64 (n : Int)] 3) O (by omega)).trans hO4
  have hg5' := (Below.heap_alloc w4 (.cells #[.int .i64 (n : Int)] 3) g (by omega)).trans hg4'
  have hR5 := (Below.heap_alloc w4 (.cells #[.int .i64 (n : Int)] 3) (w.heap.size + 1) (by omega)).trans hR4
  have B5 := B4.alloc B4.size (.cells #[.int .i64 (n : Int)] 3)
  obtain ⟨w5, hw5⟩ : ∃ w5, w4.alloc (.cells #[.int .i64 (n : Int)] 3) = w5 := ⟨_, rfl⟩
  have s5 : w5.heap.size = O + 1 + 1 + 1 := by rw [← hw5, World.size_alloc, s4]
  rw [hw5] at bS bN hO5 hg5' hR5 B5 ⊢
  rw [hO]
  clear hw3 hw4 hw5 hO3 hO4 hg3' hg4' hR3 hR4 B3 B4 hcw hA hg7 hg1 hRw B1 hg2
  obtain ⟨Bs, hBs⟩ : ∃ Bs, O + 1 = Bs := ⟨_, rfl⟩
  obtain ⟨Bn, hBn⟩ : ∃ Bn, O + 1 + 1 = Bn := ⟨_, rfl⟩
  obtain ⟨R, hR⟩ : ∃ R, w.heap.size + 1 = R := ⟨_, rfl⟩
  rw [hBn] at bN ⊢
  rw [hBs] at bS ⊢
  rw [hR] at hR5 ⊢
  refine wpIn_rangeFunc_ownG hro h1 (gf := 41) (lb := #[.pointer (some ⟨Bs, 0, none⟩), .pointer (some ⟨Bn, 0, none⟩)]) rfl (hfn _) (enters_of Try.func41 (by kernel_rfl) rfl)
    (chunk_stops F (m - 1) (hfn _) hro (by omega) Bs Bn g 0 l.length cap n hn hn2 hlen hg3 w5 bS bN w.heap.size) chunkKp_t (chunkKp_b (by omega) (by omega) (by omega)) (Below.refl _ _) (fun _ => rfl)
    (fun (pre : List (Fin (nch n l.length))) W => ((∃ cur, W.heap[g]? = some (.cells cur 5 (0, 0)) ∧ cur.size = cap ∧ (mirL n l (pre.map (·.val))).length = l.length ∧ cur.toList.take l.length = (mirL n l (pre.map (·.val))).map (Value.int .u8)) ∧
      (∃ cur, W.heap[O]? = some (.cells cur 40 (0, 0)) ∧ cur = #[.int .i64 (n : Int), .int .i64 a1, .slice (some ⟨g, 0, none⟩) l.length cap]) ∧ (∃ cur, W.heap[R]? = some (.cells cur 40 (0, 0)) ∧ cur = #[.int .i64 0, .int .i64 0, .slice none 0 0]) ∧ Boxed W Bs 32 (.slice (some ⟨g, 0, none⟩) l.length cap) ∧ Boxed W Bn 3 (.int .i64 n)) ∧ RowKit.Below w.heap.size w W)
    (fun _ _ _ => False)
    (OwnFrom.and (OwnFrom.and (Own.from (heap_own g 5 (fun (pre : List (Fin (nch n l.length))) cur => cur.size = cap ∧ (mirL n l (pre.map (·.val))).length = l.length ∧ cur.toList.take l.length = (mirL n l (pre.map (·.val))).map (Value.int .u8))) _) (OwnFrom.and (Own.from (heap_own O 40 (fun _ cur => cur = _)) _) (OwnFrom.and (Own.from (heap_own R 40 (fun _ cur => cur = _)) _) (OwnFrom.and (Own.from (boxed_own Bs 32 (fun _ => .slice (some ⟨g, 0, none⟩) l.length cap)) _) (Own.from (boxed_own Bn 3 (fun _ => .int .i64 n)) _))))) (ownFrom_below (Nat.le_refl _) (by omega)))
    (fun _ _ _ _ _ hs _ _ => hs)
    ⟨⟨⟨_, hg5', hg5, rfl, hg6⟩, ⟨_, hO5, rfl⟩, ⟨_, hR5, rfl⟩, bS, bN⟩, B5⟩
    (fun x => { tmps := #[.agg #[.int .i64 n, .int .i64 a1, .slice (some ⟨b, off, none⟩) l.length cap0], .pointer (some ⟨w.heap.size, 0, none⟩), .pointer (some ⟨R, 0, none⟩), .pointer (some ⟨O, 0, none⟩), chunkV g 0 l.length n x.val, .agg #[.int .i64 n, .int .i64 a1, .slice (some ⟨b, off, none⟩) l.length cap0], .agg #[.int .i64 n, .int .i64 a1, .slice (some ⟨g, 0, none⟩) l.length cap], .pointer (some ⟨O, 2, none⟩), .slice (some ⟨g, 0, none⟩) l.length cap, .pointer (some ⟨w.heap.size, 0, none⟩), .int .i64 n, .func (.func 41) #[] #[.pointer (some ⟨Bs, 0, none⟩), .pointer (some ⟨Bn, 0, none⟩)], chunkV g 0 l.length n x.val, undef, undef, undef], defers := [] }) ?assign ?body ?done ?stop
  case assign =>
    intro l x W K hK
    gi_wp2
    exact hK
  case body =>
    rintro l' pre x W ⟨⟨⟨cu, hcu, hcs, hml, hct⟩, ⟨_, hOW, rfl⟩, ⟨_, hRW, rfl⟩, hs, hnn⟩, hB⟩ hlt
    have hkl := (nch_lt hn).1 x.isLt
    have hH : Holds (Value.int .u8) W g (0 + x.val * n) (((mirL n l (pre.map (·.val))).drop (x.val * n)).take (min n (l.length - x.val * n))).toArray := by
      intro j hj
      obtain ⟨o, ho⟩ : ∃ o, x.val * n = o := ⟨_, rfl⟩
      obtain ⟨st, hst⟩ : ∃ st, mirL n l (pre.map (·.val)) = st := ⟨_, rfl⟩
      rw [ho] at hkl hj ⊢
      rw [hst] at hml hct hj ⊢
      have hj2 : j < min n (l.length - o) := by simp at hj; omega
      have hj3 : o + j < st.length := by omega
      refine ⟨?_, by simp [World.frozen?, hcu]⟩
      have h1 : (cu.toList.take l.length)[o + j]? = (st.map (Value.int .u8))[o + j]? := by rw [hct]
      rw [List.getElem?_take_of_lt (by omega), Array.getElem?_toList, List.getElem?_map, List.getElem?_eq_getElem hj3, Option.map_some] at h1
      rw [Nat.zero_add, cell_of_heap hcu h1, getElem!_pos ((st.drop o).take (min n (l.length - o))).toArray j hj]
      simp
    have hRc := fun m' => HRV.out m' g (0 + x.val * n) (min n (l.length - x.val * n)) (min n (l.length - x.val * n)) _ W hH (by simp; omega) (by omega)
    unfold chunkV
    have h1' : 1 ≤ m - 1 - 1 := by omega
    have A1 := Aside0.mk hH
    clear hH
    obtain ⟨d, hd⟩ : ∃ d, (((mirL n l (pre.map (·.val))).drop (x.val * n)).take (min n (l.length - x.val * n))).toArray = d := ⟨_, rfl⟩
    rw [hd] at A1 hRc
    simp only [Nat.zero_add] at hRc
    gi_wp2_with (gi_at_call 46; refine (CallsIn.inRound l' (hRc _)).mono ?_; rintro e w' ⟨rfl, nn, rfl⟩)
    have hgw : W.grownBy (putRow (Value.int .u8) (Sort.ahead W nn) g (x.val * n) d.reverse) (some g) := put_grown _
    have hpg := put_heap (n := nn) (o := x.val * n) d.reverse hcu
    have hbw : RowKit.Below w.heap.size W (putRow (Value.int .u8) (Sort.ahead W nn) g (x.val * n) d.reverse) := (Below.refl _ W).grown hgw hB.size (fun k e => by cases e; omega)
    have oth : ∀ k, k < W.heap.size → k ≠ g → (putRow (Value.int .u8) (Sort.ahead W nn) g (x.val * n) d.reverse).heap[k]? = W.heap[k]? := fun k hk hne => hgw.block k hk (fun e => hne (by cases e; rfl))
    have hpt := put_take cu (mirL n l (pre.map (·.val))) (x.val * n) (min n (l.length - x.val * n)) (by rw [hml]; exact hct) (by rw [hml, hcs]; exact hg3) (by rw [hml]; omega)
    rw [hd, hml] at hpt
    have hmm : mirL n l ((pre ++ [x]).map (·.val)) = revAt (x.val * n) (min n (l.length - x.val * n)) (mirL n l (pre.map (·.val))) := by simp [mirL, List.foldl_append]
    have hml2 : (revAt (x.val * n) (min n (l.length - x.val * n)) (mirL n l (pre.map (·.val)))).length = l.length := by rw [revAt_len (by rw [hml]; omega), hml]
    refine ⟨(KeepsOthers.of_grownBy hgw (fun j o ej hj => by cases ej; rw [hcu] at hj; cases hj; rfl)).from _, ⟨hbw, oth Bs hs.lt (by omega), oth Bn hnn.lt (by omega)⟩, ⟨⟨_, hpg, by simp [putCells, hcs], by rw [hmm]; exact hml2, by rw [hmm]; exact hpt⟩, ⟨_, (oth O (Array.getElem?_eq_some_iff.1 hOW).1 (by omega)).trans hOW, rfl⟩, ⟨_, (oth R (Array.getElem?_eq_some_iff.1 hRW).1 (by omega)).trans hRW, rfl⟩, (oth Bs hs.lt (by omega)).trans hs, (oth Bn hnn.lt (by omega)).trans hnn⟩, hB.trans hbw⟩
  case done =>
    rintro D ys W hD rfl ⟨⟨⟨cu, hcu, hcs, hml, hct⟩, ⟨_, hOW, rfl⟩, ⟨_, hRW, rfl⟩, hs, hnn⟩, hB⟩ hK
    have c0 : W.cell? ⟨O, 0, none⟩ = some (.int .i64 n) := cell_of_heap (j := 0) hOW rfl
    have c1 : W.cell? ⟨O, 1, none⟩ = some (.int .i64 a1) := cell_of_heap (j := 1) hOW rfl
    have c2 : W.cell? ⟨O, 2, none⟩ = some (.slice (some ⟨g, 0, none⟩) l.length cap) := cell_of_heap (j := 2) hOW rfl
    have r0 : W.cell? ⟨R, 0, none⟩ = some (.int .i64 0) := cell_of_heap (j := 0) hRW rfl
    have r1 : W.cell? ⟨R, 1, none⟩ = some (.int .i64 0) := cell_of_heap (j := 1) hRW rfl
    have r2 : W.cell? ⟨R, 2, none⟩ = some (.slice none 0 0) := cell_of_heap (j := 2) hRW rfl
    have f0 : W.frozen? ⟨R, 0, none⟩ = false := by simp [World.frozen?, hRW]
    have f1 : W.frozen? ⟨R, 1, none⟩ = false := by simp [World.frozen?, hRW]
    have f2 : W.frozen? ⟨R, 2, none⟩ = false := by simp [World.frozen?, hRW]
    gi_wp2
    have hgR : g ≠ R := by omega
    have hg2 := (Below.heap_setCell ((W.setCell ⟨R, 0, none⟩ (.int .i64 n)).setCell ⟨R, 1, none⟩ (.int .i64 a1)) ⟨R, 2, none⟩ (.slice (some ⟨g, 0, none⟩) l.length cap) g hgR).trans ((Below.heap_setCell (W.setCell ⟨R, 0, none⟩ (.int .i64 n)) ⟨R, 1, none⟩ (.int .i64 a1) g hgR).trans ((Below.heap_setCell W ⟨R, 0, none⟩ (.int .i64 n) g hgR).trans hcu))
    have hR2 := set_heap (j := 2) (v := .slice (some ⟨g, 0, none⟩) l.length cap) (set_heap (j := 1) (v := .int .i64 a1) (set_heap (j := 0) (v := .int .i64 n) hRW))
    have hK' := ((KeepsOthers.setCell W ⟨R, 0, none⟩ (.int .i64 n)).trans ((KeepsOthers.setCell _ ⟨R, 1, none⟩ (.int .i64 a1)).trans (KeepsOthers.setCell _ ⟨R, 2, none⟩ (.slice (some ⟨g, 0, none⟩) l.length cap)))).same D _ hK rfl
    have hB2 := ((hB.setCell (p := ⟨R, 0, none⟩) (by show w.heap.size ≤ R; omega) (.int .i64 n)).setCell (p := ⟨R, 1, none⟩) (by show w.heap.size ≤ R; omega) (.int .i64 a1)).setCell (p := ⟨R, 2, none⟩) (by show w.heap.size ≤ R; omega) (.slice (some ⟨g, 0, none⟩) l.length cap)
    obtain ⟨W3, hW3⟩ : ∃ W3, ((W.setCell ⟨R, 0, none⟩ (.int .i64 n)).setCell ⟨R, 1, none⟩ (.int .i64 a1)).setCell ⟨R, 2, none⟩ (.slice (some ⟨g, 0, none⟩) l.length cap) = W3 := ⟨_, rfl⟩
    rw [hW3] at hg2 hR2 hK' hB2 ⊢
    clear hW3 c0 c1 c2 r0 r1 r2 f0 f1 f2
    refine ⟨by simp, .inl ⟨_, _, rfl, run_takeDeferred hK', ?_⟩⟩
    have hDR : D ≠ R := by omega
    have hDg : D ≠ g := by omega
    have hR4 := (World.putObj_heap_other (w := W3) (o := .deferred none) hDR.symm).trans hR2
    have hgz := (World.putObj_heap_other (w := W3) (o := .deferred none) hDg.symm).trans hg2
    have q0 : (W3.putObj D (.deferred none)).cell? ⟨R, 0, none⟩ = some (.int .i64 n) := cell_of_heap (j := 0) hR4 rfl
    have q1 : (W3.putObj D (.deferred none)).cell? ⟨R, 1, none⟩ = some (.int .i64 a1) := cell_of_heap (j := 1) hR4 rfl
    have q2 : (W3.putObj D (.deferred none)).cell? ⟨R, 2, none⟩ = some (.slice (some ⟨g, 0, none⟩) l.length cap) := cell_of_heap (j := 2) hR4 rfl
    have hfr : (List.finRange (nch n l.length)).map (·.val) = List.range (nch n l.length) := by
      apply List.ext_getElem <;> simp
    rw [hfr] at hct
    refine ⟨.agg #[.int .i64 n, .int .i64 a1, .slice (some ⟨g, 0, none⟩) l.length cap], ?_, g, cap, cu, rfl, by omega, hgz, hg3, hg4, hcs, hct, hB2.trans (belowK_b (w := w) (Nat.le_refl _) W3 D _ _ (by omega) hK' rfl rfl)⟩
    simp [results, Try.f34, go_sem, q0, q1, q2]
  case stop =>
    rintro D c pre W _ _ h _
    exact h.elim
/-- The method mirrored, over the contract of the method own. -/
theorem mirrored_calls (HOwn : ∀ (a0 a1 : Int) (A : Option Addr) (c : Nat) (l : List Int) (w : World), Kd.C (Kd.int .u8) w A l.length l → l.length ≤ c → l.length ≤ 1000000 →
      Calls Try.prog 45 #[.agg #[.int .i64 a0, .int .i64 a1, .slice A l.length c]] w fun e w' => ∃ v2_ : Value, e = .returned (.agg #[.int .i64 a0, .int .i64 a1, v2_]) ∧ Kd.R (Kd.int .u8) 5 w' w.heap.size (fun _ => True) v2_ l ∧ RowKit.Below w.heap.size w w')
    (a0 a1 : Int) (A : Option Addr) (c : Nat) (l : List Int) (w : World) (hr : Kd.C (Kd.int .u8) w A l.length l) (hc : l.length ≤ c) (h0 : 0 < a0) (h1 : a0 ≤ 1000000) (h2 : 0 < l.length) (h3 : l.length ≤ 1000000) :
    Calls Try.prog 34 #[.agg #[.int .i64 a0, .int .i64 a1, .slice A l.length c]] w fun e w' => ∃ v2_ : Value, e = .returned (.agg #[.int .i64 a0, .int .i64 a1, v2_]) ∧ Kd.R (Kd.int .u8) 5 w' w.heap.size (fun _ => True) v2_ (mirL a0.toNat l (List.range (nch a0.toNat l.length))) ∧ RowKit.Below w.heap.size w w' := by
  obtain ⟨b, off, rfl, hb, hcells⟩ := row_cells hr h2
  obtain ⟨n, rfl⟩ := Int.eq_ofNat_of_zero_le (show 0 ≤ a0 by omega)
  have hO : OwnIn Fence.wide (5 - 1) := fun a0 a1 b off c l w hl0 hl hlc hC => callsIn_wide.2 ((HOwn a0 a1 _ c l w hC hlc hl).mono (by
    rintro e w' ⟨v2, rfl, hR, hB⟩
    have ho := Kd.own_of_R hR
    rcases ho.2 with ⟨_, hz⟩ | ⟨g, cap, cur, rfl, hbase, hgb, r1, r2, r3, r4⟩
    · omega
    · exact ⟨g, cap, cur, rfl, hbase, hgb, r1, r2, by simpa using r3, by simpa [encs] using r4, hB⟩))
  have hRv : ∀ m', RevIn Fence.wide m' := fun m' blk off cap len d w hH hd hl => callsIn_wide.2 (by subst hd; exact reverse_arr blk off cap d w hH (by omega))
  refine (callsIn_wide.1 (mirrored_in Fence.wide (fun _ => trivial) rfl 5 (Nat.le_refl _) hO hRv b off c n a1 l (by omega) (by omega) h2 h3 hc w hr)).mono ?_
  rintro e w' ⟨g, cap, cur, rfl, hbase, hgb, r1, r2, r3, r4, hB⟩
  refine ⟨_, rfl, ?_, hB⟩
  rw [Int.toNat_natCast]
  have hlen : (mirL n l (List.range (nch n l.length))).length = l.length := by
    have := congrArg List.length r4
    rw [List.length_take, List.length_map] at this
    have e : cur.toList.length = cap := by rw [Array.length_toList, r3]
    omega
  have := Kd.R_of_own (enc := Value.int .u8) (h1 := fun _ => rfl) (e := 5) (w := w') (base := w.heap.size) (ok := fun _ => True) (v := .slice (some ⟨g, 0, none⟩) l.length cap) (xs := mirL n l (List.range (nch n l.length)))
    (by rw [hlen]; exact ⟨by simp [encs, hlen], .inr ⟨g, cap, cur, rfl, hbase, hgb, r1, r2, by simpa using r3, by simpa [encs] using r4⟩⟩) (fun _ _ => trivial)
  exact this
end Go.Proofs.YtoojemnocncafaaV
