/- Contracts of slices.Values, AppendSeq, Collect and Sorted over a row of whole numbers that holds something, and of the program's IsBoard. -/
import Derived.RangeFuncNested
import Derived.RangeFuncBound
import Derived.RangeFuncCalls
import Derived.RangeFuncLeaves
import Derived.Shelf.Abstract
import Derived.Shelf.RegionOpen
import Derived.Shelf.RegionOpenPlain
import Derived.WalkKit
import Derived.OwnWalkIn
import Derived.TacticsInMore
import Derived.LoopNIn
import Derived.LoopIn
import Derived.Maps.AppendAt
import Derived.Shelf.Sort.Plain
import Derived.Lib.SlKeysI
import Derived.Test.YtmplgijnmjdogaaDoorShelf
import Derived.Test.YtmplgijnmjdogaaDoorWLast
import Derived.Test.YtmplgijnmjdogaaDoorWMore
set_option linter.unusedVariables false
set_option linter.unusedSimpArgs false
namespace Go.Proofs.YtmplgijnmjdogaaDoorV
open Go.RowKit Go.Shelf Go.Sort Go.Proofs.YtmplgijnmjdogaaDoorW.PrintWords Go.Proofs.YtmplgijnmjdogaaDoorW.PrintLast
section
attribute [local go_sem] Oper.semAt_some
def upto {α : Type} (f : Nat → α) (k : Nat) : List α := (List.range k).map f
theorem upto_succ {α : Type} (f : Nat → α) (k : Nat) : upto f (k + 1) = upto f k ++ [f k] := by simp [upto, List.range_succ]
theorem upto_length {α : Type} (f : Nat → α) (k : Nat) : (upto f k).length = k := by simp [upto]
theorem upto_all (zs : List Int) : upto (fun j => zs[j]?.getD 0) zs.length = zs := by
  apply List.ext_getElem
  · simp [upto]
  · intro i h1 h2
    simp [upto, h2]
set_option maxRecDepth 100000 in
set_option maxHeartbeats 2000000 in
theorem values1_in (F : Fence) (n : Nat) (h7 : F.fn 59) (hro : F.round = none) (hn : 1 ≤ n) (l Bs n₀ b off len cap : Nat) (zs : List Int) (hreach : len * 8 ≤ 140737488351232) (hb : b < n₀) (J Jx : List Int → World → Prop)
    (hY : ∀ pre x W, J pre W → pre.length < len → YieldAt F (n - 1) Tryd.prog l #[.int .i64 x] W fun e W' =>
      (e = .returned (.bool true) ∧ J (pre ++ [x]) W' ∧ Below n₀ W W') ∨ (e = .returned (.bool false) ∧ Jx (pre ++ [x]) W'))
    (W : World) (hBs : W.cell? ⟨Bs, 0, none⟩ = some (.slice (some ⟨b, off, none⟩) len cap)) (hc : ∀ j, j < len → W.cell? ⟨b, off + j, none⟩ = some (.int .i64 (zs[j]?.getD 0))) (h0 : J [] W) :
    CallsIn F n Tryd.prog 59 #[.func (.yield l) #[] #[], .pointer (some ⟨Bs, 0, none⟩)] W fun e W' => (∃ v, e = .returned v) ∧
      ((∃ ys, ys = upto (fun j => zs[j]?.getD 0) len ∧ J ys W') ∨ (∃ pre, (∃ k, k ≤ len ∧ pre = upto (fun j => zs[j]?.getD 0) k) ∧ Jx pre W')) := by
  refine callsIn_of_wp Tryd.func59 rfl h7 ?_ hro
  simp only [Tryd.ntmps59, List.size_toArray, List.length_cons, List.length_nil, Nat.reduceAdd, Nat.reduceSub, Array.replicate_succ, Array.replicate_zero, List.push_toArray, List.append_toArray, List.nil_append, List.cons_append]
  gi_wp2
  gi_loopw [7] (fun i wr => ∃ k : Nat, k ≤ len ∧ i = .int .i64 k ∧ J (upto (fun j => zs[j]?.getD 0) k) wr ∧ Below n₀ W wr)
    (fun i _ => len - (intOf i).toNat)
  case atStart => exact ⟨0, Nat.zero_le _, rfl, h0, Below.refl _ _⟩
  case round =>
    obtain ⟨k, hk, rfl, hJs, hnx⟩ := hrel
    have hcx : k < len → wr.cell? ⟨b, off + k, none⟩ = some (.int .i64 (zs[k]?.getD 0)) := fun h => (hnx.cell (p := ⟨b, off + k, none⟩) hb).trans (hc k h)
    by_cases hlt : k < len
    · obtain ⟨fn, tmps, assign, body, hy, hR⟩ := hY _ (zs[k]?.getD 0) wr hJs (by rw [upto_length]; exact hlt)
      have hcx' := hcx hlt
      gi_wp2
      refine hR.mono ?_
      rintro e W3 (⟨rfl, hJ3, hk3⟩ | ⟨rfl, hJx3⟩)
      · gi_wp2
        go_roundw
        case rel => exact ⟨k + 1, by omega, by simp, by rw [upto_succ]; exact hJ3, hnx.trans hk3⟩
        case measure => simp [intOf]; omega
      · gi_wp2
        refine bodyPost_ret (results_none rfl _ _ _) rfl ?_
        exact ⟨⟨_, rfl⟩, .inr ⟨_, ⟨k + 1, by omega, (upto_succ _ _).symm⟩, hJx3⟩⟩
    · obtain rfl : k = len := by omega
      gi_wp2
      go_end0
      exact ⟨⟨_, rfl⟩, .inl ⟨_, rfl, hJs⟩⟩
theorem upto_take (zs : List Int) {k : Nat} (hk : k ≤ zs.length) : upto (fun j => zs[j]?.getD 0) k = zs.take k := by
  apply List.ext_getElem
  · simp [upto, hk]
  · intro i h1 h2
    have : i < zs.length := by simp [upto] at h1; omega
    simp [upto, this]
set_option maxHeartbeats 2000000 in
theorem values_in (F : Fence) (n : Nat) (h5 : F.fn 50) (hro : F.round = none) (a : Option Addr) (len cap : Nat) (w : World) :
    CallsIn F n Tryd.prog 50 #[.slice a len cap] w fun e w' => e = .returned (.func (.func 59) #[] #[.pointer (some ⟨w.heap.size, 0, none⟩)]) ∧ w' = w.alloc (.cells #[.slice a len cap] 22) := by
  refine callsIn_of_wp Tryd.func50 rfl h5 ?_ hro
  simp only [Tryd.ntmps50, List.size_toArray, List.length_cons, List.length_nil, Nat.reduceAdd, Nat.reduceSub, Array.replicate_succ, Array.replicate_zero, List.push_toArray, List.append_toArray, List.nil_append, List.cons_append]
  gi_wp2
  go_ret
  exact ⟨rfl, rfl⟩
theorem values_stops (F : Fence) (n : Nat) (h7 : F.fn 59) (hro : F.round = none) (hn : 1 ≤ n) (Bs n₀ b off cap : Nat) (zs : List Int) (hreach : zs.length * 8 ≤ 140737488351232) (w : World) (hbs : Boxed w Bs 22 (.slice (some ⟨b, off, none⟩) zs.length cap)) (hn₀ : n₀ ≤ w.heap.size) (hb : b < n₀)
    (hc : ∀ j, j < zs.length → w.cell? ⟨b, off + j, none⟩ = some (.int .i64 (zs[j]?.getD 0))) :
    SeqStopsK F n Tryd.prog 59 #[.pointer (some ⟨Bs, 0, none⟩)] (fun x : Int => #[Value.int .i64 x]) (Below n₀) (fun ys => ys = zs) (fun pre => pre <+: zs) zs.length w := fun l J Jx W hW _ _ hY h0 => by
  have hc' := (hW.cell (p := ⟨Bs, 0, none⟩) hbs.lt).trans hbs.cell
  refine (values1_in F n h7 hro hn l Bs n₀ b off zs.length cap zs hreach hb J Jx hY W hc' (fun j hj => (hW.cell (p := ⟨b, off + j, none⟩) (by show b < w.heap.size; omega)).trans (hc j hj)) h0).mono ?_
  rintro e W' ⟨he, ⟨ys, rfl, hj⟩ | ⟨pre, ⟨k, hk, rfl⟩, hj⟩⟩
  · exact ⟨he, .inl ⟨_, upto_all zs, hj⟩⟩
  · exact ⟨he, .inr ⟨_, by rw [upto_take zs hk]; exact List.take_prefix _ _, hj⟩⟩
theorem infoI : (Tryd.prog.info? 3).map (fun i => (i.zero, i.size, i.bytes)) = some (some (.int .i64 0), 1, 8) := by kernel_rfl
set_option maxRecDepth 100000 in
set_option maxHeartbeats 2000000 in
theorem appendSeq_in (F : Fence) (hfn : ∀ g, F.fn g) (hro : F.round = none) (m : Nat) (hm : 3 ≤ m) (Bs n₀ b off cap : Nat) (zs : List Int) (hz : zs.length ≤ 2000000) (w : World) (hbs : Boxed w Bs 22 (.slice (some ⟨b, off, none⟩) zs.length cap)) (hn₀ : n₀ ≤ w.heap.size) (hb : b < n₀)
    (hc : ∀ j, j < zs.length → w.cell? ⟨b, off + j, none⟩ = some (.int .i64 (zs[j]?.getD 0))) :
    CallsIn F m Tryd.prog 78 #[.slice none 0 0, .func (.func 59) #[] #[.pointer (some ⟨Bs, 0, none⟩)]] w fun e W' => ∃ v, e = .returned v ∧ W'.ownsRow w.heap.size 3 1 v zs.length (zs.map (Value.int .i64)) ∧ Below w.heap.size w W' := by
  have h1 : 1 ≤ m := by omega
  obtain ⟨i0, hi, hz0, hz1, hz2⟩ := info_parts infoI
  have HC := Aside0.mk hc
  clear hc
  refine callsIn_of_wp_marks Tryd.func78 rfl (hfn _) ?_ hro
  simp only [Tryd.ntmps78, List.size_toArray, List.length_cons, List.length_nil, Nat.reduceAdd, Nat.reduceSub, Array.replicate_succ, Array.replicate_zero, List.push_toArray, List.append_toArray, List.nil_append, List.cons_append]
  gi_wp2
  have bR := Boxed.new w 22 (.slice none 0 0)
  have bS := hbs.alloc (.cells #[.slice none 0 0] 22)
  have B1 : Below w.heap.size w (w.alloc (.cells #[.slice none 0 0] 22)) := (Below.refl _ w).alloc (Nat.le_refl _) _
  have s1 : (w.alloc (.cells #[.slice none 0 0] 22)).heap.size = w.heap.size + 1 := by simp
  have hc1 : ∀ j, j < zs.length → (w.alloc (.cells #[.slice none 0 0] 22)).cell? ⟨b, off + j, none⟩ = some (.int .i64 (zs[j]?.getD 0)) := fun j hj => (B1.cell (p := ⟨b, off + j, none⟩) (by show b < w.heap.size; omega)).trans (HC.out j hj)
  obtain ⟨w1, hw1⟩ : ∃ w1, w.alloc (.cells #[.slice none 0 0] 22) = w1 := ⟨_, rfl⟩
  rw [hw1] at bR bS B1 s1 hc1 ⊢
  have HC1 := Aside0.mk hc1
  clear hc1 hw1
  refine wpIn_rangeFunc_ownG hro h1 (gf := 59) (lb := #[.pointer (some ⟨Bs, 0, none⟩)]) rfl (hfn _) (enters_of Tryd.func59 (by kernel_rfl) rfl)
    (values_stops F (m - 1) (hfn _) hro (by omega) Bs n₀ b off cap zs (by omega) w1 bS (by omega) hb HC1.out) belowK_t (belowK_b (by omega)) (Below.refl _ _) (fun _ => rfl)
    (fun (pre : List Int) W => (∃ v, Boxed W w.heap.size 22 v ∧ W.ownsRow w.heap.size 3 1 v pre.length (pre.map (Value.int .i64)) ∧ True) ∧ Below w.heap.size w W)
    (fun _ _ _ => False)
    (OwnFrom.and (Own.from (holdsRow_own w.heap.size w.heap.size 22 3 1 (fun (pre : List Int) => pre.length) (fun pre => pre.map (Value.int .i64)) (fun _ _ => True)) _) (ownFrom_below (Nat.le_refl _) (by omega)))
    (fun _ _ _ _ _ hs _ _ => hs)
    ⟨⟨_, bR, World.ownsRow_nil _ _ _ _, trivial⟩, B1⟩
    (fun x => { tmps := #[.slice none 0 0, .func (.func 59) #[] #[.pointer (some ⟨Bs, 0, none⟩)], .pointer (some ⟨w.heap.size, 0, none⟩), undef, .slice none 0 0, .int .i64 x, .func (.func 59) #[] #[.pointer (some ⟨Bs, 0, none⟩)], .int .i64 x, undef, undef, undef, undef, undef], defers := [] }) ?assign ?body ?done ?stop
  case assign =>
    intro l x W K hK
    gi_wp2
    exact hK
  case body =>
    rintro l' pre x W ⟨⟨v, hv, hrow, _⟩, hB⟩ hlt
    have hcc := hv.cell
    gi_wp2_with (gi_at_builtin; refine wpListIn_append_own _ rfl _ _ 22 rfl w.heap.size 3 i0 (.int .i64 0) 1 8 Tryd.underlying22 hi hz0 hz1 hz2 rfl (by decide) _ _ _ rfl (hrow.alloc _) ⟨W.heap.size, 0, none⟩ 1 1 [.int .i64 x] rfl rfl (cell_one_new _ _ _) (by simp [Value.oneCell']) (by unfold maxLen; omega) (by omega) (by have := hB.size; simp; omega) ?_; intro v' w1 hown' hgrow _; obtain ⟨g', cap', rfl⟩ := ownsRow_succ hown'; obtain ⟨hv1, hv2, hr2, hk2, hb2⟩ := hv.appended (by decide) hrow hB.size (Nat.le_refl _) hown' hgrow; have hc1 := hv1.cell; have hf1 := hv1.frozen)
    exact ⟨hk2.from _, hb2.mono hn₀, ⟨_, hv2, by simpa using hr2, trivial⟩, hB.trans hb2⟩
  case done =>
    rintro D ys W hD rfl ⟨⟨v, hv, hrow, _⟩, hB⟩ hK
    have hcc := hv.cell
    gi_wp2
    refine ⟨by simp, .inl ⟨_, _, rfl, run_takeDeferred hK, ?_⟩⟩
    exact ⟨_, results_tmp rfl _ _ _, v, rfl, ownsRow_putObj hrow _ hK rfl, hB.trans (belowK_b (w := w) (Nat.le_refl _) W D _ _ (by omega) hK rfl rfl)⟩
  case stop =>
    rintro D c pre W _ _ h _
    exact h.elim
set_option maxHeartbeats 2000000 in
theorem collect_in (F : Fence) (hfn : ∀ g, F.fn g) (hro : F.round = none) (m : Nat) (hm : 4 ≤ m) (Bs n₀ b off cap : Nat) (zs : List Int) (hz : zs.length ≤ 2000000) (w : World) (hbs : Boxed w Bs 22 (.slice (some ⟨b, off, none⟩) zs.length cap)) (hn₀ : n₀ ≤ w.heap.size) (hb : b < n₀)
    (hc : ∀ j, j < zs.length → w.cell? ⟨b, off + j, none⟩ = some (.int .i64 (zs[j]?.getD 0))) :
    CallsIn F m Tryd.prog 57 #[.func (.func 59) #[] #[.pointer (some ⟨Bs, 0, none⟩)]] w fun e W' => ∃ v, e = .returned v ∧ W'.ownsRow w.heap.size 3 1 v zs.length (zs.map (Value.int .i64)) ∧ Below w.heap.size w W' := by
  have h1 : 1 ≤ m := by omega
  have AS := appendSeq_in F hfn hro (m - 1) (by omega) Bs n₀ b off cap zs hz w hbs hn₀ hb hc
  clear hc hbs
  refine callsIn_of_wp Tryd.func57 rfl (hfn _) ?_ hro
  simp only [Tryd.ntmps57, List.size_toArray, List.length_cons, List.length_nil, Nat.reduceAdd, Nat.reduceSub, Array.replicate_succ, Array.replicate_zero, List.push_toArray, List.append_toArray, List.nil_append, List.cons_append]
  gi_wp2_with (gi_at_call 78; refine AS.mono ?_; rintro e w' ⟨v, rfl, hrow, hB⟩)
  go_ret
  exact ⟨v, rfl, hrow, hB⟩
/-- What slices.Sort makes of a row. -/
def SortIn (F : Fence) (m : Nat) : Prop := ∀ (blk off cap : Nat) (zs : List Int) (W : World), Holds (Value.int .i64) W blk off zs.toArray → blk < W.heap.size → zs.length < 4611686018427387904 →
  CallsIn F m Tryd.prog 58 #[.slice (some ⟨blk, off, none⟩) zs.length cap] W fun e w' => e = .returned (.tuple #[]) ∧ ∃ n os, w' = grow (putRow (Value.int .i64) (Sort.ahead W n) blk off (zs.mergeSort fun x y => decide (x ≤ y)).toArray) os
def sortI (zs : List Int) : List Int := zs.mergeSort fun x y => decide (x ≤ y)
set_option maxHeartbeats 2000000 in
theorem sorted_in (F : Fence) (hfn : ∀ g, F.fn g) (hro : F.round = none) (m : Nat) (hm : 5 ≤ m) (hSort : SortIn F (m - 1)) (Bs n₀ b off cap : Nat) (zs : List Int) (hz0 : 0 < zs.length) (hz : zs.length ≤ 2000000) (w : World) (hbs : Boxed w Bs 22 (.slice (some ⟨b, off, none⟩) zs.length cap)) (hn₀ : n₀ ≤ w.heap.size) (hb : b < n₀)
    (hc : ∀ j, j < zs.length → w.cell? ⟨b, off + j, none⟩ = some (.int .i64 (zs[j]?.getD 0))) :
    CallsIn F m Tryd.prog 49 #[.func (.func 59) #[] #[.pointer (some ⟨Bs, 0, none⟩)]] w fun e W' => ∃ v, e = .returned v ∧ W'.ownsRow w.heap.size 3 1 v zs.length ((sortI zs).map (Value.int .i64)) ∧ Below w.heap.size w W' := by
  have h1 : 1 ≤ m := by omega
  have CO := collect_in F hfn hro (m - 1) (by omega) Bs n₀ b off cap zs hz w hbs hn₀ hb hc
  have HS := Aside0.mk hSort
  clear hc hbs hSort
  refine callsIn_of_wp Tryd.func49 rfl (hfn _) ?_ hro
  simp only [Tryd.ntmps49, List.size_toArray, List.length_cons, List.length_nil, Nat.reduceAdd, Nat.reduceSub, Array.replicate_succ, Array.replicate_zero, List.push_toArray, List.append_toArray, List.nil_append, List.cons_append]
  gi_wp2_with (gi_at_call 57; refine CO.mono ?_; rintro e W ⟨v, rfl, hrow, hB⟩)
  rcases hrow.2 with ⟨rfl, hzz⟩ | ⟨gb, cap2, cur, rfl, hbase, hgb, r1, r2, r3, r4⟩
  · omega
  · have hH : Holds (Value.int .i64) W gb 0 zs.toArray := holds_of_block_i hgb (by simpa using r4)
    have hgl : gb < W.heap.size := (Array.getElem?_eq_some_iff.1 hgb).1
    have cS := HS.out gb 0 cap2 zs W hH hgl (by omega)
    have A1 := Aside0.mk r4
    clear r4 hH
    gi_wp2_with (gi_at_call 58; refine cS.mono ?_; rintro e w' ⟨rfl, nn, os, rfl⟩)
    go_ret
    have hl : (sortI zs).length = zs.length := List.length_mergeSort _
    exact ⟨_, rfl, ownsRow_sorted_i hl hbase hgb r1 r2 r3, hB.trans ((Below.refl _ W).grown (grownBy_sorted_i _) hB.size (fun j hj => by cases hj; exact hbase))⟩
end
def inB (a b c : Int) : Bool := decide (b ≤ a) && decide (a ≤ c)
def isBoardB (w : Int) (l : List Int) : Bool := inB w 1 3 && (decide ((l.length : Int) % w = 0) && (inB ((l.length : Int) / w) 1 3 && decide (sortI l = (List.range l.length).map fun (i : Nat) => (i : Int))))
/-- The cells of a row that is read, its first cell's block and place. -/
theorem row_cellsI {w : World} {A : Option Addr} {l : List Int} (hr : Kd.C (Kd.int .i64) w A l.length l) (hp : 0 < l.length) :
    ∃ b off, A = some ⟨b, off, none⟩ ∧ b < w.heap.size ∧ ∀ j, j < l.length → w.cell? ⟨b, off + j, none⟩ = some (.int .i64 (l[j]?.getD 0)) := by
  obtain ⟨ad, hA, hcell⟩ := hr.2.2 hp
  subst hA
  obtain ⟨b, off, sp⟩ := ad
  have hcl : ∀ (j : Nat) x, l[j]? = some x → w.cell? ((⟨b, off, sp⟩ : Addr).add j) = some (.int .i64 x) := by
    intro j x hx
    obtain ⟨c, hl, hk, hcc⟩ := hcell j x hx
    have hk' : c = [Value.int .i64 x] := hk
    subst hk'
    have hz := hcc 0 (.int .i64 x) rfl
    have e1 : j * (Kd.int .i64).sz + 0 = j := by show j * 1 + 0 = j; omega
    rw [e1] at hz
    exact hz
  have h00 : w.cell? ⟨b, off, sp⟩ = some (.int .i64 l[0]) := hcl 0 _ (List.getElem?_eq_getElem hp)
  have hsp : sp = none := World.cell?_spot h00
  subst hsp
  refine ⟨b, off, rfl, World.block_lt_of_cell? w _ h00, fun j hj => ?_⟩
  have hz := hcl j _ (List.getElem?_eq_getElem hj)
  have ea : (⟨b, off, none⟩ : Addr).add j = ⟨b, off + j, none⟩ := by
    unfold Addr.add
    split
    · rename_i e0
      subst e0
      rfl
    · rfl
  rw [ea] at hz
  rw [hz, List.getElem?_eq_getElem hj]
  rfl
theorem cell_heapI {W : World} {B j : Nat} {cur : Array Value} {t : TypeId} {fr : Nat × Nat} {v : Value} (h : W.heap[B]? = some (.cells cur t fr)) (hj : cur[j]? = some v) : W.cell? ⟨B, j, none⟩ = some v := by
  simp [World.cell?, h, hj]
set_option maxRecDepth 100000 in
set_option maxHeartbeats 2000000 in
theorem isBoard_calls (HW : ∀ (a b c : Int) (W : World), Calls Tryd.prog 48 #[.int .i64 a, .int .i64 b, .int .i64 c] W fun e w' => e = .returned (.bool (inB a b c)) ∧ Drawn0 W w')
    (a0 : Int) (A : Option Addr) (c : Nat) (l : List Int) (w : World) (hr : Kd.C (Kd.int .i64) w A l.length l) (hc : l.length ≤ c) (h1 : l.length ≤ 2000000) :
    Calls Tryd.prog 24 #[.agg #[.int .i64 a0, .slice A l.length c]] w fun e w' => e = .returned (.bool (isBoardB a0 l)) ∧ Below w.heap.size w w' := by
  have HW' := Aside0.mk HW
  clear HW
  unfold isBoardB
  have hx0 := World.alloc_heap_new w (.cells #[.int .i64 a0, .slice A l.length c] 28)
  obtain ⟨w1, hw1⟩ : ∃ w1, w.alloc (.cells #[.int .i64 a0, .slice A l.length c] 28) = w1 := ⟨_, rfl⟩
  have B1 : Below w.heap.size w w1 := by rw [← hw1]; exact (Below.refl _ w).alloc (Nat.le_refl _) _
  have s1 : w1.heap.size = w.heap.size + 1 := by rw [← hw1, World.size_alloc]
  have x0 : ∀ m, (w1.drewN m).cell? ⟨w.heap.size, 0, none⟩ = some (.int .i64 a0) := fun m => by rw [hw1] at hx0; exact cell_heapI (j := 0) hx0 rfl
  have x1 : ∀ m, (w1.drewN m).cell? ⟨w.heap.size, 1, none⟩ = some (.slice A l.length c) := fun m => by rw [hw1] at hx0; exact cell_heapI (j := 1) hx0 rfl
  have x0a := x0 0
  have x1a := x1 0
  have d0 : w1.drewN 0 = w1 := rfl
  rw [d0] at x0a x1a
  have hlm : (l.length : Int) ≤ 2000000 := by omega
  by_cases c1 : inB a0 1 3 = true
  · have ha : 1 ≤ a0 ∧ a0 ≤ 3 := by
      unfold inB at c1
      simp only [Bool.and_eq_true, decide_eq_true_eq] at c1
      exact c1
    have ha0 : ¬ a0 = 0 := by omega
    have hqw : wrap64 ((l.length : Int) / a0) = (l.length : Int) / a0 := by
      have q0 : 0 ≤ (l.length : Int) / a0 := Int.ediv_nonneg (by omega) (by omega)
      have q1 : (l.length : Int) / a0 ≤ (l.length : Int) := Int.ediv_le_self _ (by omega)
      unfold wrap64
      omega
    rw [c1, Bool.true_and]
    by_cases c2 : (l.length : Int) % a0 = 0
    · rw [decide_eq_true c2, Bool.true_and]
      by_cases c3 : inB ((l.length : Int) / a0) 1 3 = true
      · rw [c3, Bool.true_and]
        have hl0 : 0 < l.length := by
          rcases Nat.eq_zero_or_pos l.length with h0 | h0
          · rw [h0] at c3
            unfold inB at c3
            simp at c3
          · exact h0
        obtain ⟨b, off, rfl, hb, hcells⟩ := row_cellsI hr hl0
        have HV : ∀ (W : World), Calls Tryd.prog 50 #[.slice (some ⟨b, off, none⟩) l.length c] W fun e w' => e = .returned (.func (.func 59) #[] #[.pointer (some ⟨W.heap.size, 0, none⟩)]) ∧ w' = W.alloc (.cells #[.slice (some ⟨b, off, none⟩) l.length c] 22) := fun W => callsIn_wide.1 (values_in Fence.wide 1 trivial rfl _ _ _ W)
        have HS : ∀ (W : World) (Bx : Nat), Below w.heap.size w W → W.heap.size = Bx → Calls Tryd.prog 49 #[.func (.func 59) #[] #[.pointer (some ⟨Bx, 0, none⟩)]] (W.alloc (.cells #[.slice (some ⟨b, off, none⟩) l.length c] 22)) fun e w' => ∃ g cap cur, e = .returned (.slice (some ⟨g, 0, none⟩) l.length cap) ∧ w'.heap[g]? = some (.cells cur 3 (0, 0)) ∧ cur.toList.take l.length = (sortI l).map (Value.int .i64) ∧ Below w.heap.size w w' := by
          intro W Bx hW hBx
          subst hBx
          have hWa : Below w.heap.size w (W.alloc (.cells #[.slice (some ⟨b, off, none⟩) l.length c] 22)) := hW.alloc hW.size _
          have hz := hW.size
          have hSort : SortIn Fence.wide (5 - 1) := fun blk off cap zs W hH hblk hsz => callsIn_wide.2 (Any.slices_Sort_int Tryd.lays189 blk off cap zs W hH hblk hsz)
          refine (callsIn_wide.1 (sorted_in Fence.wide (fun _ => trivial) rfl 5 (Nat.le_refl _) hSort W.heap.size w.heap.size b off c l hl0 h1 _ (Boxed.new W 22 _) (by simp; omega) hb (fun j hj => (hWa.cell (p := ⟨b, off + j, none⟩) hb).trans (hcells j hj)))).mono ?_
          rintro e w' ⟨v, rfl, hrow, hB⟩
          rcases hrow.2 with ⟨_, hzz⟩ | ⟨gb, cap2, cur, rfl, hbase, hgb, r1, r2, r3, r4⟩
          · omega
          · exact ⟨gb, cap2, cur, rfl, hgb, by simpa using r4, hWa.trans (hB.mono (by simp; omega))⟩
        have HS' := Aside0.mk HS
        have HV' := Aside0.mk HV
        have hls : (sortI l).length = l.length := List.length_mergeSort _
        clear HS HV hr hcells
        go_enter Tryd.func24, Tryd.ntmps24
        go_wp2_with (first
          | (go_at_call 48; refine (HW'.out _ _ _ _).mono ?_; rintro e w' ⟨rfl, ⟨nd, rfl⟩⟩)
          | (go_at_call 50; refine (HV'.out _).mono ?_; rintro e w' ⟨rfl, rfl⟩)
          | (go_at_call 49; refine (HS'.out _ _ (pw_below_drewN B1 _) (by simp [s1])).mono ?_; rintro e w2 ⟨g, cap, cur, rfl, hg, hcur, hB2⟩))
        go_loopw [33] (fun s wr => ∃ k : Nat, k ≤ l.length ∧ s = .int .i64 (k : Int) ∧ (∀ j, j < k → (sortI l)[j]? = some (j : Int)) ∧ wr = w2) (fun s _ => l.length - (intOf s).toNat)
        case atStart => exact ⟨0, Nat.zero_le _, rfl, fun j hj => absurd hj (Nat.not_lt_zero _), rfl⟩
        case round =>
          obtain ⟨k, hk, rfl, hpre, rfl⟩ := hrel
          by_cases hlt : k < l.length
          · have hks : k < (sortI l).length := by omega
            have hcl : wr.cell? ⟨g, k, none⟩ = some (.int .i64 (sortI l)[k]) := by
              refine cell_heapI hg ?_
              have h1 : (cur.toList.take l.length)[k]? = ((sortI l).map (Value.int .i64))[k]? := by rw [hcur]
              rw [List.getElem?_take_of_lt hlt, Array.getElem?_toList, List.getElem?_map, List.getElem?_eq_getElem hks] at h1
              exact h1
            obtain ⟨x, hx⟩ : ∃ x, (sortI l)[k] = x := ⟨_, rfl⟩
            rw [hx] at hcl
            have A1 := Aside0.mk hx
            have A2 := Aside0.mk hpre
            clear hx hpre
            by_cases hxk : (k : Int) = x
            · subst hxk
              go_wp2
              refine ⟨⟨k + 1, by omega, by simp, fun j hj => ?_, trivial⟩, by simp [intOf]; omega⟩
              by_cases hjk : j < k
              · exact A2.out j hjk
              · have e : j = k := by omega
                rw [e, List.getElem?_eq_getElem hks, A1.out]
            · go_wp2
              have hne : decide (sortI l = (List.range l.length).map fun (i : Nat) => (i : Int)) = false := by
                apply decide_eq_false
                intro he
                have h2 : (sortI l)[k]? = ((List.range l.length).map fun (i : Nat) => (i : Int))[k]? := by rw [he]
                rw [List.getElem?_eq_getElem hks, A1.out, List.getElem?_map, List.getElem?_range hlt] at h2
                exact hxk (Option.some.inj h2).symm
              rw [hne]
              go_ret
              exact ⟨rfl, hB2⟩
          · have e : k = l.length := by omega
            subst e
            have heq : decide (sortI l = (List.range l.length).map fun (i : Nat) => (i : Int)) = true := by
              apply decide_eq_true
              apply List.ext_getElem?
              intro j
              by_cases hj : j < l.length
              · rw [hpre j hj, List.getElem?_map, List.getElem?_range hj]
                rfl
              · rw [List.getElem?_eq_none (by omega), List.getElem?_eq_none (by simp; omega)]
            have A3 := Aside0.mk heq
            clear heq hpre
            go_wp2
            rw [A3.out]
            go_ret
            exact ⟨rfl, hB2⟩
      · rw [Bool.eq_false_iff.2 c3, Bool.false_and]
        have c3' := Bool.eq_false_iff.2 c3
        clear c3
        go_enter Tryd.func24, Tryd.ntmps24
        go_wp2_with (go_at_call 48; refine (HW'.out _ _ _ _).mono ?_; rintro e w' ⟨rfl, ⟨nd, rfl⟩⟩)
        go_ret
        exact ⟨rfl, pw_below_drewN B1 _⟩
    · rw [decide_eq_false c2, Bool.false_and]
      go_enter Tryd.func24, Tryd.ntmps24
      go_wp2_with (go_at_call 48; refine (HW'.out _ _ _ _).mono ?_; rintro e w' ⟨rfl, ⟨nd, rfl⟩⟩)
      go_ret
      exact ⟨rfl, pw_below_drewN B1 _⟩
  · rw [Bool.eq_false_iff.2 c1, Bool.false_and]
    have c1' := Bool.eq_false_iff.2 c1
    clear c1
    go_enter Tryd.func24, Tryd.ntmps24
    go_wp2_with (go_at_call 48; refine (HW'.out _ _ _ _).mono ?_; rintro e w' ⟨rfl, ⟨nd, rfl⟩⟩)
    go_ret
    exact ⟨rfl, pw_below_drewN B1 nd⟩
end Go.Proofs.YtmplgijnmjdogaaDoorV
