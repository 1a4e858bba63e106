/- The iterator of slices.Chunk over bytes, inside a fence: it hands the pieces to the loop's body, one behind the other. -/
import Derived.RangeFuncNested
import Derived.RangeFuncBound
import Derived.RangeFuncCalls
import Derived.RangeFuncLeaves
import Derived.Shelf.Abstract
import Derived.Shelf.RegionOpen
import Derived.WalkKit
import Derived.OwnWalkIn
import Derived.TacticsInMore
import Derived.LoopNIn
import Derived.LoopIn
import Derived.Maps.AppendAt
import Derived.Test.YtoojemnocncafaaProg
namespace Go.Proofs.YtoojemnocncafaaV
open Go.RowKit Go.Shelf
attribute [local go_sem] Oper.semAt_some

structure Said0 (G : Prop) : Prop where
  out : G
theorem once_ {A G : Prop} (f : Said0 G → A) (g : G) : A := f ⟨g⟩
def nch (n len : Nat) : Nat := (len + n - 1) / n
theorem nch_lt {n len k : Nat} (hn : 0 < n) : k < nch n len ↔ k * n < len := by
  unfold nch
  rw [Nat.lt_iff_add_one_le, Nat.le_div_iff_mul_le hn, Nat.add_mul, Nat.one_mul]
  omega
def chunkV (b off len n k : Nat) : Value := .slice (some ⟨b, off + k * n, none⟩) (min n (len - k * n)) (min n (len - k * n))

theorem take_fin {N k : Nat} (h : k < N) : (List.finRange N).take k ++ [⟨k, h⟩] = (List.finRange N).take (k + 1) := by
  rw [List.take_succ_eq_append_getElem (by rw [List.length_finRange]; exact h)]
  simp
set_option maxRecDepth 100000 in
set_option maxHeartbeats 2000000 in
theorem chunk1_in (F : Fence) (m : Nat) (hf : F.fn 41) (hro : F.round = none) (hm : 1 ≤ m) (l Bs Bn b off len cap n : Nat) (hn : 0 < n) (hn2 : n ≤ 1000000) (hlen : len ≤ 1000000) (hcap : len ≤ cap)
    (Kp : World → World → Prop) (hKp : ∀ W W', Kp W W' → W'.cell? ⟨Bs, 0, none⟩ = W.cell? ⟨Bs, 0, none⟩ ∧ W'.cell? ⟨Bn, 0, none⟩ = W.cell? ⟨Bn, 0, none⟩)
    (J Jx : List (Fin (nch n len)) → World → Prop) (hJd : ∀ s W, J s W → J s W.drew)
    (hY : ∀ pre x W, J pre W → pre.length < nch n len → YieldAt F (m - 1) Try.prog l #[chunkV b off len n x.val] W fun e W' =>
      (e = .returned (.bool true) ∧ J (pre ++ [x]) W' ∧ Kp W W') ∨ (e = .returned (.bool false) ∧ Jx (pre ++ [x]) W'))
    (W : World) (hBs : W.cell? ⟨Bs, 0, none⟩ = some (.slice (some ⟨b, off, none⟩) len cap)) (hBn : W.cell? ⟨Bn, 0, none⟩ = some (.int .i64 n)) (h0 : J [] W) :
    CallsIn F m Try.prog 41 #[.func (.yield l) #[] #[], .pointer (some ⟨Bs, 0, none⟩), .pointer (some ⟨Bn, 0, none⟩)] W fun e W' => (∃ v, e = .returned v) ∧
      ((∃ ys, ys = List.finRange (nch n len) ∧ J ys W') ∨ (∃ pre, pre <+: List.finRange (nch n len) ∧ Jx pre W')) := by
  refine callsIn_of_wp Try.func41 rfl hf ?_ hro
  simp only [Try.ntmps41, List.size_toArray, List.length_cons, List.length_nil, Nat.reduceAdd, Nat.reduceSub, Array.replicate_succ, Array.replicate_zero, List.push_toArray, List.append_toArray, List.nil_append, List.cons_append]
  gi_wp2
  gi_loopw [4] (fun i wr => ∃ k p : Nat, p = k * n ∧ k ≤ nch n len ∧ i = .int .i64 (p : Int) ∧ J ((List.finRange (nch n len)).take k) wr ∧ wr.cell? ⟨Bs, 0, none⟩ = some (.slice (some ⟨b, off, none⟩) len cap) ∧ wr.cell? ⟨Bn, 0, none⟩ = some (.int .i64 n))
    (fun i _ => len + n - (intOf i).toNat)
  case atStart => exact ⟨0, 0, by simp, Nat.zero_le _, by simp, by simpa using h0, hBs, hBn⟩
  case round =>
    obtain ⟨k, p, hp, hk, rfl, hJs, hBs, hBn⟩ := hrel
    by_cases hlt : k < nch n len
    · have hkl := (nch_lt hn).1 hlt
      obtain ⟨fn, tmps, assign, body, hy, hR⟩ := hY _ ⟨k, hlt⟩ wr.drew (hJd _ _ hJs) (by rw [List.length_take, List.length_finRange]; omega)
      unfold chunkV at hy
      simp only at hy
      rw [← hp] at hy hkl
      have hBs' : wr.drew.cell? ⟨Bs, 0, none⟩ = some (.slice (some ⟨b, off, none⟩) len cap) := hBs
      have hBn' : wr.drew.cell? ⟨Bn, 0, none⟩ = some (.int .i64 n) := hBn
      have hcp : ¬ cap = p := by omega
      obtain ⟨hpA⟩ : Nonempty (PLift (p = k * n)) := ⟨⟨hp⟩⟩
      clear hp
      by_cases hmn : len - p < n
      · rw [Nat.min_eq_right (by omega)] at hy
        gi_wp2
        apply once_
        · intro hdone
          gi_region
          all_goals exact hdone.out
        gi_wp2
        refine hR.mono ?_
        rintro e W3 (⟨rfl, hJ3, hk3⟩ | ⟨rfl, hJx3⟩)
        · obtain ⟨hs3, hn3⟩ := hKp _ _ hk3
          have hBs3 := hs3.trans hBs'
          have hBn3 := hn3.trans hBn'
          gi_wp2
          go_roundw
          case rel => exact ⟨k + 1, p + n, by rw [hpA.down, Nat.add_mul, Nat.one_mul], by omega, by rw [Int.natCast_add], by rw [← take_fin hlt]; exact hJ3, hBs3, hBn3⟩
          case measure => simp [intOf]; omega
        · gi_wp2
          refine bodyPost_ret (results_none rfl _ _ _) rfl ?_
          exact ⟨⟨_, rfl⟩, .inr ⟨_, by rw [take_fin hlt]; exact List.take_prefix _ _, hJx3⟩⟩
      · have hmn' : n ≤ len - p := by omega
        rw [Nat.min_eq_left (by omega)] at hy
        gi_wp2
        apply once_
        · intro hdone
          gi_region
          all_goals exact hdone.out
        gi_wp2
        refine hR.mono ?_
        rintro e W3 (⟨rfl, hJ3, hk3⟩ | ⟨rfl, hJx3⟩)
        · obtain ⟨hs3, hn3⟩ := hKp _ _ hk3
          have hBs3 := hs3.trans hBs'
          have hBn3 := hn3.trans hBn'
          gi_wp2
          go_roundw
          case rel => exact ⟨k + 1, p + n, by rw [hpA.down, Nat.add_mul, Nat.one_mul], by omega, by rw [Int.natCast_add], by rw [← take_fin hlt]; exact hJ3, hBs3, hBn3⟩
          case measure => simp [intOf]; omega
        · gi_wp2
          refine bodyPost_ret (results_none rfl _ _ _) rfl ?_
          exact ⟨⟨_, rfl⟩, .inr ⟨_, by rw [take_fin hlt]; exact List.take_prefix _ _, hJx3⟩⟩
    · have hkk : k = nch n len := by omega
      have hge : ¬ p < len := fun h => hlt ((nch_lt hn).2 (by omega))
      clear hp
      gi_wp2
      go_end0
      refine ⟨⟨_, rfl⟩, .inl ⟨_, rfl, ?_⟩⟩
      rw [List.take_of_length_le (by rw [List.length_finRange]; omega)] at hJs
      exact hJs

end Go.Proofs.YtoojemnocncafaaV
