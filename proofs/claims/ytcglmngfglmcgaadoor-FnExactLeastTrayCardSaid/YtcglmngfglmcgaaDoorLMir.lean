/- The mirrored tray, as the reference's tyMirror and the program's method mirrored make it: the same cells. -/
import Derived.Test.YtcglmngfglmcgaaDoorLTurn
import Derived.Test.YtcglmngfglmcgaaDoorVMir
import Derived.Test.YtcglmngfglmcgaaDoorQx4
import Derived.Test.YtcglmngfglmcgaaDoorQx10
set_option linter.unusedVariables false
set_option linter.unusedSimpArgs false
namespace Go.Proofs.YtcglmngfglmcgaaDoorL
open Go.RowKit Go.Proofs.YtcglmngfglmcgaaDoor.Q Go.Proofs.YtcglmngfglmcgaaDoorW.PrintWords Go.Proofs.YtcglmngfglmcgaaDoorW.PrintLast Go.Proofs.YtcglmngfglmcgaaDoorM Go.Proofs.YtcglmngfglmcgaaDoorV

theorem tyMirror_l1 {w h y : Nat} {cs : List UInt8} (hl : cs.length = w * h) (hw : w ≤ 100) (hh : h ≤ 100) (hy : y < h) (P : List UInt8) (hP : P.length ≤ 10000) (R : Int × Int × List Int)
    (hgo : Ev (fun k => spec_tyMirror.l0 k ((y + 1 : Nat) : Int) (w : Int) (h : Int) (ints cs) (w : Int) (h : Int) (ints (P ++ (List.range w).map fun j => at_ w cs (w - 1 - j) y))) R) :
    ∀ (d j : Nat), w - j = d → j ≤ w → Ev (fun k => spec_tyMirror.l1 k (y : Int) ((w : Int) - 1 - (j : Int)) (w : Int) (h : Int) (ints cs) (w : Int) (h : Int) (ints (P ++ (List.range j).map fun j => at_ w cs (w - 1 - j) y))) R := by
  intro d
  induction d with
  | zero =>
    intro j hd hj
    have e : j = w := by omega
    subst e
    have g : ¬ ((j : Int) - 1 - (j : Int)) ≥ 0 := by omega
    have b : y + 1 < 1000000 := by omega
    have e1 : wrap64 ((y : Int) + 1) = ((y + 1 : Nat) : Int) := wm b rfl
    exact Ev.step (fun k => by rw [spec_tyMirror.l1, if_neg g, e1]) hgo
  | succ d ih =>
    intro j hd hj
    have hlt : j < w := by omega
    have h1 := ih (j + 1) (by omega) (by omega)
    have hle : (y + 1) * w ≤ w * h := by rw [Nat.mul_comm w]; exact Nat.mul_le_mul_right _ (by omega)
    rw [Nat.add_mul, Nat.one_mul] at hle
    have hm : w * h ≤ 100 * 100 := Nat.mul_le_mul hw hh
    have ey : (w : Int) - 1 - (j : Int) = ((w - 1 - j : Nat) : Int) := by omega
    have ey2 : (w : Int) - 1 - ((j + 1 : Nat) : Int) = (w : Int) - 1 - (j : Int) - 1 := by omega
    obtain ⟨x, hx⟩ : ∃ x, w - 1 - j = x := ⟨_, rfl⟩
    have hi : y * w + x < cs.length := by rw [hl, ← hx]; omega
    have g : (w : Int) - 1 - (j : Int) ≥ 0 := by omega
    have b1 : y * w < 1000000 := by rw [hl] at hi; omega
    have b2 : y * w + x < 1000000 := by rw [hl] at hi; omega
    have b3 : -1000000 ≤ (w : Int) - 1 - (j : Int) - 1 := by omega
    have b4 : (w : Int) - 1 - (j : Int) - 1 ≤ 1000000 := by omega
    have i0 : (0 : Int) ≤ ((y * w + x : Nat) : Int) := by omega
    have i1 : ((y * w + x : Nat) : Int) < ((ints cs).length : Int) := by rw [ints_length]; omega
    have a0 : (ints (P ++ (List.range j).map fun j => at_ w cs (w - 1 - j) y)).length < 140737488355328 := by rw [ints_length, List.length_append, List.length_map, List.length_range]; omega
    have hsn : ints (P ++ (List.range j).map fun j => at_ w cs (w - 1 - j) y) ++ [rd (ints cs) ((y * w + x : Nat) : Int)] = ints (P ++ (List.range (j + 1)).map fun j => at_ w cs (w - 1 - j) y) := by
      rw [rd_ints hi, ← ints_snoc, List.append_assoc, List.range_succ, List.map_append]
      congr 3
      show [cs.getD (y * w + x) 0] = [at_ w cs (w - 1 - j) y]
      rw [hx]
      rfl
    have e1 : wrap64 ((y : Int) * (w : Int)) = ((y * w : Nat) : Int) := wm b1 (Int.natCast_mul _ _).symm
    have e2 : wrap64 (((y * w : Nat) : Int) + (x : Int)) = ((y * w + x : Nat) : Int) := wm b2 (Int.natCast_add _ _).symm
    have e3 : wrap64 ((w : Int) - 1 - (j : Int) - 1) = (w : Int) - 1 - (j : Int) - 1 := wz b3 b4 rfl
    rw [ey2] at h1
    rw [hx] at ey
    refine Ev.step (fun k => ?_) h1
    rw [spec_tyMirror.l1, if_pos g]
    rw [ey] at e3 ⊢
    rw [e1, e2, if_pos i0, if_pos i1, if_pos a0, hsn, e3]
theorem tyMirror_l0 {w h : Nat} {cs : List UInt8} (hl : cs.length = w * h) (hw : w ≤ 100) (hh : h ≤ 100) :
    ∀ (d y : Nat), h - y = d → y ≤ h → Ev (fun k => spec_tyMirror.l0 k (y : Int) (w : Int) (h : Int) (ints cs) (w : Int) (h : Int) (ints ((mirG w h cs).take y).flatten)) ((w : Int), (h : Int), ints (mirG w h cs).flatten) := by
  intro d
  induction d with
  | zero =>
    intro y hd hy
    have e : y = h := by omega
    subst e
    have e2 : (mirG w y cs).take y = mirG w y cs := List.take_of_length_le (by rw [mirG_len]; exact Nat.le_refl _)
    rw [e2]
    have g : ¬ (y : Int) < (y : Int) := by omega
    exact Ev.step (f := fun _ => some ((w : Int), (y : Int), ints (mirG w y cs).flatten)) (fun k => by rw [spec_tyMirror.l0, if_neg g]) (Ev.now _)
  | succ d ih =>
    intro y hd hy
    have hlt : y < h := by omega
    have h1 := ih (y + 1) (by omega) (by omega)
    have hlen : y < (mirG w h cs).length := by rw [mirG_len]; exact hlt
    have hrow : (mirG w h cs)[y] = (List.range w).map fun j => at_ w cs (w - 1 - j) y := by simp [mirG]
    have hP : ((mirG w h cs).take y).flatten.length ≤ 10000 := by
      rw [rowsFlat (fun q hq => mirG_each w h cs q (List.mem_of_mem_take hq))]
      have : w * ((mirG w h cs).take y).length ≤ 100 * 100 := Nat.mul_le_mul hw (by rw [List.length_take]; omega)
      exact this
    rw [List.take_succ_eq_append_getElem hlen, List.flatten_append, List.flatten_cons, List.flatten_nil, List.append_nil, hrow] at h1
    have h2 := tyMirror_l1 hl hw hh hlt _ hP _ h1 w 0 rfl (Nat.zero_le _)
    rw [List.range_zero, List.map_nil, List.append_nil] at h2
    have g : (y : Int) < (h : Int) := by omega
    have b3 : -1000000 ≤ (w : Int) - 1 := by omega
    have b4 : (w : Int) - 1 ≤ 1000000 := by omega
    have e0 : (w : Int) - 1 - ((0 : Nat) : Int) = (w : Int) - 1 := by omega
    have e3 : wrap64 ((w : Int) - 1) = (w : Int) - 1 := wz b3 b4 rfl
    rw [e0] at h2
    exact Ev.step (fun k => by rw [spec_tyMirror.l0, if_pos g, e3]) h2
/-- THE REFERENCE's MIRRORED TRAY. -/
theorem tyMirror_eq {w h : Nat} {cs : List UInt8} (hl : cs.length = w * h) (hw : w ≤ 100) (hh : h ≤ 100) : Ev (fun k => spec_tyMirror.f k (w : Int) (h : Int) (ints cs)) ((w : Int), (h : Int), ints (mirG w h cs).flatten) :=
  tyMirror_l0 hl hw hh h 0 rfl (Nat.zero_le _)
theorem revAt_mid {α : Type} (A q C : List α) : revAt A.length q.length (A ++ (q ++ C)) = A ++ (q.reverse ++ C) := by
  unfold revAt
  have h1 : (A ++ (q ++ C)).take A.length = A := List.take_left' rfl
  have h2 : (A ++ (q ++ C)).drop A.length = q ++ C := List.drop_left' rfl
  have h3 : (q ++ C).take q.length = q := List.take_left' rfl
  have h4 : (A ++ (q ++ C)).drop (A.length + q.length) = C := by rw [← List.append_assoc]; exact List.drop_left' (by rw [List.length_append])
  rw [h1, h2, h3, h4, List.append_assoc]
theorem mirL_rows {n : Nat} {rs : List (List Int)} (h : ∀ q ∈ rs, q.length = n) : ∀ k, k ≤ rs.length → mirL n rs.flatten (List.range k) = ((rs.take k).map List.reverse).flatten ++ (rs.drop k).flatten
  | 0, _ => by simp [mirL]
  | k + 1, hk => by
    have hlt : k < rs.length := hk
    have ih := mirL_rows h k (by omega)
    have hq : (rs[k]).length = n := h _ (List.getElem_mem hlt)
    have hA : (((rs.take k).map List.reverse).flatten).length = k * n := by
      rw [rowsFlat (n := n) (fun q hq => by obtain ⟨p, hp, rfl⟩ := List.mem_map.1 hq; rw [List.length_reverse]; exact h p (List.mem_of_mem_take hp)), List.length_map, List.length_take, Nat.min_eq_left (by omega), Nat.mul_comm]
    have hlen : rs.flatten.length = n * rs.length := rowsFlat h
    have hm : min n (rs.flatten.length - k * n) = n := by
      have : (k + 1) * n ≤ n * rs.length := by rw [Nat.mul_comm n]; exact Nat.mul_le_mul_right _ hk
      rw [Nat.add_mul, Nat.one_mul] at this
      rw [hlen]
      omega
    have e1 : mirL n rs.flatten (List.range (k + 1)) = revAt (k * n) (min n (rs.flatten.length - k * n)) (mirL n rs.flatten (List.range k)) := by
      unfold mirL
      rw [List.range_succ, List.foldl_append]
      rfl
    rw [e1, ih, hm, List.drop_eq_getElem_cons hlt, List.flatten_cons]
    have := revAt_mid (((rs.take k).map List.reverse).flatten) rs[k] (rs.drop (k + 1)).flatten
    rw [hA, hq] at this
    rw [this, List.take_succ_eq_append_getElem hlt, List.map_append, List.flatten_append, List.append_assoc]
    simp
theorem mirL_eq {w h : Nat} (hw : 0 < w) {cs : List UInt8} (hl : cs.length = w * h) : mirL w (ints cs) (List.range (nch w (ints cs).length)) = ints (mirG w h cs).flatten := by
  have hl2 : (ints cs).length = w * h := by rw [ints_length, hl]
  have hn : nch w (ints cs).length = h := by unfold nch; rw [hl2]; exact chunks_many hw
  have e0 : chunks w (ints cs) = (chunks w cs).map (List.map fun b => (b.toNat : Int)) := chunks_map _ w cs
  have h1 := mirL_rows (chunks_each hw hl2) h (by rw [chunks_length hw hl2]; exact Nat.le_refl _)
  have h2 := chunks_length hw hl2
  rw [cut_flatten hw hl2, List.take_of_length_le (by omega), List.drop_eq_nil_of_le (by omega), List.flatten_nil, List.append_nil] at h1
  rw [hn, h1, e0, ← mir_rows hw hl]
  unfold ints
  rw [List.map_flatten, List.map_map, List.map_map]
  congr 1
  apply List.map_congr_left
  intro q _
  show (q.map _).reverse = (q.reverse).map _
  rw [List.map_reverse]
/-- THE PROGRAM's MIRRORED TRAY. -/
theorem mirrored_eq {w h : Nat} {cs : List UInt8} (hl : cs.length = w * h) (hw0 : 0 < w) (hh0 : 0 < h) (hw : w ≤ 100) (hh : h ≤ 100) : impl_tray_mirrored.f (w : Int) (h : Int) (ints cs) = some ((w : Int), (h : Int), ints (mirG w h cs).flatten) := by
  have h1 : w * h ≤ 100 * 100 := Nat.mul_le_mul hw hh
  have h2 : 0 < w * h := Nat.mul_pos hw0 hh0
  have g1 : (0 : Int) < (w : Int) := by omega
  have g2 : (w : Int) ≤ 1000000 := by omega
  have g3 : 0 < (ints cs).length := by rw [ints_length]; omega
  have g4 : (ints cs).length ≤ 1000000 := by rw [ints_length]; omega
  rw [impl_tray_mirrored.f, if_pos g1, if_pos g2, if_pos g3, if_pos g4, Int.toNat_natCast, mirL_eq hw0 hl]
end Go.Proofs.YtcglmngfglmcgaaDoorL
