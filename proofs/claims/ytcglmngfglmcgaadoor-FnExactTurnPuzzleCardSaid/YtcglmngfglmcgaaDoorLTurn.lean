/- The quarter turn, as the reference's tyTurn and the program's method turned make it: the same cells. -/
import Derived.Test.YtcglmngfglmcgaaDoorLGrid
import Derived.Test.YtcglmngfglmcgaaDoorLWm
import Derived.Test.YtcglmngfglmcgaaDoorQx5
import Derived.Test.YtcglmngfglmcgaaDoorQx13
import Derived.Test.YtcglmngfglmcgaaDoorQx12
set_option linter.unusedVariables false
set_option linter.unusedSimpArgs false
namespace Go.Proofs.YtcglmngfglmcgaaDoorL
open Go.RowKit Go.Proofs.YtcglmngfglmcgaaDoor.Q Go.Proofs.YtcglmngfglmcgaaDoorW.PrintWords Go.Proofs.YtcglmngfglmcgaaDoorW.PrintLast Go.Proofs.YtcglmngfglmcgaaDoorM Go.Proofs.YtcglmngfglmcgaaDoorV

theorem ints_snoc (l : List UInt8) (c : UInt8) : ints (l ++ [c]) = ints l ++ [(c.toNat : Int)] := by rw [ints_append]; rfl
theorem wz {z y : Int} (h0 : -1000000 ≤ y) (h1 : y ≤ 1000000) (hz : z = y) : wrap64 z = y := by
  rw [hz]
  exact wr (by omega) (by omega)
theorem tyTurn_l1 {w h x : Nat} {cs : List UInt8} (hl : cs.length = w * h) (hw : w ≤ 100) (hh : h ≤ 100) (hx : x < w) (P : List UInt8) (hP : P.length ≤ 10000) (R : Int × Int × List Int)
    (hgo : Ev (fun k => spec_tyTurn.l0 k ((x + 1 : Nat) : Int) (w : Int) (h : Int) (ints cs) (h : Int) (w : Int) (ints (P ++ (List.range h).map fun j => at_ w cs x (h - 1 - j)))) R) :
    ∀ (d j : Nat), h - j = d → j ≤ h → Ev (fun k => spec_tyTurn.l1 k (x : Int) ((h : Int) - 1 - (j : Int)) (w : Int) (h : Int) (ints cs) (h : Int) (w : Int) (ints (P ++ (List.range j).map fun j => at_ w cs x (h - 1 - j)))) R := by
  intro d
  induction d with
  | zero =>
    intro j hd hj
    have e : j = h := by omega
    subst e
    have g : ¬ ((j : Int) - 1 - (j : Int)) ≥ 0 := by omega
    have b : x + 1 < 1000000 := by omega
    have e1 : wrap64 ((x : Int) + 1) = ((x + 1 : Nat) : Int) := wm b rfl
    exact Ev.step (fun k => by rw [spec_tyTurn.l1, if_neg g, e1]) hgo
  | succ d ih =>
    intro j hd hj
    have hlt : j < h := by omega
    have h1 := ih (j + 1) (by omega) (by omega)
    have hle : (h - 1 - j + 1) * w ≤ w * h := by rw [Nat.mul_comm w]; exact Nat.mul_le_mul_right _ (by omega)
    rw [Nat.add_mul, Nat.one_mul] at hle
    have hm : w * h ≤ 100 * 100 := Nat.mul_le_mul hw hh
    have ey : (h : Int) - 1 - (j : Int) = ((h - 1 - j : Nat) : Int) := by omega
    have ey2 : (h : Int) - 1 - ((j + 1 : Nat) : Int) = (h : Int) - 1 - (j : Int) - 1 := by omega
    obtain ⟨y, hy⟩ : ∃ y, h - 1 - j = y := ⟨_, rfl⟩
    have hi : y * w + x < cs.length := by rw [hl, ← hy]; omega
    have hyl : y < 1000 := by omega
    have g : (h : Int) - 1 - (j : Int) ≥ 0 := by omega
    have b1 : y * w < 1000000 := by rw [hl] at hi; omega
    have b2 : y * w + x < 1000000 := by rw [hl] at hi; omega
    have b3 : -1000000 ≤ (h : Int) - 1 - (j : Int) - 1 := by omega
    have b4 : (h : Int) - 1 - (j : Int) - 1 ≤ 1000000 := by omega
    have i0 : (0 : Int) ≤ ((y * w + x : Nat) : Int) := by omega
    have i1 : ((y * w + x : Nat) : Int) < ((ints cs).length : Int) := by rw [ints_length]; omega
    have a0 : (ints (P ++ (List.range j).map fun j => at_ w cs x (h - 1 - j))).length < 140737488355328 := by rw [ints_length, List.length_append, List.length_map, List.length_range]; omega
    have hsn : ints (P ++ (List.range j).map fun j => at_ w cs x (h - 1 - j)) ++ [rd (ints cs) ((y * w + x : Nat) : Int)] = ints (P ++ (List.range (j + 1)).map fun j => at_ w cs x (h - 1 - j)) := by
      rw [rd_ints hi, ← ints_snoc, List.append_assoc, List.range_succ, List.map_append]
      congr 3
      show [cs.getD (y * w + x) 0] = [at_ w cs x (h - 1 - j)]
      rw [hy]
      rfl
    have e1 : wrap64 ((y : Int) * (w : Int)) = ((y * w : Nat) : Int) := wm b1 (Int.natCast_mul _ _).symm
    have e2 : wrap64 (((y * w : Nat) : Int) + (x : Int)) = ((y * w + x : Nat) : Int) := wm b2 (Int.natCast_add _ _).symm
    have e3 : wrap64 ((h : Int) - 1 - (j : Int) - 1) = (h : Int) - 1 - (j : Int) - 1 := wz b3 b4 rfl
    rw [ey2] at h1
    rw [hy] at ey
    refine Ev.step (fun k => ?_) h1
    rw [spec_tyTurn.l1, if_pos g]
    rw [ey] at e3 ⊢
    rw [e1, e2, if_pos i0, if_pos i1, if_pos a0, hsn, e3]
theorem tyTurn_l0 {w h : Nat} {cs : List UInt8} (hl : cs.length = w * h) (hw : w ≤ 100) (hh : h ≤ 100) :
    ∀ (d x : Nat), w - x = d → x ≤ w → Ev (fun k => spec_tyTurn.l0 k (x : Int) (w : Int) (h : Int) (ints cs) (h : Int) (w : Int) (ints ((turnG w h cs).take x).flatten)) ((h : Int), (w : Int), ints (turnG w h cs).flatten) := by
  intro d
  induction d with
  | zero =>
    intro x hd hx
    have e : x = w := by omega
    subst e
    have e2 : (turnG x h cs).take x = turnG x h cs := List.take_of_length_le (by rw [turnG_len]; exact Nat.le_refl _)
    rw [e2]
    have g : ¬ (x : Int) < (x : Int) := by omega
    exact Ev.step (f := fun _ => some ((h : Int), (x : Int), ints (turnG x h cs).flatten)) (fun k => by rw [spec_tyTurn.l0, if_neg g]) (Ev.now _)
  | succ d ih =>
    intro x hd hx
    have hlt : x < w := by omega
    have h1 := ih (x + 1) (by omega) (by omega)
    have hlen : x < (turnG w h cs).length := by rw [turnG_len]; exact hlt
    have hrow : (turnG w h cs)[x] = (List.range h).map fun j => at_ w cs x (h - 1 - j) := by simp [turnG]
    have hP : ((turnG w h cs).take x).flatten.length ≤ 10000 := by
      rw [rowsFlat (fun q hq => turnG_each w h cs q (List.mem_of_mem_take hq))]
      have : h * ((turnG w h cs).take x).length ≤ 100 * 100 := Nat.mul_le_mul hh (by rw [List.length_take]; omega)
      exact this
    rw [List.take_succ_eq_append_getElem hlen, List.flatten_append, List.flatten_cons, List.flatten_nil, List.append_nil, hrow] at h1
    have h2 := tyTurn_l1 hl hw hh hlt _ hP _ h1 h 0 rfl (Nat.zero_le _)
    rw [List.range_zero, List.map_nil, List.append_nil] at h2
    have g : (x : Int) < (w : Int) := by omega
    have b3 : -1000000 ≤ (h : Int) - 1 := by omega
    have b4 : (h : Int) - 1 ≤ 1000000 := by omega
    have e0 : (h : Int) - 1 - ((0 : Nat) : Int) = (h : Int) - 1 := by omega
    have e3 : wrap64 ((h : Int) - 1) = (h : Int) - 1 := wz b3 b4 rfl
    rw [e0] at h2
    exact Ev.step (fun k => by rw [spec_tyTurn.l0, if_pos g, e3]) h2
/-- THE REFERENCE's TURN. -/
theorem tyTurn_eq {w h : Nat} {cs : List UInt8} (hl : cs.length = w * h) (hw : w ≤ 100) (hh : h ≤ 100) : Ev (fun k => spec_tyTurn.f k (w : Int) (h : Int) (ints cs)) ((h : Int), (w : Int), ints (turnG w h cs).flatten) :=
  tyTurn_l0 hl hw hh w 0 rfl (Nat.zero_le _)
theorem turned_l0 {w h : Nat} {cs : List UInt8} (hl : cs.length = w * h) (hw0 : 0 < w) (hh0 : 0 < h) (hw : w ≤ 7) (hh : h ≤ 7) (hm : w * h ≤ 36) :
    ∀ (d i : Nat), w * h - i = d → i ≤ w * h → Ev (fun k => impl_tray_turned.l0 k (ints cs) ((ints cs).length : Int) (i : Int) (w : Int) (h : Int) (ints cs) (h : Int) (w : Int) (ints (partT w h cs i))) ((h : Int), (w : Int), ints (turnG w h cs).flatten) := by
  intro d
  induction d with
  | zero =>
    intro i hd hi
    have e : i = w * h := by omega
    subst e
    rw [partT_all hw hh hm]
    have g : ¬ ((w * h : Nat) : Int) < ((ints cs).length : Int) := by rw [ints_length, hl]; omega
    exact Ev.step (f := fun _ => some ((h : Int), (w : Int), ints (turnG w h cs).flatten)) (fun k => by rw [impl_tray_turned.l0, if_neg g]) (Ev.now _)
  | succ d ih =>
    intro i hd hi
    have hlt : i < w * h := by omega
    have hic : i < cs.length := by omega
    have h1 := ih (i + 1) (by omega) (by omega)
    obtain ⟨d1, d2, d3⟩ := dst_lt ⟨w, by omega⟩ ⟨h, by omega⟩ ⟨i, by omega⟩ hlt
    simp only at d1 d2 d3
    have g : (i : Int) < ((ints cs).length : Int) := by rw [ints_length, hl]; omega
    have g0 : (0 : Int) ≤ (i : Int) := by omega
    have gw : ¬ (w : Int) = 0 := by omega
    have b : i + 1 < 1000000 := by omega
    have hmod : Int.tmod (i : Int) (w : Int) = ((i % w : Nat) : Int) := rfl
    have hdiv : Int.tdiv (i : Int) (w : Int) = ((i / w : Nat) : Int) := rfl
    obtain ⟨q, hq⟩ : ∃ q, i / w = q := ⟨_, rfl⟩
    obtain ⟨r, hr⟩ : ∃ r, i % w = r := ⟨_, rfl⟩
    have hdst : dstT w h i = r * h + (h - 1 - q) := by unfold dstT; rw [hq, hr]
    rw [hq] at d2 hdiv
    rw [hr] at d3 hmod
    have m1 : r * h ≤ 7 * 7 := Nat.mul_le_mul (by omega) hh
    have b1 : r * h < 1000000 := by omega
    have b2 : r * h + (h - 1 - q) < 1000000 := by omega
    have b3 : h - 1 < 1000000 := by omega
    have b4 : h - 1 - q < 1000000 := by omega
    have b5 : q < 1000000 := by omega
    have z3 : (h : Int) - 1 = ((h - 1 : Nat) : Int) := by omega
    have z4 : ((h - 1 : Nat) : Int) - ((q : Nat) : Int) = ((h - 1 - q : Nat) : Int) := by omega
    have t0 : (0 : Int) ≤ ((dstT w h i : Nat) : Int) := by omega
    have t1 : ((dstT w h i : Nat) : Int) < ((ints (partT w h cs i)).length : Int) := by rw [ints_length, partT_len]; omega
    have hset : (ints (partT w h cs i)).set (((dstT w h i : Nat) : Int)).toNat (rd (ints cs) (i : Int)) = ints (partT w h cs (i + 1)) := by
      rw [Int.toNat_natCast, rd_ints hic, ← partT_step hw hh hm hlt cs]
      unfold ints
      rw [List.map_set]
    have hz0 : r * h + (h - 1 - q) = dstT w h i := hdst.symm
    have e : wrap64 ((i : Int) + 1) = ((i + 1 : Nat) : Int) := wm b rfl
    have e1 : wrap64 ((r : Int) * (h : Int)) = ((r * h : Nat) : Int) := wm b1 (Int.natCast_mul _ _).symm
    have e3 : wrap64 ((h : Int) - 1) = ((h - 1 : Nat) : Int) := wm b3 z3
    have e4 : wrap64 (((h - 1 : Nat) : Int) - ((q : Nat) : Int)) = ((h - 1 - q : Nat) : Int) := wm b4 z4
    have e5 : wrap64 ((q : Nat) : Int) = ((q : Nat) : Int) := wm b5 rfl
    have e2 : wrap64 (((r * h : Nat) : Int) + ((h - 1 - q : Nat) : Int)) = ((dstT w h i : Nat) : Int) := by rw [← hz0]; exact wm b2 (Int.natCast_add _ _).symm
    refine Ev.step (fun k => ?_) h1
    rw [impl_tray_turned.l0, if_pos g, if_pos g0, if_pos g, if_neg gw, hmod, hdiv, impl_tray_number.f, Option.bind_some, e5, e3, e4, e1, e2, if_pos t0, if_pos t1, hset, e]
/-- THE PROGRAM's TURN. -/
theorem turned_eq {w h : Nat} {cs : List UInt8} (hl : cs.length = w * h) (hw0 : 0 < w) (hh0 : 0 < h) (hw : w ≤ 7) (hh : h ≤ 7) (hm : w * h ≤ 36) : Ev (fun k => impl_tray_turned.f k (w : Int) (h : Int) (ints cs)) ((h : Int), (w : Int), ints (turnG w h cs).flatten) := by
  have h1 := turned_l0 hl hw0 hh0 hw hh hm (w * h) 0 rfl (Nat.zero_le _)
  have g0 : (0 : Int) ≤ ((ints cs).length : Int) := by omega
  have g1 : (((ints cs).length : Int) : Int).toNat ≤ 281474976710656 := by rw [ints_length, hl]; omega
  have e : ints (partT w h cs 0) = List.replicate (((ints cs).length : Int) : Int).toNat 0 := by
    rw [partT_zero, ints_length, hl, Int.toNat_natCast]
    unfold ints
    rw [List.map_replicate]
    rfl
  rw [e] at h1
  exact Ev.congr (g := _) (r := _) (fun k => by rw [impl_tray_turned.f, if_pos g0, if_pos g1]; rfl) h1
end Go.Proofs.YtcglmngfglmcgaaDoorL
