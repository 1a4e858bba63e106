/- The program's CropTray returns what the reference's returns: for all arguments the law FnExactCropTray returns true. -/
import Derived.Test.YtdckhiclegehnaaDoorLGrid
import Derived.Test.YtdckhiclegehnaaDoorLWm
import Derived.Test.YtdckhiclegehnaaDoorQx13
import Derived.Test.YtdckhiclegehnaaDoorQx12
import Derived.Test.YtdckhiclegehnaaDoorQx15
import Derived.Test.YtdckhiclegehnaaDoorQx8
import Derived.Test.YtdckhiclegehnaaDoorQx16
set_option linter.unusedVariables false
set_option linter.unusedSimpArgs false
namespace Go.Proofs.YtdckhiclegehnaaDoor.Pure
open Go.RowKit Go.Proofs.YtdckhiclegehnaaDoor.Q Go.Proofs.YtdckhiclegehnaaDoorW.PrintWords Go.Proofs.YtdckhiclegehnaaDoorW.PrintLast Go.Proofs.YtdckhiclegehnaaDoorW.PrintMore Go.Proofs.YtdckhiclegehnaaDoorM Go.Proofs.YtdckhiclegehnaaDoorV Go.Proofs.YtdckhiclegehnaaDoorL

theorem tell (g : Nat → Option (ByteArray × Bool)) (f : Nat → Option (ByteArray × Bool)) (r : ByteArray × Bool) (h1 : Ev g r) (h2 : Ev f r) :
    Ev (fun k => (g k).bind fun b1 => (f k).bind fun b2 => (if b2.1.toList = b1.1.toList then (if (b2.2 != b1.2) = true then (some false) else (some true)) else (some false))) true := by
  refine Ev.bind h1 (Ev.bind h2 ?_)
  refine ⟨0, fun k _ => ?_⟩
  simp
def nothing : ByteArray × Bool := ((⟨#[]⟩ : ByteArray), false)
/-- The numbers of the open cells. -/
def idx : List Int → Nat → List Nat
  | [], _ => []
  | c :: l, i => if c = 35 then idx l (i + 1) else i :: idx l (i + 1)
theorem idx_lt : ∀ (l : List Int) (i : Nat), ∀ k ∈ idx l i, k < i + l.length
  | [], _, k, hk => by simp [idx] at hk
  | c :: l, i, k, hk => by
    rw [idx] at hk
    rw [List.length_cons]
    by_cases h : c = 35
    · rw [if_pos h] at hk
      have := idx_lt l (i + 1) k hk
      omega
    · rw [if_neg h] at hk
      rcases List.mem_cons.1 hk with rfl | hk
      · omega
      · have := idx_lt l (i + 1) k hk
        omega
theorem idx_len : ∀ (l : List Int) (i : Nat), (idx l i).length ≤ l.length
  | [], _ => Nat.le_refl _
  | c :: l, i => by
    have := idx_len l (i + 1)
    rw [idx]
    by_cases h : c = 35
    · rw [if_pos h, List.length_cons]; omega
    · rw [if_neg h, List.length_cons, List.length_cons]; omega
structure Box where
  x1 : Int
  y1 : Int
  x2 : Int
  y2 : Int
def grow1 (w : Nat) (s : Box) (k : Nat) : Box := ⟨mn s.x1 ((k % w : Nat) : Int), mn s.y1 ((k / w : Nat) : Int), mx s.x2 ((k % w : Nat) : Int), mx s.y2 ((k / w : Nat) : Int)⟩
def start (w h : Nat) : Box := ⟨w, h, -1, -1⟩
def Fits (w h : Nat) (s : Box) : Prop := 0 ≤ s.x1 ∧ s.x1 ≤ s.x2 ∧ s.x2 < w ∧ 0 ≤ s.y1 ∧ s.y1 ≤ s.y2 ∧ s.y2 < h
theorem grow_fits {w h : Nat} {s : Box} {k : Nat} (hw : 0 < w) (hk : k < w * h) (hs : s = start w h ∨ Fits w h s) : Fits w h (grow1 w s k) := by
  have h1 : k % w < w := Nat.mod_lt _ hw
  have h2 : k / w < h := Nat.div_lt_of_lt_mul hk
  obtain ⟨a, ha⟩ : ∃ a, k % w = a := ⟨_, rfl⟩
  obtain ⟨b, hb⟩ : ∃ b, k / w = b := ⟨_, rfl⟩
  unfold grow1
  rw [ha] at h1 ⊢
  rw [hb] at h2 ⊢
  rcases hs with rfl | hs
  · unfold Fits start mn mx
    dsimp only
    refine ⟨?_, ?_, ?_, ?_, ?_, ?_⟩ <;> (repeat' split) <;> omega
  · obtain ⟨e1, e2, e3, e4, e5, e6⟩ := hs
    unfold Fits mn mx
    dsimp only
    refine ⟨?_, ?_, ?_, ?_, ?_, ?_⟩ <;> (repeat' split) <;> omega
theorem fold_fits {w h : Nat} (hw : 0 < w) : ∀ (ks : List Nat) (s : Box), (∀ k ∈ ks, k < w * h) → (s = start w h ∨ Fits w h s) → (ks = [] ∧ ks.foldl (grow1 w) s = s) ∨ Fits w h (ks.foldl (grow1 w) s)
  | [], s, _, _ => .inl ⟨rfl, rfl⟩
  | k :: ks, s, hk, hs => by
    have h1 := grow_fits hw (hk k (List.mem_cons_self ..)) hs
    right
    rcases fold_fits hw ks (grow1 w s k) (fun x hx => hk x (List.mem_cons_of_mem _ hx)) (.inr h1) with ⟨h2, h3⟩ | h2
    · rw [List.foldl_cons, h3]
      exact h1
    · exact h2
theorem least_eq (a b : Int) : spec_l1Least.f a b = some (mn a b) := by
  rw [spec_l1Least.f]
  unfold mn
  by_cases h : a < b
  · rw [if_pos h, if_neg (by omega)]
  · rw [if_neg h]
    by_cases h2 : b < a
    · rw [if_pos h2]
    · rw [if_neg h2]
      have : a = b := by omega
      rw [this]
theorem most_eq (a b : Int) : spec_l1Most.f a b = some (mx a b) := by
  rw [spec_l1Most.f]
  unfold mx
  by_cases h : a > b
  · rw [if_pos h, if_neg (by omega)]
  · rw [if_neg h]
    by_cases h2 : a < b
    · rw [if_pos h2]
    · rw [if_neg h2]
      have : a = b := by omega
      rw [this]
theorem quo_w (i w : Nat) (hi : i < 1000000) : wrap64 (Int.tdiv (i : Int) (w : Int)) = ((i / w : Nat) : Int) := by
  have h1 : i / w < 1000000 := Nat.lt_of_le_of_lt (Nat.div_le_self _ _) hi
  exact wm h1 rfl
theorem spec_l0 {w : Nat} (h : Int) (cs : List Int) (hw : 0 < w) (hl : cs.length < 1000) (R : ByteArray × Bool) : ∀ (d i : Nat) (s : Box), cs.length - i = d → i ≤ cs.length →
    (Ev (fun k => spec_CropTray.l0 k ((idx (cs.drop i) i).foldl (grow1 w) s).x1 ((idx (cs.drop i) i).foldl (grow1 w) s).x2 ((idx (cs.drop i) i).foldl (grow1 w) s).y1 ((idx (cs.drop i) i).foldl (grow1 w) s).y2 cs (cs.length : Int) (cs.length : Int) (w : Int) h cs) R) →
    Ev (fun k => spec_CropTray.l0 k s.x1 s.x2 s.y1 s.y2 cs (cs.length : Int) (i : Int) (w : Int) h cs) R := by
  intro d
  induction d with
  | zero =>
    intro i s hd hi hR
    have e : i = cs.length := by omega
    subst e
    rw [List.drop_length] at hR
    exact hR
  | succ d ih =>
    intro i s hd hi hR
    have hlt : i < cs.length := by omega
    have g : (i : Int) < (cs.length : Int) := by omega
    have g0 : (0 : Int) ≤ (i : Int) := by omega
    have gw : ¬ (w : Int) = 0 := by omega
    have b : i + 1 < 1000000 := by omega
    have bi : i < 1000000 := by omega
    have hmod : Int.tmod (i : Int) (w : Int) = ((i % w : Nat) : Int) := rfl
    have hq := quo_w i w bi
    rw [List.drop_eq_getElem_cons hlt, idx] at hR
    have e : wrap64 ((i : Int) + 1) = ((i + 1 : Nat) : Int) := wm b rfl
    by_cases hc : cs[i] = 35
    · rw [if_pos hc] at hR
      have h1 := ih (i + 1) s (by omega) (by omega) hR
      exact Ev.step (fun k => by rw [spec_CropTray.l0, if_pos g, if_pos g0, if_pos g, rd_in hlt, if_pos hc, e]) h1
    · rw [if_neg hc, List.foldl_cons] at hR
      have h1 := ih (i + 1) (grow1 w s i) (by omega) (by omega) hR
      refine Ev.step (fun k => ?_) h1
      rw [spec_CropTray.l0, if_pos g, if_pos g0, if_pos g, rd_in hlt, if_neg hc, if_neg gw, hmod, hq, least_eq, Option.bind_some, most_eq, Option.bind_some, least_eq, Option.bind_some, most_eq, Option.bind_some, e]
      rfl
theorem impl_ix (cs : List Int) (hl : cs.length < 1000) : ∀ (d i : Nat) (acc : List Int), cs.length - i = d → i ≤ cs.length → acc.length ≤ i →
    Ev (fun k => impl_tray_indices_at_impl_isOpen.l0 k acc cs (cs.length : Int) (i : Int)) (acc ++ (idx (cs.drop i) i).map fun (k : Nat) => (k : Int)) := by
  intro d
  induction d with
  | zero =>
    intro i acc hd hi ha
    have g : ¬ ((i : Int) < (cs.length : Int)) := by omega
    have e : i = cs.length := by omega
    subst e
    rw [List.drop_length, idx, List.map_nil, List.append_nil]
    exact Ev.step (f := fun _ => some acc) (fun k => by rw [impl_tray_indices_at_impl_isOpen.l0, if_neg g]) (Ev.now _)
  | succ d ih =>
    intro i acc hd hi ha
    have hlt : i < cs.length := by omega
    have g : (i : Int) < (cs.length : Int) := by omega
    have g0 : (0 : Int) ≤ (i : Int) := by omega
    have b : i + 1 < 1000000 := by omega
    have g1 : acc.length < 17592186044416 := by omega
    have g2 : acc.length ≤ i + 1 := by omega
    have g3 : (acc ++ [(i : Int)]).length ≤ i + 1 := by rw [List.length_append, List.length_singleton]; omega
    have h1 := ih (i + 1) acc (by omega) (by omega) g2
    have h2 := ih (i + 1) (acc ++ [(i : Int)]) (by omega) (by omega) g3
    have e : wrap64 ((i : Int) + 1) = ((i + 1 : Nat) : Int) := wm b rfl
    rw [List.drop_eq_getElem_cons hlt, idx]
    by_cases hc : cs[i] = 35
    · rw [if_pos hc]
      have hb : ¬ (cs[i] != 35) = true := by simp [hc]
      exact Ev.step (fun k => by rw [impl_tray_indices_at_impl_isOpen.l0, if_pos g, if_pos g0, if_pos g, rd_in hlt, impl_isOpen.f, Option.bind_some, if_neg hb, e]) h1
    · rw [if_neg hc, List.map_cons]
      have hb : (cs[i] != 35) = true := by simp [hc]
      rw [List.append_assoc] at h2
      exact Ev.step (fun k => by rw [impl_tray_indices_at_impl_isOpen.l0, if_pos g, if_pos g0, if_pos g, rd_in hlt, impl_isOpen.f, Option.bind_some, if_pos hb, if_pos g1, e]) h2
theorem impl_l0 {w : Nat} (h : Int) (cs : List Int) (ks : List Nat) (hw : 0 < w) (hl : ks.length < 1000) (hk : ∀ k ∈ ks, k < 1000) (R : Int × Int × List Int) : ∀ (d i : Nat) (s : Box), ks.length - i = d → i ≤ ks.length →
    (Ev (fun k => impl_tray_rectangle.l0 k ((ks.drop i).foldl (grow1 w) s).x1 ((ks.drop i).foldl (grow1 w) s).y1 ((ks.drop i).foldl (grow1 w) s).x2 ((ks.drop i).foldl (grow1 w) s).y2 (ks.map fun (k : Nat) => (k : Int)) (ks.length : Int) (ks.length : Int) (w : Int) h cs) R) →
    Ev (fun k => impl_tray_rectangle.l0 k s.x1 s.y1 s.x2 s.y2 (ks.map fun (k : Nat) => (k : Int)) (ks.length : Int) (i : Int) (w : Int) h cs) R := by
  intro d
  induction d with
  | zero =>
    intro i s hd hi hR
    have e : i = ks.length := by omega
    subst e
    rw [List.drop_length] at hR
    exact hR
  | succ d ih =>
    intro i s hd hi hR
    have hlt : i < ks.length := by omega
    have hlt2 : i < (ks.map fun (k : Nat) => (k : Int)).length := by rw [List.length_map]; exact hlt
    have g : (i : Int) < (ks.length : Int) := by omega
    have g' : (i : Int) < ((ks.map fun (k : Nat) => (k : Int)).length : Int) := by rw [List.length_map]; exact g
    have g0 : (0 : Int) ≤ (i : Int) := by omega
    have gw : ¬ (w : Int) = 0 := by omega
    have b : i + 1 < 1000000 := by omega
    have hki : ks[i] < 1000000 := by have := hk _ (List.getElem_mem hlt); omega
    rw [List.drop_eq_getElem_cons hlt, List.foldl_cons] at hR
    have h1 := ih (i + 1) (grow1 w s ks[i]) (by omega) (by omega) hR
    have hget : (ks.map fun (k : Nat) => (k : Int))[i] = ((ks[i] : Nat) : Int) := List.getElem_map _
    have hmod : Int.tmod ((ks[i] : Nat) : Int) (w : Int) = ((ks[i] % w : Nat) : Int) := rfl
    have hq := quo_w ks[i] w hki
    have e : wrap64 ((i : Int) + 1) = ((i + 1 : Nat) : Int) := wm b rfl
    refine Ev.step (fun k => ?_) h1
    rw [impl_tray_rectangle.l0, if_pos g, if_pos g0, if_pos g', rd_in hlt2, hget, if_neg gw, hmod, hq, e]
    rfl
/-- The rows of a rectangle. -/
def rectG (w : Nat) (cs : List UInt8) (x1 n y1 m : Nat) : List (List UInt8) := (List.range m).map fun j => (cs.drop ((y1 + j) * w + x1)).take n
theorem rectG_len (w : Nat) (cs : List UInt8) (x1 n y1 m : Nat) : (rectG w cs x1 n y1 m).length = m := by simp [rectG]
theorem rectG_each {w h : Nat} {cs : List UInt8} (hl : cs.length = w * h) {x1 n y1 m : Nat} (hx : x1 + n ≤ w) (hy : y1 + m ≤ h) : ∀ q ∈ rectG w cs x1 n y1 m, q.length = n := by
  intro q hq
  obtain ⟨j, hj, rfl⟩ := List.mem_map.1 hq
  have hj' := List.mem_range.1 hj
  have : (y1 + j + 1) * w ≤ w * h := by rw [Nat.mul_comm w]; exact Nat.mul_le_mul_right _ (by omega)
  rw [Nat.add_mul (y1 + j), Nat.one_mul] at this
  rw [List.length_take, List.length_drop, hl]
  omega
theorem cut_row (cs : List UInt8) (a n : Nat) : ((ints cs).take (a + n)).drop a = ints ((cs.drop a).take n) := by
  unfold ints
  rw [← List.map_take, ← List.map_drop, List.drop_take, Nat.add_sub_cancel_left]
/-- What both loops over the rows have in common: from row j on. -/
theorem lo_hi {w h : Nat} {x1 n y1 m j : Nat} (hw : w ≤ 100) (hh : h ≤ 100) (hx : x1 + n ≤ w) (hy : y1 + m ≤ h) (hj : j < m) (hn : 0 < n) : (y1 + j) * w + x1 + n ≤ w * h ∧ w * h ≤ 10000 := by
  have : (y1 + j + 1) * w ≤ w * h := by rw [Nat.mul_comm w]; exact Nat.mul_le_mul_right _ (by omega)
  rw [Nat.add_mul (y1 + j), Nat.one_mul] at this
  have h2 : w * h ≤ 100 * 100 := Nat.mul_le_mul hw hh
  omega
theorem spec_rows {w h : Nat} {cs : List UInt8} (hl : cs.length = w * h) (hw : w ≤ 100) (hh : h ≤ 100) {x1 n y1 m : Nat} (hx : x1 + n ≤ w) (hy : y1 + m ≤ h) (hn : 0 < n) (hm : 0 < m) (R : ByteArray × Bool)
    (hR : Ev (fun k => (spec_tyText.f k (n : Int) (m : Int) (ints (rectG w cs x1 n y1 m).flatten)).bind fun t => some (t, true)) R) :
    ∀ (d j : Nat), m - j = d → j ≤ m → Ev (fun k => spec_CropTray.l1 k (x1 : Int) ((x1 + n - 1 : Nat) : Int) ((y1 + m - 1 : Nat) : Int) ((y1 + j : Nat) : Int) (w : Int) (h : Int) (ints cs) (n : Int) (m : Int) (ints ((rectG w cs x1 n y1 m).take j).flatten)) R := by
  intro d
  induction d with
  | zero =>
    intro j hd hj
    have e : j = m := by omega
    subst e
    have g : ¬ ((y1 + j : Nat) : Int) ≤ ((y1 + j - 1 : Nat) : Int) := by omega
    have e2 : (rectG w cs x1 n y1 j).take j = rectG w cs x1 n y1 j := List.take_of_length_le (by rw [rectG_len]; exact Nat.le_refl _)
    rw [e2]
    exact Ev.step (fun k => by rw [spec_CropTray.l1, if_neg g]) hR
  | succ d ih =>
    intro j hd hj
    have hlt : j < m := by omega
    have h1 := ih (j + 1) (by omega) (by omega)
    obtain ⟨k1, k2⟩ := lo_hi hw hh hx hy hlt hn
    have g : ((y1 + j : Nat) : Int) ≤ ((y1 + m - 1 : Nat) : Int) := by omega
    obtain ⟨o, ho⟩ : ∃ o, (y1 + j) * w = o := ⟨_, rfl⟩
    rw [ho] at k1
    have b0 : o < 1000000 := by omega
    have b1 : o + x1 < 1000000 := by omega
    have b2 : o + (x1 + n - 1) < 1000000 := by omega
    have b3 : o + x1 + n < 1000000 := by omega
    have b4 : y1 + (j + 1) < 1000000 := by omega
    have z2 : ((o : Nat) : Int) + ((x1 + n - 1 : Nat) : Int) = ((o + (x1 + n - 1) : Nat) : Int) := by omega
    have z3 : ((o + (x1 + n - 1) : Nat) : Int) + 1 = ((o + x1 + n : Nat) : Int) := by omega
    have z4 : ((y1 + j : Nat) : Int) + 1 = ((y1 + (j + 1) : Nat) : Int) := by omega
    have t0 : (0 : Int) ≤ ((o + x1 : Nat) : Int) := by omega
    have t1 : ((o + x1 : Nat) : Int) ≤ ((o + x1 + n : Nat) : Int) := by omega
    have t2 : ((o + x1 + n : Nat) : Int) ≤ ((ints cs).length : Int) := by rw [ints_length, hl]; omega
    have hlen : j < (rectG w cs x1 n y1 m).length := by rw [rectG_len]; exact hlt
    have hrow : (rectG w cs x1 n y1 m)[j] = (cs.drop (o + x1)).take n := by simp [rectG, ho]
    have hP : ((rectG w cs x1 n y1 m).take j).flatten.length ≤ 10000 := by
      rw [rowsFlat (fun q hq => rectG_each hl hx hy q (List.mem_of_mem_take hq))]
      have : n * ((rectG w cs x1 n y1 m).take j).length ≤ 100 * 100 := Nat.mul_le_mul (by omega) (by rw [List.length_take]; omega)
      exact this
    have hcut : ((ints cs).take (((o + x1 + n : Nat) : Int)).toNat).drop (((o + x1 : Nat) : Int)).toNat = ints ((cs.drop (o + x1)).take n) := by rw [Int.toNat_natCast, Int.toNat_natCast, cut_row]
    have t3 : (ints ((rectG w cs x1 n y1 m).take j).flatten).length + (ints ((cs.drop (o + x1)).take n)).length < 140737488355328 := by rw [ints_length, ints_length, List.length_take]; omega
    rw [List.take_succ_eq_append_getElem hlen, List.flatten_append, List.flatten_cons, List.flatten_nil, List.append_nil, hrow, ints_append] at h1
    have e0 : wrap64 (((y1 + j : Nat) : Int) * (w : Int)) = ((o : Nat) : Int) := wm b0 (by rw [← ho]; exact (Int.natCast_mul _ _).symm)
    have e1 : wrap64 (((o : Nat) : Int) + (x1 : Int)) = ((o + x1 : Nat) : Int) := wm b1 (Int.natCast_add _ _).symm
    have e2 : wrap64 (((o : Nat) : Int) + ((x1 + n - 1 : Nat) : Int)) = ((o + (x1 + n - 1) : Nat) : Int) := wm b2 z2
    have e3 : wrap64 (((o + (x1 + n - 1) : Nat) : Int) + 1) = ((o + x1 + n : Nat) : Int) := wm b3 z3
    have e4 : wrap64 (((y1 + j : Nat) : Int) + 1) = ((y1 + (j + 1) : Nat) : Int) := wm b4 z4
    refine Ev.step (fun k => ?_) h1
    rw [spec_CropTray.l1, if_pos g, e0, e1, e2, e3, e4, if_pos t0, if_pos t1, if_pos t2, Option.bind_some, hcut, if_pos t3]
theorem impl_rows {w h : Nat} {cs : List UInt8} (hl : cs.length = w * h) (hw : w ≤ 100) (hh : h ≤ 100) {x1 n y1 m : Nat} (hx : x1 + n ≤ w) (hy : y1 + m ≤ h) (hn : 0 < n) (hm : 0 < m) :
    ∀ (d j : Nat), m - j = d → j ≤ m → Ev (fun k => impl_tray_rectangle.l1 k (x1 : Int) ((x1 + n - 1 : Nat) : Int) ((y1 + m - 1 : Nat) : Int) ((y1 + j : Nat) : Int) (w : Int) (h : Int) (ints cs) (n : Int) (m : Int) (ints ((rectG w cs x1 n y1 m).take j).flatten)) ((n : Int), (m : Int), ints (rectG w cs x1 n y1 m).flatten) := by
  intro d
  induction d with
  | zero =>
    intro j hd hj
    have e : j = m := by omega
    subst e
    have g : ¬ ((y1 + j : Nat) : Int) ≤ ((y1 + j - 1 : Nat) : Int) := by omega
    have e2 : (rectG w cs x1 n y1 j).take j = rectG w cs x1 n y1 j := List.take_of_length_le (by rw [rectG_len]; exact Nat.le_refl _)
    rw [e2]
    exact Ev.step (f := fun _ => some ((n : Int), (j : Int), ints (rectG w cs x1 n y1 j).flatten)) (fun k => by rw [impl_tray_rectangle.l1, if_neg g]) (Ev.now _)
  | succ d ih =>
    intro j hd hj
    have hlt : j < m := by omega
    have h1 := ih (j + 1) (by omega) (by omega)
    obtain ⟨k1, k2⟩ := lo_hi hw hh hx hy hlt hn
    have g : ((y1 + j : Nat) : Int) ≤ ((y1 + m - 1 : Nat) : Int) := by omega
    obtain ⟨o, ho⟩ : ∃ o, (y1 + j) * w = o := ⟨_, rfl⟩
    rw [ho] at k1
    have b0 : o < 1000000 := by omega
    have b1 : o + x1 < 1000000 := by omega
    have b2 : o + (x1 + n - 1) < 1000000 := by omega
    have b3 : o + x1 + n < 1000000 := by omega
    have b4 : y1 + (j + 1) < 1000000 := by omega
    have z2 : ((o : Nat) : Int) + ((x1 + n - 1 : Nat) : Int) = ((o + (x1 + n - 1) : Nat) : Int) := by omega
    have z3 : ((o + (x1 + n - 1) : Nat) : Int) + 1 = ((o + x1 + n : Nat) : Int) := by omega
    have z4 : ((y1 + j : Nat) : Int) + 1 = ((y1 + (j + 1) : Nat) : Int) := by omega
    have t0 : (0 : Int) ≤ ((o + x1 : Nat) : Int) := by omega
    have t1 : ((o + x1 : Nat) : Int) ≤ ((o + x1 + n : Nat) : Int) := by omega
    have t2 : ((o + x1 + n : Nat) : Int) ≤ ((ints cs).length : Int) := by rw [ints_length, hl]; omega
    have hlen : j < (rectG w cs x1 n y1 m).length := by rw [rectG_len]; exact hlt
    have hrow : (rectG w cs x1 n y1 m)[j] = (cs.drop (o + x1)).take n := by simp [rectG, ho]
    have hP : ((rectG w cs x1 n y1 m).take j).flatten.length ≤ 10000 := by
      rw [rowsFlat (fun q hq => rectG_each hl hx hy q (List.mem_of_mem_take hq))]
      have : n * ((rectG w cs x1 n y1 m).take j).length ≤ 100 * 100 := Nat.mul_le_mul (by omega) (by rw [List.length_take]; omega)
      exact this
    have hcut : ((ints cs).take (((o + x1 + n : Nat) : Int)).toNat).drop (((o + x1 : Nat) : Int)).toNat = ints ((cs.drop (o + x1)).take n) := by rw [Int.toNat_natCast, Int.toNat_natCast, cut_row]
    have t3 : (ints ((rectG w cs x1 n y1 m).take j).flatten).length + (ints ((cs.drop (o + x1)).take n)).length < 140737488355328 := by rw [ints_length, ints_length, List.length_take]; omega
    rw [List.take_succ_eq_append_getElem hlen, List.flatten_append, List.flatten_cons, List.flatten_nil, List.append_nil, hrow, ints_append] at h1
    have e0 : wrap64 (((y1 + j : Nat) : Int) * (w : Int)) = ((o : Nat) : Int) := wm b0 (by rw [← ho]; exact (Int.natCast_mul _ _).symm)
    have e1 : wrap64 (((o : Nat) : Int) + (x1 : Int)) = ((o + x1 : Nat) : Int) := wm b1 (Int.natCast_add _ _).symm
    have e2 : wrap64 (((o : Nat) : Int) + ((x1 + n - 1 : Nat) : Int)) = ((o + (x1 + n - 1) : Nat) : Int) := wm b2 z2
    have e3 : wrap64 (((o + (x1 + n - 1) : Nat) : Int) + 1) = ((o + x1 + n : Nat) : Int) := wm b3 z3
    have e4 : wrap64 (((y1 + j : Nat) : Int) + 1) = ((y1 + (j + 1) : Nat) : Int) := wm b4 z4
    refine Ev.step (fun k => ?_) h1
    rw [impl_tray_rectangle.l1, if_pos g, impl_tray_number.f, impl_tray_number.f, Option.bind_some, Option.bind_some, e0, e1, e2, e3, e4, if_pos t0, if_pos t1, if_pos t2, hcut, if_pos t3]
theorem FnExactCropTray : laws_FnExactCropTray.Pure := by
  intro a _
  by_cases hta : (a.size : Int) > 1048576
  · exact ⟨0, by rw [laws_FnExactCropTray.f, if_pos hta]⟩
  refine Ev.rounds (Ev.congr (fun k => by rw [laws_FnExactCropTray.f, if_neg hta]) ?_)
  have ha' : a.size ≤ 1048576 := by omega
  have ia := isTray_eq a ha'
  have ra := tyRead_eq a
  by_cases ga : good a = true
  · rw [ga] at ia
    rw [if_pos ga, B_CS] at ra
    obtain ⟨f1, f2, f3, f4, f5, f6, f7⟩ := good_facts ga
    have hl := B_len ga
    have hn1000 : (ints (B a)).length < 1000 := by rw [ints_length, hl]; omega
    have hrd := read_eq a ha'
    rw [B_CS] at hrd
    have I := impl_ix (ints (B a)) hn1000 (ints (B a)).length 0 [] rfl (Nat.zero_le _) (Nat.zero_le _)
    rw [List.drop_zero, List.nil_append] at I
    obtain ⟨ks, hks⟩ : ∃ ks, idx (ints (B a)) 0 = ks := ⟨_, rfl⟩
    have hk : ∀ k ∈ ks, k < W a * H a := by
      intro k hk
      rw [← hks] at hk
      have := idx_lt _ _ k hk
      rw [ints_length, hl] at this
      omega
    have hkl : ks.length < 1000 := by rw [← hks]; have := idx_len (ints (B a)) 0; omega
    have hI2 : Ev (fun k => impl_tray_indices_at_impl_isOpen.f k (W a : Int) (H a : Int) (ints (B a))) (ks.map fun (k : Nat) => (k : Int)) := by rw [← hks]; exact I
    have S0 := fun R => spec_l0 (w := W a) (H a : Int) (ints (B a)) (by omega) hn1000 R (ints (B a)).length 0 (start (W a) (H a)) rfl (Nat.zero_le _)
    rw [List.drop_zero, hks] at S0
    have J0 := fun R => impl_l0 (w := W a) (H a : Int) (ints (B a)) ks (by omega) hkl (fun k hk' => by have := hk k hk'; omega) R ks.length 0 (start (W a) (H a)) rfl (Nat.zero_le _)
    rw [List.drop_zero] at J0
    have gl : ¬ ((ints (B a)).length : Int) < ((ints (B a)).length : Int) := by omega
    have gk : ¬ (ks.length : Int) < (ks.length : Int) := by omega
    rcases fold_fits (w := W a) (h := H a) (by omega) ks (start (W a) (H a)) hk (.inl rfl) with ⟨hz, hf⟩ | hf
    · -- no open cell
      have hlen0 : ((ks.map fun (k : Nat) => (k : Int)).length : Int) = 0 := by rw [hz]; rfl
      refine tell _ _ nothing (Ev.congr (fun k => rfl) (Ev.bind ra ?_)) (Ev.congr (fun k => rfl) (Ev.bind ia ?_))
      · refine Ev.congr (g := _) (r := nothing) (fun k => if_pos rfl) (S0 nothing ?_)
        rw [hf]
        refine Ev.step (f := fun _ => some nothing) (fun k => ?_) (Ev.now _)
        rw [spec_CropTray.l0, if_neg gl, if_pos (show (start (W a) (H a)).x2 < 0 from (by decide : (-1 : Int) < 0))]
        rfl
      · refine Ev.congr (f := fun k => (impl_tray_indices_at_impl_isOpen.f k (W a : Int) (H a : Int) (ints (B a))).bind fun t265 => (if (t265.length : Int) = 0 then (some ((⟨#[]⟩ : ByteArray), false)) else ((impl_tray_rectangle.f k (W a : Int) (H a : Int) (ints (B a)) t265).bind fun bt268 => ((impl_tray_text.f bt268.1 bt268.2.1 bt268.2.2).bind fun t273 => (some (t273, true)))))) (g := _) (r := nothing) (fun k => ?_) (Ev.bind hI2 ?_)
        · show ite _ _ _ = _
          rw [if_pos rfl, hrd, Option.bind_some]
        · exact ⟨0, fun k _ => if_pos hlen0⟩
    · -- the rectangle
      have hlen0 : ¬ ((ks.map fun (k : Nat) => (k : Int)).length : Int) = 0 := by
        intro h0
        have : ks = [] := List.eq_nil_of_length_eq_zero (by rw [List.length_map] at h0; omega)
        subst this
        have h1 : (start (W a) (H a)).x1 ≤ (start (W a) (H a)).x2 := hf.2.1
        have h2 : 0 ≤ (start (W a) (H a)).x1 := hf.1
        have h3 : (0 : Int) ≤ -1 := Int.le_trans h2 h1
        exact absurd h3 (by decide)
      obtain ⟨s, hs⟩ : ∃ s, ks.foldl (grow1 (W a)) (start (W a) (H a)) = s := ⟨_, rfl⟩
      rw [hs] at hf S0 J0
      obtain ⟨c1, c2, c3, c4, c5, c6⟩ := hf
      obtain ⟨x1, hx1⟩ := Int.eq_ofNat_of_zero_le c1
      obtain ⟨y1, hy1⟩ := Int.eq_ofNat_of_zero_le c4
      obtain ⟨n, hn⟩ : ∃ n : Nat, s.x2 - s.x1 + 1 = (n : Int) := ⟨(s.x2 - s.x1 + 1).toNat, by omega⟩
      obtain ⟨m, hm⟩ : ∃ m : Nat, s.y2 - s.y1 + 1 = (m : Int) := ⟨(s.y2 - s.y1 + 1).toNat, by omega⟩
      have hx2 : s.x2 = ((x1 + n - 1 : Nat) : Int) := by omega
      have hy2 : s.y2 = ((y1 + m - 1 : Nat) : Int) := by omega
      have hnp : 0 < n := by omega
      have hmp : 0 < m := by omega
      have hx : x1 + n ≤ W a := by omega
      have hy : y1 + m ≤ H a := by omega
      have bn : n < 1000000 := by omega
      have bm : m < 1000000 := by omega
      have zn : wrap64 (wrap64 (s.x2 - s.x1) + 1) = (n : Int) := by
        have h0 : wrap64 (s.x2 - s.x1) = s.x2 - s.x1 := wr (by omega) (by omega)
        rw [h0, hn]
        exact wm bn rfl
      have zm : wrap64 (wrap64 (s.y2 - s.y1) + 1) = (m : Int) := by
        have h0 : wrap64 (s.y2 - s.y1) = s.y2 - s.y1 := wr (by omega) (by omega)
        rw [h0, hm]
        exact wm bm rfl
      have g2 : ¬ s.x2 < 0 := by omega
      have hl2 : (rectG (W a) (B a) x1 n y1 m).flatten.length = n * m := by rw [rowsFlat (rectG_each hl hx hy), rectG_len]
      have TS := tyText_cs hl2 hnp (by omega) (by omega)
      have TI := trayText_eq hl2 hnp (by omega) hmp (by omega) (m : Int)
      obtain ⟨Q, hQ⟩ : ∃ Q, T n (rectG (W a) (B a) x1 n y1 m).flatten = Q := ⟨_, rfl⟩
      rw [hQ] at TS TI
      have SR := spec_rows hl (by omega) (by omega) hx hy hnp hmp (Q, true) (Ev.bind TS (Ev.now _)) m 0 rfl (Nat.zero_le _)
      have IR := impl_rows hl (by omega) (by omega) hx hy hnp hmp m 0 rfl (Nat.zero_le _)
      rw [List.take_zero, List.flatten_nil, Nat.add_zero] at SR IR
      refine tell _ _ (Q, true) (Ev.congr (fun k => rfl) (Ev.bind ra ?_)) (Ev.congr (fun k => rfl) (Ev.bind ia ?_))
      · refine Ev.congr (g := _) (r := (Q, true)) (fun k => if_pos rfl) (S0 (Q, true) ?_)
        refine Ev.step (fun k => ?_) SR
        rw [spec_CropTray.l0, if_neg gl, if_neg g2, zn, zm, hx2, hy2, hx1, hy1]
        rfl
      · refine Ev.congr (f := fun k => (impl_tray_indices_at_impl_isOpen.f k (W a : Int) (H a : Int) (ints (B a))).bind fun t265 => (if (t265.length : Int) = 0 then (some ((⟨#[]⟩ : ByteArray), false)) else ((impl_tray_rectangle.f k (W a : Int) (H a : Int) (ints (B a)) t265).bind fun bt268 => ((impl_tray_text.f bt268.1 bt268.2.1 bt268.2.2).bind fun t273 => (some (t273, true)))))) (g := _) (r := (Q, true)) (fun k => ?_) (Ev.bind hI2 ?_)
        · show ite _ _ _ = _
          rw [if_pos rfl, hrd, Option.bind_some]
        · have RC : Ev (fun k => impl_tray_rectangle.f k (W a : Int) (H a : Int) (ints (B a)) (ks.map fun (k : Nat) => (k : Int))) ((n : Int), (m : Int), ints (rectG (W a) (B a) x1 n y1 m).flatten) := by
            refine Ev.congr (g := _) (r := _) (fun k => by rw [impl_tray_rectangle.f, List.length_map]; rfl) (J0 _ ?_)
            refine Ev.step (fun k => ?_) IR
            rw [impl_tray_rectangle.l0, if_neg gk, zn, zm, hx2, hy2, hx1, hy1]
            rfl
          refine Ev.congr (f := fun k => (impl_tray_rectangle.f k (W a : Int) (H a : Int) (ints (B a)) (ks.map fun (k : Nat) => (k : Int))).bind fun bt268 => ((impl_tray_text.f bt268.1 bt268.2.1 bt268.2.2).bind fun t273 => (some (t273, true)))) (g := _) (r := (Q, true)) (fun k => if_neg hlen0) (Ev.bind RC ?_)
          refine ⟨0, fun k _ => ?_⟩
          show (impl_tray_text.f (n : Int) (m : Int) (ints (rectG (W a) (B a) x1 n y1 m).flatten)).bind _ = _
          rw [TI, Option.bind_some]
  · rw [Bool.eq_false_iff.2 ga] at ia
    rw [if_neg ga] at ra
    refine tell _ _ nothing (Ev.congr (fun k => rfl) (Ev.bind ra ?_)) (Ev.congr (fun k => rfl) (Ev.bind ia ?_))
    · exact ⟨0, fun k _ => rfl⟩
    · exact ⟨0, fun k _ => rfl⟩
end Go.Proofs.YtdckhiclegehnaaDoor.Pure
