/- How many trays a move leaves as they are: the reference's table and the program's rows tell the same. -/
import Derived.Test.YtpafamabndpcmaaQx3
import Derived.Test.YtpafamabndpcmaaQx2
import Derived.Test.YtpafamabndpcmaaQx10
import Derived.Test.YtpafamabndpcmaaQx9
import Derived.Test.YtpafamabndpcmaaQx5
import Derived.Test.YtpafamabndpcmaaQx1
import Derived.Test.YtpafamabndpcmaaLCyc
set_option linter.unusedVariables false
set_option linter.unusedSimpArgs false
namespace Go.Proofs.YtpafamabndpcmaaL
open Go.RowKit Go.Proofs.Ytpafamabndpcmaa.Q Go.Proofs.YtpafamabndpcmaaW.PrintWords Go.Proofs.YtpafamabndpcmaaW.PrintLast
theorem wn {n : Nat} {z : Int} (h : n < 1000000) (hz : z = (n : Int)) : wrap64 z = (n : Int) := by
  rw [hz]
  unfold wrap64
  omega
/-- What a cycle of c cells makes of a table. -/
def stepK (c : Nat) (g : Nat → Nat → Int) (i j : Nat) : Int :=
  if c ≤ j then wrap64 ((if c ≤ i then wrap64 (g i j + g (i - c) j) else g i j) + g i (j - c)) else (if c ≤ i then wrap64 (g i j + g (i - c) j) else g i j)
def startK (i j : Nat) : Int := if i = 0 ∧ j = 0 then 1 else 0
def upd (g : Nat → Nat → Int) (i j : Nat) (v : Int) (a b : Nat) : Int := if a = i ∧ b = j then v else g a b
-- the program's rows
structure Tab (W B : Nat) (R : List (List Int)) (g : Nat → Nat → Int) : Prop where
  len : R.length = W + 1
  row : ∀ i, i ≤ W → (rd_L3 R (i : Int)).length = B + 1
  at_ : ∀ i j, i ≤ W → j ≤ B → rd (rd_L3 R (i : Int)) (j : Int) = g i j
theorem Tab.congr {W B : Nat} {R : List (List Int)} {g g' : Nat → Nat → Int} (h : Tab W B R g) (e : ∀ i j, i ≤ W → j ≤ B → g i j = g' i j) : Tab W B R g' :=
  ⟨h.len, h.row, fun i j hi hj => (h.at_ i j hi hj).trans (e i j hi hj)⟩
theorem rdL_set (R : List (List Int)) (i a : Nat) (x : List Int) (hi : i < R.length) : rd_L3 (R.set i x) (a : Int) = if a = i then x else rd_L3 R (a : Int) := by
  unfold rd_L3
  rw [Int.toNat_natCast]
  by_cases h : a = i
  · subst h
    rw [if_pos rfl]
    simp [List.getD, hi]
  · rw [if_neg h]
    simp [List.getD, List.getElem?_set_ne (Ne.symm h)]
theorem rd_set (l : List Int) (i a : Nat) (x : Int) (hi : i < l.length) : rd (l.set i x) (a : Int) = if a = i then x else rd l (a : Int) := by
  unfold rd
  rw [Int.toNat_natCast]
  by_cases h : a = i
  · subst h
    rw [if_pos rfl]
    simp [List.getD, hi]
  · rw [if_neg h]
    simp [List.getD, List.getElem?_set_ne (Ne.symm h)]
theorem Tab.set {W B : Nat} {R : List (List Int)} {g : Nat → Nat → Int} (h : Tab W B R g) (i j : Nat) (v : Int) (hi : i ≤ W) (hj : j ≤ B) :
    Tab W B (R.set i ((rd_L3 R (i : Int)).set j v)) (upd g i j v) where
  len := by rw [List.length_set]; exact h.len
  row := fun a ha => by
    rw [rdL_set R i a _ (by rw [h.len]; omega)]
    by_cases e : a = i
    · rw [if_pos e, List.length_set]
      exact h.row i hi
    · rw [if_neg e]
      exact h.row a ha
  at_ := fun a b ha hb => by
    unfold upd
    rw [rdL_set R i a _ (by rw [h.len]; omega)]
    by_cases e : a = i
    · rw [if_pos e, rd_set _ j b _ (by rw [h.row i hi]; omega)]
      by_cases e2 : b = j
      · rw [if_pos e2, if_pos ⟨e, e2⟩]
      · rw [if_neg e2, if_neg (fun x => e2 x.2), h.at_ i b hi hb, e]
    · rw [if_neg e, if_neg (fun x => e x.1)]
      exact h.at_ a b ha hb
/-- The program goes from the end: what lies behind i0, j1 is done. -/
def mixK (c : Nat) (g : Nat → Nat → Int) (i0 j1 a b : Nat) : Int := if i0 < a ∨ (a = i0 ∧ j1 ≤ b) then stepK c g a b else g a b
theorem impl_l3 (W B c : Nat) (hW : W ≤ 36) (hB : B ≤ 36) (hc : 1 ≤ c) (hc2 : c ≤ 100) (g : Nat → Nat → Int) (x39 : List Int) (x40 x41 : Int) (i : Nat) (hi : i ≤ W) (r : Int)
    (next : ∀ R, Tab W B R (mixK c g i 0) → Ev (fun k => impl_kept.l2 k (W : Int) (B : Int) R (c : Int) (wrap64 ((i : Int) - 1)) x39 x40 x41) r) :
    ∀ (j1 : Nat) (R : List (List Int)), j1 ≤ B + 1 → Tab W B R (mixK c g i j1) → Ev (fun k => impl_kept.l3 k (W : Int) (B : Int) R (c : Int) (i : Int) ((j1 : Int) - 1) x39 x40 x41) r := by
  intro j1
  induction j1 with
  | zero =>
    intro R _ hT
    have g0 : ¬ (((0 : Nat) : Int) - 1 ≥ 0) := by omega
    exact Ev.step (fun k => by rw [impl_kept.l3, if_neg g0]) (next R hT)
  | succ j ih =>
    intro R hj hT
    have e0 : (((j + 1 : Nat) : Int) - 1) = (j : Int) := by omega
    rw [e0]
    have hjB : j ≤ B := by omega
    have em : wrap64 ((j : Int) - 1) = (j : Int) - 1 := by unfold wrap64; omega
    have g1 : (j : Int) ≥ 0 := by omega
    have g1' : 0 ≤ (j : Int) := by omega
    have g2 : (0 : Int) ≤ (i : Int) := by omega
    have g3 : (i : Int) < (R.length : Int) := by rw [hT.len]; omega
    have g4 : (j : Int) < ((rd_L3 R (i : Int)).length : Int) := by rw [hT.row i hi]; omega
    have hv : rd (rd_L3 R (i : Int)) (j : Int) = g i j := by
      rw [hT.at_ i j hi hjB]
      unfold mixK
      rw [if_neg (by omega)]
    -- what is done is the next one's
    have fin : ∀ R' v, Tab W B R' (upd (mixK c g i (j + 1)) i j v) → v = stepK c g i j → Tab W B R' (mixK c g i j) := by
      intro R' v h e
      refine h.congr fun a b ha hb => ?_
      unfold upd mixK
      by_cases h1 : a = i ∧ b = j
      · rw [if_pos h1, if_pos (by omega), e, h1.1, h1.2]
      · rw [if_neg h1]
        by_cases h2 : i < a ∨ (a = i ∧ j + 1 ≤ b)
        · rw [if_pos h2, if_pos (by omega)]
        · rw [if_neg h2, if_neg (by omega)]
    by_cases ci : c ≤ i
    · have t1 : (i : Int) ≥ (c : Int) := by omega
      have eic : wrap64 ((i : Int) - (c : Int)) = ((i - c : Nat) : Int) := wn (n := i - c) (by omega) (by omega)
      have g5 : (0 : Int) ≤ ((i - c : Nat) : Int) := by omega
      have g6 : ((i - c : Nat) : Int) < (R.length : Int) := by rw [hT.len]; omega
      have g7 : (j : Int) < ((rd_L3 R ((i - c : Nat) : Int)).length : Int) := by rw [hT.row (i - c) (by omega)]; omega
      have hv2 : rd (rd_L3 R ((i - c : Nat) : Int)) (j : Int) = g (i - c) j := by
        rw [hT.at_ (i - c) j (by omega) hjB]
        unfold mixK
        rw [if_neg (by omega)]
      have hT1 := hT.set i j (wrap64 (g i j + g (i - c) j)) hi hjB
      have hr1 := hT1.row i hi
      have hv3 := hT1.at_ i j hi hjB
      have e3 : upd (mixK c g i (j + 1)) i j (wrap64 (g i j + g (i - c) j)) i j = wrap64 (g i j + g (i - c) j) := if_pos ⟨rfl, rfl⟩
      rw [e3] at hv3
      by_cases cj : c ≤ j
      · have t2 : (j : Int) ≥ (c : Int) := by omega
        have ejc : wrap64 ((j : Int) - (c : Int)) = ((j - c : Nat) : Int) := wn (n := j - c) (by omega) (by omega)
        have g8 : (0 : Int) ≤ ((j - c : Nat) : Int) := by omega
        have hv4 := hT1.at_ i (j - c) hi (by omega)
        have e4 : upd (mixK c g i (j + 1)) i j (wrap64 (g i j + g (i - c) j)) i (j - c) = g i (j - c) := by
          unfold upd mixK
          rw [if_neg (by omega), if_neg (by omega)]
        rw [e4] at hv4
        have hT2 := hT1.set i j (wrap64 (wrap64 (g i j + g (i - c) j) + g i (j - c))) hi hjB
        have hT3 : Tab W B _ (mixK c g i j) := fin _ (wrap64 (wrap64 (g i j + g (i - c) j) + g i (j - c))) (hT2.congr fun a b _ _ => by
          unfold upd
          by_cases h1 : a = i ∧ b = j
          · rw [if_pos h1, if_pos h1]
          · rw [if_neg h1, if_neg h1, if_neg h1]) (by unfold stepK; rw [if_pos cj, if_pos ci])
        have hN := ih _ (by omega) hT3
        generalize hR1 : R.set i ((rd_L3 R (i : Int)).set j (wrap64 (g i j + g (i - c) j))) = R1 at hT1 hr1 hv3 hv4 hT2 hT3 hN
        have g9 : (j : Int) < ((rd_L3 R1 (i : Int)).length : Int) := by rw [hr1]; omega
        have g10 : ((j - c : Nat) : Int) < ((rd_L3 R1 (i : Int)).length : Int) := by rw [hr1]; omega
        refine Ev.step (fun k => ?_) hN
        rw [impl_kept.l3, if_pos g1, if_pos t1, if_pos g2, if_pos g3, if_pos g1', if_pos g4, eic, if_pos g5, if_pos g6, if_pos g7, Int.toNat_natCast, Int.toNat_natCast, hv, hv2, hR1, Option.bind_some, if_pos t2, if_pos g9, ejc, if_pos g8, if_pos g10, hv3, hv4, em]
      · have t2 : ¬ (j : Int) ≥ (c : Int) := by omega
        have hT3 : Tab W B _ (mixK c g i j) := fin _ _ hT1 (by unfold stepK; rw [if_neg cj, if_pos ci])
        have hN := ih _ (by omega) hT3
        refine Ev.step (fun k => ?_) hN
        rw [impl_kept.l3, if_pos g1, if_pos t1, if_pos g2, if_pos g3, if_pos g1', if_pos g4, eic, if_pos g5, if_pos g6, if_pos g7, Int.toNat_natCast, Int.toNat_natCast, hv, hv2, Option.bind_some, if_neg t2, em]
    · have t1 : ¬ (i : Int) ≥ (c : Int) := by omega
      by_cases cj : c ≤ j
      · have t2 : (j : Int) ≥ (c : Int) := by omega
        have ejc : wrap64 ((j : Int) - (c : Int)) = ((j - c : Nat) : Int) := wn (n := j - c) (by omega) (by omega)
        have g8 : (0 : Int) ≤ ((j - c : Nat) : Int) := by omega
        have hv4 := hT.at_ i (j - c) hi (by omega)
        have e4 : mixK c g i (j + 1) i (j - c) = g i (j - c) := by
          unfold mixK
          rw [if_neg (by omega)]
        rw [e4] at hv4
        have hT2 := hT.set i j (wrap64 (g i j + g i (j - c))) hi hjB
        have hT3 : Tab W B _ (mixK c g i j) := fin _ _ hT2 (by unfold stepK; rw [if_pos cj, if_neg ci])
        have hN := ih _ (by omega) hT3
        have g10 : ((j - c : Nat) : Int) < ((rd_L3 R (i : Int)).length : Int) := by rw [hT.row i hi]; omega
        refine Ev.step (fun k => ?_) hN
        rw [impl_kept.l3, if_pos g1, if_neg t1, if_pos t2, if_pos g2, if_pos g3, if_pos g1', if_pos g4, ejc, if_pos g8, if_pos g10, Int.toNat_natCast, Int.toNat_natCast, hv, hv4, em]
      · have t2 : ¬ (j : Int) ≥ (c : Int) := by omega
        have hT3 : Tab W B R (mixK c g i j) := hT.congr fun a b ha hb => by
          unfold mixK
          by_cases h2 : i < a ∨ (a = i ∧ j + 1 ≤ b)
          · rw [if_pos h2, if_pos (by omega)]
          · rw [if_neg h2]
            by_cases h1 : a = i ∧ b = j
            · rw [if_pos (by omega), h1.1, h1.2]
              unfold stepK
              rw [if_neg cj, if_neg ci]
            · rw [if_neg (by omega)]
        have hN := ih _ (by omega) hT3
        refine Ev.step (fun k => ?_) hN
        rw [impl_kept.l3, if_pos g1, if_neg t1, if_neg t2, em]
theorem impl_l2 (W B c : Nat) (hW : W ≤ 36) (hB : B ≤ 36) (hc : 1 ≤ c) (hc2 : c ≤ 100) (g : Nat → Nat → Int) (x39 : List Int) (x40 x41 : Int) (r : Int)
    (next : ∀ R, Tab W B R (stepK c g) → Ev (fun k => impl_kept.l1 k (W : Int) (B : Int) R x39 x40 (wrap64 (x41 + 1))) r) :
    ∀ (i1 : Nat) (R : List (List Int)), i1 ≤ W + 1 → Tab W B R (fun a b => if i1 ≤ a then stepK c g a b else g a b) → Ev (fun k => impl_kept.l2 k (W : Int) (B : Int) R (c : Int) ((i1 : Int) - 1) x39 x40 x41) r := by
  intro i1
  induction i1 with
  | zero =>
    intro R _ hT
    have g0 : ¬ (((0 : Nat) : Int) - 1 ≥ 0) := by omega
    exact Ev.step (fun k => by rw [impl_kept.l2, if_neg g0]) (next R (hT.congr fun a b _ _ => if_pos (Nat.zero_le _)))
  | succ i ih =>
    intro R hi hT
    have e0 : (((i + 1 : Nat) : Int) - 1) = (i : Int) := by omega
    rw [e0]
    have em : wrap64 ((i : Int) - 1) = (i : Int) - 1 := by unfold wrap64; omega
    have g1 : (i : Int) ≥ 0 := by omega
    have h3 := impl_l3 W B c hW hB hc hc2 g x39 x40 x41 i (by omega) r (fun R' hR' => by
      rw [em]
      refine ih R' (by omega) (hR'.congr fun a b ha hb => ?_)
      unfold mixK
      by_cases h : i ≤ a
      · rw [if_pos (by omega), if_pos h]
      · rw [if_neg (by omega), if_neg h]) (B + 1) R (Nat.le_refl _) (hT.congr fun a b ha hb => by
      unfold mixK
      by_cases h : i + 1 ≤ a
      · rw [if_pos h, if_pos (by omega)]
      · rw [if_neg h, if_neg (by omega)])
    have e1 : (((B + 1 : Nat) : Int) - 1) = (B : Int) := by omega
    rw [e1] at h3
    exact Ev.step (fun k => by rw [impl_kept.l2, if_pos g1]) h3
-- the reference's table
def ix (B i j : Nat) : Nat := i * (B + 1) + j
theorem ix_inj {B i j a b : Nat} (hj : j ≤ B) (hb : b ≤ B) (h : ix B a b = ix B i j) : a = i ∧ b = j := by
  unfold ix at h
  have h1 : (a * (B + 1) + b) / (B + 1) = a := by
    rw [Nat.mul_comm, Nat.mul_add_div (by omega), Nat.div_eq_of_lt (by omega), Nat.add_zero]
  have h2 : (i * (B + 1) + j) / (B + 1) = i := by
    rw [Nat.mul_comm, Nat.mul_add_div (by omega), Nat.div_eq_of_lt (by omega), Nat.add_zero]
  have e : a = i := by rw [← h1, h, h2]
  subst e
  exact ⟨rfl, by omega⟩
structure TabF (W B : Nat) (F : List Int) (g : Nat → Nat → Int) : Prop where
  len : F.length = (W + 1) * (B + 1)
  at_ : ∀ i j, i ≤ W → j ≤ B → rd F ((ix B i j : Nat) : Int) = g i j
theorem ix_lt {W B i j : Nat} (hi : i ≤ W) (hj : j ≤ B) : ix B i j < (W + 1) * (B + 1) := by
  unfold ix
  have : i * (B + 1) ≤ W * (B + 1) := Nat.mul_le_mul_right _ hi
  rw [Nat.add_mul, Nat.one_mul]
  omega
theorem TabF.congr {W B : Nat} {F : List Int} {g g' : Nat → Nat → Int} (h : TabF W B F g) (e : ∀ i j, i ≤ W → j ≤ B → g i j = g' i j) : TabF W B F g' :=
  ⟨h.len, fun i j hi hj => (h.at_ i j hi hj).trans (e i j hi hj)⟩
theorem TabF.set {W B : Nat} {F : List Int} {g : Nat → Nat → Int} (h : TabF W B F g) (i j : Nat) (v : Int) (hi : i ≤ W) (hj : j ≤ B) : TabF W B (F.set (ix B i j) v) (upd g i j v) where
  len := by rw [List.length_set]; exact h.len
  at_ := fun a b ha hb => by
    unfold upd
    rw [rd_set F _ _ _ (by rw [h.len]; exact ix_lt hi hj)]
    by_cases e : ix B a b = ix B i j
    · rw [if_pos e, if_pos (ix_inj hj hb e)]
    · rw [if_neg e, if_neg (fun x => e (by rw [x.1, x.2])), h.at_ a b ha hb]
/-- The reference goes from the start: what lies ahead of i0, j0 is done. -/
def mixS (c : Nat) (g : Nat → Nat → Int) (i0 j0 a b : Nat) : Int := if a < i0 ∨ (a = i0 ∧ b < j0) then stepK c g a b else g a b
theorem spec_l2 (W B c : Nat) (hW : W ≤ 36) (hB : B ≤ 36) (hc : 1 ≤ c) (hc2 : c ≤ 36) (g : Nat → Nat → Int) (F : List Int) (hF : TabF W B F g) (x29 : List Int) (x30 x31 : Int) (i : Nat) (hi : i ≤ W) (r : Int)
    (next : ∀ R, TabF W B R (mixS c g i (B + 1)) → Ev (fun k => spec_cnKept.l1 k (W : Int) (B : Int) F (c : Int) R (wrap64 ((i : Int) + 1)) x29 x30 x31) r) :
    ∀ (d j : Nat) (R : List Int), B + 1 - j = d → j ≤ B + 1 → TabF W B R (mixS c g i j) → Ev (fun k => spec_cnKept.l2 k (W : Int) (B : Int) F (c : Int) R (i : Int) (j : Int) x29 x30 x31) r := by
  intro d
  induction d with
  | zero =>
    intro j R hd hj hT
    have e : j = B + 1 := by omega
    subst e
    have g0 : ¬ (((B + 1 : Nat) : Int) ≤ (B : Int)) := by omega
    exact Ev.step (fun k => by rw [spec_cnKept.l2, if_neg g0]) (next R hT)
  | succ d ih =>
    intro j R hd hj hT
    have hjB : j ≤ B := by omega
    have g1 : (j : Int) ≤ (B : Int) := by omega
    have EB : Aside0 (wrap64 ((B : Int) + 1) = ((B + 1 : Nat) : Int)) := Aside0.mk (wn (n := B + 1) (by omega) (by omega))
    have b1 : i * (B + 1) ≤ 36 * 37 := Nat.mul_le_mul (by omega) (by omega)
    have b2 : c * (B + 1) ≤ 36 * 37 := Nat.mul_le_mul (by omega) (by omega)
    have ei0 : (i : Int) * ((B + 1 : Nat) : Int) = ((i * (B + 1) : Nat) : Int) := (Int.natCast_mul _ _).symm
    have ec0 : (c : Int) * ((B + 1 : Nat) : Int) = ((c * (B + 1) : Nat) : Int) := (Int.natCast_mul _ _).symm
    have hml : c ≤ i → c * (B + 1) ≤ i * (B + 1) := fun h => Nat.mul_le_mul_right _ h
    have hm : (i - c) * (B + 1) = i * (B + 1) - c * (B + 1) := Nat.sub_mul ..
    have hix : ∀ j', ix B i j' = i * (B + 1) + j' := fun _ => rfl
    have hixc : ∀ j', ix B (i - c) j' = (i - c) * (B + 1) + j' := fun _ => rfl
    rw [hm] at hixc
    clear hm
    obtain ⟨p, hp⟩ : ∃ p, i * (B + 1) = p := ⟨_, rfl⟩
    obtain ⟨pc, hpc⟩ : ∃ pc, c * (B + 1) = pc := ⟨_, rfl⟩
    rw [hp] at b1 ei0 hix hixc hml
    rw [hpc] at b2 ec0 hixc hml
    clear hp hpc
    have EI : Aside0 (wrap64 ((i : Int) * ((B + 1 : Nat) : Int)) = (p : Int)) := Aside0.mk (wn (n := p) (by omega) ei0)
    have EC : Aside0 (wrap64 ((c : Int) * ((B + 1 : Nat) : Int)) = (pc : Int)) := Aside0.mk (wn (n := pc) (by omega) ec0)
    clear ei0 ec0
    have EK : Aside0 (wrap64 ((p : Int) + (j : Int)) = ((ix B i j : Nat) : Int)) := Aside0.mk (wn (n := ix B i j) (by rw [hix]; omega) (by rw [hix]; omega))
    have HM := Aside0.mk hml
    clear hml
    have EJ : Aside0 (wrap64 ((j : Int) + 1) = ((j + 1 : Nat) : Int)) := Aside0.mk (wn (n := j + 1) (by omega) (by omega))
    have hlt := ix_lt (W := W) (B := B) hi hjB
    have hxb : ix B i j < 10000 := by rw [hix]; omega
    have g2 : (0 : Int) ≤ ((ix B i j : Nat) : Int) := by omega
    have g3 : ((ix B i j : Nat) : Int) < (R.length : Int) := by rw [hT.len]; omega
    have hv : rd R ((ix B i j : Nat) : Int) = g i j := by
      rw [hT.at_ i j hi hjB]
      unfold mixS
      rw [if_neg (by omega)]
    have fin : ∀ R' v, TabF W B R' (upd (mixS c g i j) i j v) → v = stepK c g i j → TabF W B R' (mixS c g i (j + 1)) := by
      intro R' v h e
      refine h.congr fun a b ha hb => ?_
      unfold upd mixS
      by_cases h1 : a = i ∧ b = j
      · rw [if_pos h1, if_pos (by omega), e, h1.1, h1.2]
      · rw [if_neg h1]
        by_cases h2 : a < i ∨ (a = i ∧ b < j)
        · rw [if_pos h2, if_pos (by omega)]
        · rw [if_neg h2, if_neg (by omega)]
    by_cases ci : c ≤ i
    · have t1 : (i : Int) ≥ (c : Int) := by omega
      have hml2 := HM.out ci
      have EIC : Aside0 (wrap64 (((ix B i j : Nat) : Int) - (pc : Int)) = ((ix B (i - c) j : Nat) : Int)) := Aside0.mk (wn (n := ix B (i - c) j) (by rw [hixc]; omega) (by rw [hixc, hix]; omega))
      have hlt2 := ix_lt (W := W) (B := B) (i := i - c) (j := j) (by omega) hjB
      have g5 : (0 : Int) ≤ ((ix B (i - c) j : Nat) : Int) := by omega
      have g6 : ((ix B (i - c) j : Nat) : Int) < (F.length : Int) := by rw [hF.len]; omega
      have hv2 := hF.at_ (i - c) j (by omega) hjB
      have hT1 := hT.set i j (wrap64 (g i j + g (i - c) j)) hi hjB
      have hv3 := hT1.at_ i j hi hjB
      have e3 : upd (mixS c g i j) i j (wrap64 (g i j + g (i - c) j)) i j = wrap64 (g i j + g (i - c) j) := if_pos ⟨rfl, rfl⟩
      rw [e3] at hv3
      by_cases cj : c ≤ j
      · have t2 : (j : Int) ≥ (c : Int) := by omega
        have EJC : Aside0 (wrap64 (((ix B i j : Nat) : Int) - (c : Int)) = ((ix B i (j - c) : Nat) : Int)) := Aside0.mk (wn (n := ix B i (j - c)) (by rw [hix]; omega) (by rw [hix, hix]; omega))
        have hlt3 := ix_lt (W := W) (B := B) (i := i) (j := j - c) hi (by omega)
        have g8 : (0 : Int) ≤ ((ix B i (j - c) : Nat) : Int) := by omega
        have g9 : ((ix B i (j - c) : Nat) : Int) < (F.length : Int) := by rw [hF.len]; omega
        have hv4 := hF.at_ i (j - c) hi (by omega)
        have hT2 := hT1.set i j (wrap64 (wrap64 (g i j + g (i - c) j) + g i (j - c))) hi hjB
        have hT3 : TabF W B _ (mixS c g i (j + 1)) := fin _ (wrap64 (wrap64 (g i j + g (i - c) j) + g i (j - c))) (hT2.congr fun a b _ _ => by
          unfold upd
          by_cases h1 : a = i ∧ b = j
          · rw [if_pos h1, if_pos h1]
          · rw [if_neg h1, if_neg h1, if_neg h1]) (by unfold stepK; rw [if_pos cj, if_pos ci])
        have hN := ih (j + 1) _ (by omega) (by omega) hT3
        generalize hR1 : R.set (ix B i j) (wrap64 (g i j + g (i - c) j)) = R1 at hT1 hv3 hT2 hT3 hN
        refine Ev.step (fun k => ?_) hN
        rw [spec_cnKept.l2, if_pos g1, if_pos t1, EB.out, EI.out, EK.out, if_pos g2, if_pos g3, EC.out, EIC.out, if_pos g5, if_pos g6, Int.toNat_natCast, hv, hv2, hR1, Option.bind_some, if_pos t2, EJC.out, if_pos g8, if_pos g9, hv3, hv4, EJ.out]
      · have t2 : ¬ (j : Int) ≥ (c : Int) := by omega
        have hT3 : TabF W B _ (mixS c g i (j + 1)) := fin _ _ hT1 (by unfold stepK; rw [if_neg cj, if_pos ci])
        have hN := ih (j + 1) _ (by omega) (by omega) hT3
        refine Ev.step (fun k => ?_) hN
        rw [spec_cnKept.l2, if_pos g1, if_pos t1, EB.out, EI.out, EK.out, if_pos g2, if_pos g3, EC.out, EIC.out, if_pos g5, if_pos g6, Int.toNat_natCast, hv, hv2, Option.bind_some, if_neg t2, EJ.out]
    · have t1 : ¬ (i : Int) ≥ (c : Int) := by omega
      by_cases cj : c ≤ j
      · have t2 : (j : Int) ≥ (c : Int) := by omega
        have EJC : Aside0 (wrap64 (((ix B i j : Nat) : Int) - (c : Int)) = ((ix B i (j - c) : Nat) : Int)) := Aside0.mk (wn (n := ix B i (j - c)) (by rw [hix]; omega) (by rw [hix, hix]; omega))
        have hlt3 := ix_lt (W := W) (B := B) (i := i) (j := j - c) hi (by omega)
        have g8 : (0 : Int) ≤ ((ix B i (j - c) : Nat) : Int) := by omega
        have g9 : ((ix B i (j - c) : Nat) : Int) < (F.length : Int) := by rw [hF.len]; omega
        have hv4 := hF.at_ i (j - c) hi (by omega)
        have hT2 := hT.set i j (wrap64 (g i j + g i (j - c))) hi hjB
        have hT3 : TabF W B _ (mixS c g i (j + 1)) := fin _ _ hT2 (by unfold stepK; rw [if_pos cj, if_neg ci])
        have hN := ih (j + 1) _ (by omega) (by omega) hT3
        refine Ev.step (fun k => ?_) hN
        rw [spec_cnKept.l2, if_pos g1, if_neg t1, if_pos t2, EB.out, EI.out, EK.out, if_pos g2, if_pos g3, EJC.out, if_pos g8, if_pos g9, Int.toNat_natCast, hv, hv4, EJ.out]
      · have t2 : ¬ (j : Int) ≥ (c : Int) := by omega
        have hT3 : TabF W B R (mixS c g i (j + 1)) := hT.congr fun a b ha hb => by
          unfold mixS
          by_cases h2 : a < i ∨ (a = i ∧ b < j)
          · rw [if_pos h2, if_pos (by omega)]
          · rw [if_neg h2]
            by_cases h1 : a = i ∧ b = j
            · rw [if_pos (by omega), h1.1, h1.2]
              unfold stepK
              rw [if_neg cj, if_neg ci]
            · rw [if_neg (by omega)]
        have hN := ih (j + 1) _ (by omega) (by omega) hT3
        refine Ev.step (fun k => ?_) hN
        rw [spec_cnKept.l2, if_pos g1, if_neg t1, if_neg t2, EJ.out]
theorem spec_l1 (W B c : Nat) (hW : W ≤ 36) (hB : B ≤ 36) (hc : 1 ≤ c) (hc2 : c ≤ 36) (g : Nat → Nat → Int) (F : List Int) (hF : TabF W B F g) (x29 : List Int) (x30 x31 : Int) (r : Int)
    (next : ∀ R, TabF W B R (stepK c g) → Ev (fun k => spec_cnKept.l0 k (W : Int) (B : Int) R x29 x30 (wrap64 (x31 + 1))) r) :
    ∀ (d i : Nat) (R : List Int), W + 1 - i = d → i ≤ W + 1 → TabF W B R (fun a b => if a < i then stepK c g a b else g a b) → Ev (fun k => spec_cnKept.l1 k (W : Int) (B : Int) F (c : Int) R (i : Int) x29 x30 x31) r := by
  intro d
  induction d with
  | zero =>
    intro i R hd hi hT
    have e : i = W + 1 := by omega
    subst e
    have g0 : ¬ (((W + 1 : Nat) : Int) ≤ (W : Int)) := by omega
    exact Ev.step (fun k => by rw [spec_cnKept.l1, if_neg g0]) (next R (hT.congr fun a b ha _ => if_pos (by omega)))
  | succ d ih =>
    intro i R hd hi hT
    have ei : wrap64 ((i : Int) + 1) = ((i + 1 : Nat) : Int) := wn (n := i + 1) (by omega) (by omega)
    have g1 : (i : Int) ≤ (W : Int) := by omega
    have h2 := spec_l2 W B c hW hB hc hc2 g F hF x29 x30 x31 i (by omega) r (fun R' hR' => by
      rw [ei]
      refine ih (i + 1) R' (by omega) (by omega) (hR'.congr fun a b ha hb => ?_)
      unfold mixS
      by_cases h : a < i + 1
      · rw [if_pos (by omega), if_pos h]
      · rw [if_neg (by omega), if_neg h]) (B + 1) 0 R (by omega) (by omega) (hT.congr fun a b ha hb => by
      unfold mixS
      by_cases h : a < i
      · rw [if_pos h, if_pos (by omega)]
      · rw [if_neg h, if_neg (by omega)])
    exact Ev.step (fun k => by rw [spec_cnKept.l1, if_pos g1]; rfl) h2
-- all cycles
def G (cs : List Int) (i : Nat) : Nat → Nat → Int := (cs.take i).foldl (fun g c => stepK c.toNat g) startK
theorem G_succ (cs : List Int) (i : Nat) (h : i < cs.length) : G cs (i + 1) = stepK (cs[i]).toNat (G cs i) := by
  unfold G
  rw [List.take_succ_eq_append_getElem h, List.foldl_append]
  rfl
theorem rd_in {l : List Int} {i : Nat} (h : i < l.length) : rd l (i : Int) = l[i] := by
  unfold rd
  rw [Int.toNat_natCast, List.getD_eq_getElem?_getD, List.getElem?_eq_getElem h]
  rfl
theorem impl_outer (W B : Nat) (hW : W ≤ 36) (hB : B ≤ 36) (cs : List Int) (hc : okC cs) : ∀ (d i : Nat) (R : List (List Int)), cs.length - i = d → i ≤ cs.length → Tab W B R (G cs i) →
    Ev (fun k => impl_kept.l1 k (W : Int) (B : Int) R cs (cs.length : Int) (i : Int)) (G cs cs.length W B) := by
  intro d
  induction d with
  | zero =>
    intro i R hd hi hT
    have e : i = cs.length := by omega
    subst e
    have g0 : ¬ ((cs.length : Int) < (cs.length : Int)) := by omega
    have g1 : (0 : Int) ≤ (W : Int) := by omega
    have g2 : (W : Int) < (R.length : Int) := by rw [hT.len]; omega
    have g3 : (0 : Int) ≤ (B : Int) := by omega
    have g4 : (B : Int) < ((rd_L3 R (W : Int)).length : Int) := by rw [hT.row W (Nat.le_refl _)]; omega
    have hv := hT.at_ W B (Nat.le_refl _) (Nat.le_refl _)
    exact Ev.step (f := fun _ => some (G cs cs.length W B)) (fun k => by rw [impl_kept.l1, if_neg g0, if_pos g1, if_pos g2, if_pos g3, if_pos g4, hv]) (Ev.now _)
  | succ d ih =>
    intro i R hd hi hT
    have hlt : i < cs.length := by omega
    have g1 : (i : Int) < (cs.length : Int) := by omega
    have g2 : (0 : Int) ≤ (i : Int) := by omega
    obtain ⟨c0, c1⟩ := hc.1 _ (List.getElem_mem hlt)
    obtain ⟨c, hcc⟩ := Int.eq_ofNat_of_zero_le (show 0 ≤ cs[i] by omega)
    have hlen := hc.2
    have e : wrap64 ((i : Int) + 1) = ((i + 1 : Nat) : Int) := wn (n := i + 1) (by omega) (by omega)
    have hGs := G_succ cs i hlt
    rw [hcc, Int.toNat_natCast] at hGs
    have h2 := impl_l2 W B c hW hB (by omega) (by omega) (G cs i) cs (cs.length : Int) (i : Int) (G cs cs.length W B) (fun R' hR' => by
      rw [e]
      exact ih (i + 1) R' (by omega) (by omega) (by rw [hGs]; exact hR')) (W + 1) R (Nat.le_refl _) (hT.congr fun a b ha hb => by rw [if_neg (by omega)])
    have e1 : (((W + 1 : Nat) : Int) - 1) = (W : Int) := by omega
    rw [e1] at h2
    exact Ev.step (fun k => by rw [impl_kept.l1, if_pos g1, if_pos g2, if_pos g1, rd_in hlt, hcc]) h2
def zrow (B : Nat) : List Int := List.replicate (B + 1) 0
def rowsI (W B i : Nat) : List (List Int) := List.replicate i (zrow B) ++ List.replicate (W + 1 - i) []
theorem rowsI_len (W B i : Nat) (h : i ≤ W + 1) : (rowsI W B i).length = W + 1 := by unfold rowsI; simp; omega
theorem rowsI_set (W B i : Nat) (h : i < W + 1) : (rowsI W B i).set i (zrow B) = rowsI W B (i + 1) := by
  unfold rowsI
  rw [List.set_append_right _ _ (by simp), List.length_replicate, Nat.sub_self]
  obtain ⟨m, hm⟩ : ∃ m, W + 1 - i = m + 1 := ⟨W - i, by omega⟩
  have hm2 : W + 1 - (i + 1) = m := by omega
  rw [hm, hm2, List.replicate_succ, List.set_cons_zero, List.replicate_succ', List.append_assoc]
  rfl
theorem tab_start (W B : Nat) : Tab W B ((rowsI W B (W + 1)).set 0 ((rd_L3 (rowsI W B (W + 1)) 0).set 0 1)) startK := by
  have h0 : Tab W B (rowsI W B (W + 1)) (fun _ _ => 0) := by
    have hr : ∀ i, i ≤ W → rd_L3 (rowsI W B (W + 1)) (i : Int) = zrow B := by
      intro i hi
      unfold rd_L3 rowsI
      rw [Int.toNat_natCast, Nat.sub_self, List.replicate_zero, List.append_nil, List.getD_eq_getElem?_getD, List.getElem?_replicate, if_pos (by omega)]
      rfl
    refine ⟨rowsI_len W B _ (Nat.le_refl _), fun i hi => by rw [hr i hi]; unfold zrow; simp, fun i j hi hj => ?_⟩
    rw [hr i hi]
    unfold rd zrow
    rw [Int.toNat_natCast, List.getD_eq_getElem?_getD, List.getElem?_replicate, if_pos (by omega)]
    rfl
  have h1 := h0.set 0 0 1 (Nat.zero_le _) (Nat.zero_le _)
  refine Tab.congr h1 fun i j _ _ => ?_
  unfold upd startK
  rfl
theorem impl_kept_ev (w h : Int) (W B : Nat) (m : Int) (hW : W ≤ 36) (hB : B ≤ 36) (cs : List Int) (hc : okC cs) (hcy : Ev (fun k => impl_cyclesOf.f k w h m) cs) :
    Ev (fun k => impl_kept.f k w h (W : Int) (B : Int) m) (G cs cs.length W B) := by
  have eW : wrap64 ((W : Int) + 1) = ((W + 1 : Nat) : Int) := wn (n := W + 1) (by omega) (by omega)
  have eB : wrap64 ((B : Int) + 1) = ((B + 1 : Nat) : Int) := wn (n := B + 1) (by omega) (by omega)
  have key : ∀ (d i : Nat), W + 1 - i = d → i ≤ W + 1 → Ev (fun k => impl_kept.l0 k w h (W : Int) (B : Int) m (rowsI W B i) ((W + 1 : Nat) : Int) (i : Int)) (G cs cs.length W B) := by
    intro d
    induction d with
    | zero =>
      intro i hd hi
      have e : i = W + 1 := by omega
      subst e
      have g0 : ¬ (((W + 1 : Nat) : Int) < ((W + 1 : Nat) : Int)) := by omega
      have g1 : (0 : Int) < ((rowsI W B (W + 1)).length : Int) := by rw [rowsI_len W B _ (Nat.le_refl _)]; omega
      have hT := tab_start W B
      have g2 : (0 : Int) < ((rd_L3 (rowsI W B (W + 1)) 0).length : Int) := by
        have h0 : rd_L3 (rowsI W B (W + 1)) 0 = zrow B := by
          unfold rd_L3 rowsI
          rw [Nat.sub_self, List.replicate_zero, List.append_nil, List.getD_eq_getElem?_getD, show (0 : Int).toNat = 0 from rfl, List.getElem?_replicate, if_pos (by omega)]
          rfl
        rw [h0]
        unfold zrow
        rw [List.length_replicate]
        omega
      have hO := impl_outer W B hW hB cs hc cs.length 0 _ rfl (Nat.zero_le _) hT
      refine Ev.step (f := fun k => (impl_cyclesOf.f k w h m).bind fun t214 => (impl_kept.l1 k (W : Int) (B : Int) ((rowsI W B (W + 1)).set (0 : Int).toNat ((rd_L3 (rowsI W B (W + 1)) 0).set (0 : Int).toNat 1)) t214 (t214.length : Int) 0)) (fun k => by rw [impl_kept.l0, if_neg g0, if_pos g1, if_pos g2]) (Ev.bind hcy hO)
    | succ d ih =>
      intro i hd hi
      have hlt : i < W + 1 := by omega
      have g1 : (i : Int) < ((W + 1 : Nat) : Int) := by omega
      have g2 : (0 : Int) ≤ ((B + 1 : Nat) : Int) := by omega
      have g3 : ((B + 1 : Nat) : Int).toNat ≤ 35184372088832 := by omega
      have g4 : (0 : Int) ≤ (i : Int) := by omega
      have g5 : (i : Int) < ((rowsI W B i).length : Int) := by rw [rowsI_len W B i hi]; exact g1
      have e : wrap64 ((i : Int) + 1) = ((i + 1 : Nat) : Int) := wn (n := i + 1) (by omega) (by omega)
      have hI := ih (i + 1) (by omega) (by omega)
      rw [← rowsI_set W B i hlt] at hI
      exact Ev.step (fun k => by rw [impl_kept.l0, if_pos g1, eB, if_pos g2, if_pos g3, if_pos g4, if_pos g5, Int.toNat_natCast, Int.toNat_natCast, e]; rfl) hI
  have g1 : (0 : Int) ≤ ((W + 1 : Nat) : Int) := by omega
  have g2 : ((W + 1 : Nat) : Int).toNat ≤ 11728124029610 := by omega
  have h0 := key (W + 1) 0 rfl (Nat.zero_le _)
  refine Ev.congr (g := _) (r := _) (fun k => ?_) h0
  have hlen : ((List.replicate (W + 1) ([] : List Int)).length : Int) = ((W + 1 : Nat) : Int) := by rw [List.length_replicate]
  rw [impl_kept.f, eW, if_pos g1, if_pos g2, Option.bind_some, Int.toNat_natCast, hlen]
  rfl
theorem spec_outer (W B : Nat) (hW : W ≤ 36) (hB : B ≤ 36) (cs : List Int) (hc : okC cs) : ∀ (d i : Nat) (F : List Int), cs.length - i = d → i ≤ cs.length → TabF W B F (G cs i) →
    Ev (fun k => spec_cnKept.l0 k (W : Int) (B : Int) F cs (cs.length : Int) (i : Int)) (G cs cs.length W B) := by
  intro d
  induction d with
  | zero =>
    intro i F hd hi hT
    have e : i = cs.length := by omega
    subst e
    have g0 : ¬ ((cs.length : Int) < (cs.length : Int)) := by omega
    have b1 : W * (B + 1) ≤ 36 * 37 := Nat.mul_le_mul (by omega) (by omega)
    have hix : ix B W B = W * (B + 1) + B := rfl
    have ei0 : (W : Int) * ((B + 1 : Nat) : Int) = ((W * (B + 1) : Nat) : Int) := (Int.natCast_mul _ _).symm
    obtain ⟨p, hp⟩ : ∃ p, W * (B + 1) = p := ⟨_, rfl⟩
    rw [hp] at b1 ei0 hix
    clear hp
    have EI : Aside0 (wrap64 ((W : Int) * ((B + 1 : Nat) : Int)) = (p : Int)) := Aside0.mk (wn (n := p) (by omega) ei0)
    clear ei0
    have EK : Aside0 (wrap64 ((p : Int) + (B : Int)) = ((ix B W B : Nat) : Int)) := Aside0.mk (wn (n := ix B W B) (by rw [hix]; omega) (by rw [hix]; omega))
    have EB : Aside0 (wrap64 ((B : Int) + 1) = ((B + 1 : Nat) : Int)) := Aside0.mk (wn (n := B + 1) (by omega) (by omega))
    have hlt := ix_lt (W := W) (B := B) (Nat.le_refl W) (Nat.le_refl B)
    have g1 : (0 : Int) ≤ ((ix B W B : Nat) : Int) := by omega
    have g2 : ((ix B W B : Nat) : Int) < (F.length : Int) := by rw [hT.len]; omega
    have hv := hT.at_ W B (Nat.le_refl _) (Nat.le_refl _)
    exact Ev.step (f := fun _ => some (G cs cs.length W B)) (fun k => by rw [spec_cnKept.l0, if_neg g0, EB.out, EI.out, EK.out, if_pos g1, if_pos g2, hv]) (Ev.now _)
  | succ d ih =>
    intro i F hd hi hT
    have hlt : i < cs.length := by omega
    have g1 : (i : Int) < (cs.length : Int) := by omega
    have g2 : (0 : Int) ≤ (i : Int) := by omega
    obtain ⟨c0, c1⟩ := hc.1 _ (List.getElem_mem hlt)
    obtain ⟨c, hcc⟩ := Int.eq_ofNat_of_zero_le (show 0 ≤ cs[i] by omega)
    have hlen := hc.2
    have e : wrap64 ((i : Int) + 1) = ((i + 1 : Nat) : Int) := wn (n := i + 1) (by omega) (by omega)
    have hGs := G_succ cs i hlt
    rw [hcc, Int.toNat_natCast] at hGs
    have hF : F.length ≤ 37 * 37 := by rw [hT.len]; exact Nat.mul_le_mul (by omega) (by omega)
    have g3 : ([] : List Int).length + F.length < 17592186044416 := by simp; omega
    have h2 := spec_l1 W B c hW hB (by omega) (by omega) (G cs i) F hT cs (cs.length : Int) (i : Int) (G cs cs.length W B) (fun R' hR' => by
      rw [e]
      exact ih (i + 1) R' (by omega) (by omega) (by rw [hGs]; exact hR')) (W + 1) 0 F (by omega) (Nat.zero_le _) (hT.congr fun a b ha hb => by rw [if_neg (by omega)])
    exact Ev.step (fun k => by rw [spec_cnKept.l0, if_pos g1, if_pos g2, if_pos g1, Option.bind_some, if_pos g3, List.nil_append, rd_in hlt, hcc]; rfl) h2
theorem spec_kept_ev (w h : Int) (W B : Nat) (m : Int) (hW : W ≤ 36) (hB : B ≤ 36) (cs : List Int) (hc : okC cs) (hcy : Ev (fun k => spec_cnCycles.f k w h m) cs) :
    Ev (fun k => spec_cnKept.f k w h (W : Int) (B : Int) m) (G cs cs.length W B) := by
  have eW : wrap64 ((W : Int) + 1) = ((W + 1 : Nat) : Int) := wn (n := W + 1) (by omega) (by omega)
  have eB : wrap64 ((B : Int) + 1) = ((B + 1 : Nat) : Int) := wn (n := B + 1) (by omega) (by omega)
  have b1 : (W + 1) * (B + 1) ≤ 37 * 37 := Nat.mul_le_mul (by omega) (by omega)
  have b0 : 0 < (W + 1) * (B + 1) := Nat.mul_pos (by omega) (by omega)
  have em : wrap64 (((W + 1 : Nat) : Int) * ((B + 1 : Nat) : Int)) = (((W + 1) * (B + 1) : Nat) : Int) := wn (n := (W + 1) * (B + 1)) (by omega) (Int.natCast_mul _ _).symm
  have g1 : (0 : Int) ≤ (((W + 1) * (B + 1) : Nat) : Int) := by omega
  have g2 : (((W + 1) * (B + 1) : Nat) : Int).toNat ≤ 35184372088832 := by omega
  have hT : TabF W B ((List.replicate ((W + 1) * (B + 1)) (0 : Int)).set 0 1) startK := by
    have h0 : TabF W B (List.replicate ((W + 1) * (B + 1)) (0 : Int)) (fun _ _ => 0) := by
      refine ⟨List.length_replicate, fun i j hi hj => ?_⟩
      have := ix_lt (W := W) (B := B) hi hj
      unfold rd
      rw [Int.toNat_natCast, List.getD_eq_getElem?_getD, List.getElem?_replicate, if_pos this]
      rfl
    have h1 := h0.set 0 0 1 (Nat.zero_le _) (Nat.zero_le _)
    have e0 : ix B 0 0 = 0 := by unfold ix; omega
    rw [e0] at h1
    refine TabF.congr h1 fun i j _ _ => ?_
    unfold upd startK
    rfl
  have hO := spec_outer W B hW hB cs hc cs.length 0 _ rfl (Nat.zero_le _) hT
  have g3 : (0 : Int) < ((List.replicate ((W + 1) * (B + 1)) (0 : Int)).length : Int) := by rw [List.length_replicate]; omega
  refine Ev.congr (f := fun k => (spec_cnCycles.f k w h m).bind fun t121 => (spec_cnKept.l0 k (W : Int) (B : Int) ((List.replicate ((W + 1) * (B + 1)) (0 : Int)).set 0 1) t121 (t121.length : Int) 0)) (g := _) (r := _) (fun k => ?_) (Ev.bind hcy hO)
  rw [spec_cnKept.f, eW, eB, em, if_pos g1, if_pos g2, Option.bind_some, Int.toNat_natCast, if_pos g3]
  rfl
/-- How many trays the move leaves as they are: alike. -/
theorem kept_same (w h m W B : Nat) (hw0 : 1 ≤ w) (hw : w ≤ 7) (hh0 : 1 ≤ h) (hh : h ≤ 7) (hm : w * h ≤ 36) (h8 : m < 8) (hf : fitsN w h m = true) (hW : W ≤ 36) (hB : B ≤ 36) :
    ∃ r : Int, Ev (fun k => spec_cnKept.f k (w : Int) (h : Int) (W : Int) (B : Int) (m : Int)) r ∧ Ev (fun k => impl_kept.f k (w : Int) (h : Int) (W : Int) (B : Int) (m : Int)) r := by
  obtain ⟨cs, hc, S, I⟩ := cyc_same w h m hw0 hw hh0 hh hm h8 hf
  exact ⟨_, spec_kept_ev _ _ W B _ hW hB cs hc S, impl_kept_ev _ _ W B _ hW hB cs hc I⟩
end Go.Proofs.YtpafamabndpcmaaL
