/- The moves of trays as tables of places: what the checks say, in words. -/
import Derived.Test.YtoojemnocncafaaLCgB
import Derived.Test.YtoojemnocncafaaLCmA
import Derived.Test.YtoojemnocncafaaQx3
import Derived.Test.YtoojemnocncafaaQx1
import Derived.Test.YtoojemnocncafaaQx4
import Derived.Test.YtoojemnocncafaaQx5
import Derived.Test.YtoojemnocncafaaQx6
import Derived.Test.YtoojemnocncafaaVFill
import Derived.Test.YtoojemnocncafaaVLookC
import Derived.Test.YtoojemnocncafaaVListI
import Derived.Test.YtoojemnocncafaaVListS
import Derived.Test.YtoojemnocncafaaQx8
set_option linter.unusedVariables false
set_option linter.unusedSimpArgs false
namespace Go.Proofs.YtoojemnocncafaaL
namespace CG
open Go.RowKit Go.Proofs.Ytoojemnocncafaa.Q Go.Proofs.YtoojemnocncafaaW.PrintWords Go.Proofs.YtoojemnocncafaaW.PrintLast Go.Proofs.YtoojemnocncafaaM Go.Proofs.YtoojemnocncafaaV
open CM (pk pk_len pk_at pk_pk pk_id ext_at cols Gd)
structure Sz (w h : Nat) : Prop where
  w0 : 1 ≤ w
  w7 : w ≤ 7
  h0 : 1 ≤ h
  h7 : h ≤ 7
  m : w * h ≤ 36
theorem chk_get {f : Nat → Nat → Nat → Bool} (hall : ((List.range 7).all fun w => (List.range 7).all fun h => decide (36 < (w + 1) * (h + 1)) || (List.range 8).all fun m => !fitsN (w + 1) (h + 1) m || f (w + 1) (h + 1) m) = true) {w h m : Nat} (hs : Sz w h) (h8 : m < 8) (hf : fitsN w h m = true) : f w h m = true := by
  obtain ⟨w, rfl⟩ : ∃ w', w = w' + 1 := ⟨w - 1, by have := hs.w0; omega⟩
  obtain ⟨h, rfl⟩ : ∃ h', h = h' + 1 := ⟨h - 1, by have := hs.h0; omega⟩
  have h1 := List.all_eq_true.1 (List.all_eq_true.1 hall w (List.mem_range.2 (by have := hs.w7; omega))) h (List.mem_range.2 (by have := hs.h7; omega))
  rw [decide_eq_false (by have := hs.m; omega), Bool.false_or] at h1
  have h2 := List.all_eq_true.1 h1 m (List.mem_range.2 h8)
  rw [hf, Bool.not_true, Bool.false_or] at h2
  exact h2
structure Mv (w h m : Nat) : Prop where
  s1 : ∀ p, p < w * h → src w h m p < w * h
  t0 : ∀ p, p < w * h → Ev (fun k => spec_cnTo.f k (w : Int) (h : Int) (m : Int) (p : Int)) ((tpN w h m p : Nat) : Int)
  t1 : ∀ p, p < w * h → tpN w h m p < w * h
  ts : ∀ p, p < w * h → tpN w h m (src w h m p) = p
  st : ∀ p, p < w * h → src w h m (tpN w h m p) = p
theorem mv {w h m : Nat} (hs : Sz w h) (h8 : m < 8) (hf : fitsN w h m = true) : Mv w h m := by
  have h1 := (Bool.and_eq_true_iff.1 (chk_get (f := fun w h m => mvChk w h m && cmpChk w h m) all_chk hs h8 hf)).1
  have h2 : ∀ p, p < w * h → src w h m p < w * h ∧ (spec_cnTo.f 6 (w : Int) (h : Int) (m : Int) (p : Int) = some ((tpN w h m p : Nat) : Int) ∧ (tpN w h m p < w * h ∧ (tpN w h m (src w h m p) = p ∧ src w h m (tpN w h m p) = p))) := by
    intro p hp
    have := List.all_eq_true.1 h1 p (List.mem_range.2 hp)
    simpa only [Bool.and_eq_true, decide_eq_true_eq] using this
  exact ⟨fun p hp => (h2 p hp).1, fun p hp => Ev.of (g := fun k => spec_cnTo.f k (w : Int) (h : Int) (m : Int) (p : Int)) (fun k => spec_cnTo.mono _ _ _ _ k) (h2 p hp).2.1, fun p hp => (h2 p hp).2.2.1, fun p hp => (h2 p hp).2.2.2.1, fun p hp => (h2 p hp).2.2.2.2⟩
theorem cmp {w h a b : Nat} (hs : Sz w h) (ha : a < 8) (hb : b < 8) (fa : fitsN w h a = true) (fb : fitsN w h b = true) : compN a b < 8 ∧ fitsN w h (compN a b) = true ∧ ∀ p, p < w * h → src w h (compN a b) p = src w h b (src w h a p) := by
  have h1 := (Bool.and_eq_true_iff.1 (chk_get (f := fun w h m => mvChk w h m && cmpChk w h m) all_chk hs ha fa)).2
  have h2 := List.all_eq_true.1 h1 b (List.mem_range.2 hb)
  rw [fb, Bool.not_true, Bool.false_or] at h2
  simp only [Bool.and_eq_true, decide_eq_true_eq] at h2
  refine ⟨h2.2.1, h2.1, fun p hp => ?_⟩
  exact of_decide_eq_true (List.all_eq_true.1 h2.2.2 p (List.mem_range.2 hp))
/-- A moved tray's cells. -/
def act (w h m : Nat) (l : List Int) : List Int := pk (w * h) (src w h m) l
theorem act_len (w h m : Nat) (l : List Int) : (act w h m l).length = w * h := pk_len ..
theorem ms_mem {w h m : Nat} : m ∈ ms w h ↔ m < 8 ∧ fitsN w h m = true := by
  unfold ms
  rw [List.mem_filter, List.mem_range]
theorem ms_nodup (w h : Nat) : (ms w h).Nodup := List.nodup_range.filter _
theorem ms_zero (w h : Nat) : 0 ∈ ms w h := ms_mem.2 ⟨by decide, by unfold fitsN; simp⟩
theorem act_act {w h a b : Nat} (hs : Sz w h) (ha : a ∈ ms w h) (hb : b ∈ ms w h) (l : List Int) : act w h a (act w h b l) = act w h (compN a b) l := by
  obtain ⟨a8, fa⟩ := ms_mem.1 ha
  obtain ⟨b8, fb⟩ := ms_mem.1 hb
  have h1 := cmp hs a8 b8 fa fb
  unfold act
  rw [pk_pk (mv hs a8 fa).s1]
  refine ext_at (pk_len ..) (pk_len ..) fun p hp => ?_
  rw [pk_at hp, pk_at hp, h1.2.2 p hp]
theorem src_zero (w h p : Nat) : src w h 0 p = p := rfl
theorem act_zero {w h : Nat} {l : List Int} (hl : l.length = w * h) : act w h 0 l = l := pk_id hl fun p _ => rfl
theorem comp_mem {w h a b : Nat} (hs : Sz w h) (ha : a ∈ ms w h) (hb : b ∈ ms w h) : compN a b ∈ ms w h := by
  obtain ⟨a8, fa⟩ := ms_mem.1 ha
  obtain ⟨b8, fb⟩ := ms_mem.1 hb
  have h1 := cmp hs a8 b8 fa fb
  exact ms_mem.2 ⟨h1.1, h1.2.1⟩
theorem act_inj {w h a : Nat} (hs : Sz w h) (ha : a ∈ ms w h) {l l' : List Int} (hl : l.length = w * h) (hl' : l'.length = w * h) (e : act w h a l = act w h a l') : l = l' := by
  obtain ⟨a8, fa⟩ := ms_mem.1 ha
  have M := mv hs a8 fa
  refine ext_at hl hl' fun p hp => ?_
  have e1 := pk_at (f := src w h a) (l := l) (M.t1 p hp)
  have e2 := pk_at (f := src w h a) (l := l') (M.t1 p hp)
  rw [M.st p hp] at e1 e2
  rw [← e1, ← e2]
  exact congrArg (fun l : List Int => l.getD (tpN w h a p) 46) e
theorem ms_cases (w h : Nat) : ms w h = [0, 1, 2, 3, 4, 5, 6, 7] ∨ ms w h = [0, 2, 4, 6] := by
  by_cases e : w = h
  · left
    have : fitsN w h = fun _ => true := funext fun m => by unfold fitsN; rw [decide_eq_true e]; rfl
    unfold ms
    rw [this]
    rfl
  · right
    have : fitsN w h = fun m => decide (m % 2 = 0) := funext fun m => by unfold fitsN; rw [decide_eq_false e]; rfl
    unfold ms
    rw [this]
    rfl
theorem cov_l : ∀ M ∈ [[0, 1, 2, 3, 4, 5, 6, 7], [0, 2, 4, 6]], ∀ a ∈ M, ∀ b ∈ M, ∃ c ∈ M, compN a c = b := by decide
theorem cov_r : ∀ M ∈ [[0, 1, 2, 3, 4, 5, 6, 7], [0, 2, 4, 6]], ∀ a ∈ M, ∀ b ∈ M, ∃ c ∈ M, compN c a = b := by decide
theorem ms_in (w h : Nat) : ms w h ∈ [[0, 1, 2, 3, 4, 5, 6, 7], [0, 2, 4, 6]] := by
  rcases ms_cases w h with e | e <;> rw [e] <;> decide
theorem comp_perm {w h a : Nat} (hs : Sz w h) (ha : a ∈ ms w h) : ((ms w h).map (compN a)).Perm (ms w h) := by
  refine (CM.perm_of_sub (ms_nodup w h) (fun b hb => ?_) (by rw [List.length_map]; exact Nat.le_refl _)).symm
  obtain ⟨c, hc, e⟩ := cov_l _ (ms_in w h) a ha b hb
  exact List.mem_map.2 ⟨c, hc, e⟩
theorem act_mem {w h m a b : Nat} (hs : Sz w h) (hm : m ∈ ms w h) {l : List Int} (h0 : l ∈ cols (List.replicate (w * h) 1) a b) : act w h m l ∈ cols (List.replicate (w * h) 1) a b := by
  obtain ⟨m8, fm⟩ := ms_mem.1 hm
  have M := mv hs m8 fm
  exact CM.pk_mem (g := tpN w h m) M.s1 (fun p hp => ⟨M.t1 p hp, M.st p hp⟩) M.ts h0
/-- The reference scatters, the program gathers: the same cells. -/
theorem scat_eq {w h m : Nat} (M : Mv w h m) {l : List Int} (hl : l.length = w * h) (sc : Nat → List Int) (h0 : sc 0 = List.replicate (w * h) 46) (hstep : ∀ i, sc (i + 1) = (sc i).set (tpN w h m i) (l.getD i 0)) : sc (w * h) = act w h m l := by
  have key : ∀ i, i ≤ w * h → (sc i).length = w * h ∧ ∀ p, p < w * h → (sc i).getD p 46 = if src w h m p < i then l.getD (src w h m p) 46 else 46 := by
    intro i
    induction i with
    | zero =>
      intro _
      rw [h0]
      refine ⟨List.length_replicate, fun p hp => ?_⟩
      rw [if_neg (Nat.not_lt_zero _), List.getD_eq_getElem?_getD, List.getElem?_replicate, if_pos hp]
      rfl
    | succ i ih =>
      intro hi
      obtain ⟨i1, i2⟩ := ih (by omega)
      have hlt : i < w * h := by omega
      rw [hstep]
      refine ⟨by rw [List.length_set]; exact i1, fun p hp => ?_⟩
      have e46 : l.getD i 0 = l.getD i 46 := by
        rw [List.getD_eq_getElem?_getD, List.getD_eq_getElem?_getD, List.getElem?_eq_getElem (by omega)]
        rfl
      by_cases e : tpN w h m i = p
      · have hsp : src w h m p = i := by rw [← e]; exact M.st i hlt
        rw [hsp, if_pos (by omega), ← e46, List.getD_eq_getElem?_getD, e, List.getElem?_set_self (by omega)]
        rfl
      · have hsp : src w h m p ≠ i := fun x => e (by rw [← x]; exact M.ts p hp)
        rw [List.getD_eq_getElem?_getD, List.getElem?_set_ne e, ← List.getD_eq_getElem?_getD, i2 p hp]
        by_cases c : src w h m p < i
        · rw [if_pos c, if_pos (by omega)]
        · rw [if_neg c, if_neg (by omega)]
  obtain ⟨k1, k2⟩ := key (w * h) (Nat.le_refl _)
  refine ext_at k1 (pk_len ..) fun p hp => ?_
  rw [k2 p hp, if_pos (M.s1 p hp)]
  exact (pk_at hp).symm
-- the cycles
theorem count_sum (k : Nat) : ∀ (C : List Nat), C.count k = CM.sumN C.length (fun p => if C.getD p 0 = k then 1 else 0)
  | [] => rfl
  | c :: C => by
    rw [List.count_cons, List.length_cons, CM.sumN_front, count_sum k C]
    show _ = (if c = k then 1 else 0) + CM.sumN C.length (fun p => if C.getD p 0 = k then 1 else 0)
    by_cases e : c = k
    · subst e
      simp
      omega
    · rw [if_neg e, if_neg (by simpa using e)]
      omega
theorem fix_cy {w h m : Nat} (hs : Sz w h) (h8 : m < 8) (hf : fitsN w h m = true) :
    ∃ ss : List Nat, Ev (fun k => spec_cnCycles.f k (w : Int) (h : Int) (m : Int)) (ss.reverse.map fun s : Nat => (s : Int)) ∧ ss.length ≤ 36 ∧ (∀ s ∈ ss, 1 ≤ s ∧ s ≤ 36) ∧
      ∀ a b, ((cols (List.replicate (w * h) 1) a b).filter (fun l => decide (act w h m l = l))).length = (cols ss a b).length := by
  have h0 := chk_get (f := fun w h m => cyChk w h m (mkR w h m) (mkC w h m)) all_cy hs h8 hf
  have M := mv hs h8 hf
  have lC : (mkC w h m).length = w * h := by unfold mkC; rw [List.length_map, List.length_range]
  have lR : (mkR w h m).length ≤ w * h := by
    unfold mkR
    rw [List.length_reverse]
    exact Nat.le_trans (List.length_filter_le ..) (by rw [List.length_range]; exact Nat.le_refl _)
  have hm := hs.m
  unfold cyChk at h0
  generalize mkR w h m = R at h0 lR
  generalize mkC w h m = C at h0 lC
  simp only [Bool.and_eq_true, decide_eq_true_eq, List.all_eq_true, Bool.or_eq_true, List.mem_range] at h0
  obtain ⟨c1, c2, c3, c4, c5, c6⟩ := h0
  have getC : ∀ p, p < w * h → C.getD p 0 ∈ C := fun p hp => by
    rw [List.getD_eq_getElem?_getD, List.getElem?_eq_getElem (by omega)]
    exact List.getElem_mem _
  have g1 : ∀ p, p < w * h → src w h m p < w * h ∧ C.getD p 0 < R.length ∧ C.getD (src w h m p) 0 = C.getD p 0 := by
    intro p hp
    refine ⟨M.s1 p hp, c1 _ (getC p hp), ?_⟩
    have e := congrArg (fun L : List Nat => L.getD p 0) c2
    simp only [List.getD_eq_getElem?_getD, List.getElem?_map, List.getElem?_range hp, Option.map_some, Option.getD_some] at e
    rw [List.getD_eq_getElem?_getD, List.getD_eq_getElem?_getD]
    exact e
  have g2 : ∀ k, k < R.length → R.getD k 0 < w * h ∧ C.getD (R.getD k 0) 0 = k := by
    intro k hk
    have er : R.getD k 0 = R[k] := by rw [List.getD_eq_getElem?_getD, List.getElem?_eq_getElem hk]; rfl
    refine ⟨by rw [er]; exact c3 _ (List.getElem_mem _), ?_⟩
    have e := congrArg (fun L : List Nat => L[k]?) c4
    simp only [List.getElem?_map, List.getElem?_range hk, List.getElem?_eq_getElem hk, Option.map_some] at e
    rw [er]
    exact Option.some.inj e
  have lss : ((List.range R.length).map fun k => C.count k).length = R.length := by rw [List.length_map, List.length_range]
  refine ⟨(List.range R.length).map fun k => C.count k, Ev.of (g := fun k => spec_cnCycles.f k (w : Int) (h : Int) (m : Int)) (fun k => spec_cnCycles.mono _ _ _ k) c6, by omega, ?_, fun a b => ?_⟩
  · intro s hsm
    obtain ⟨k, hk, rfl⟩ := List.mem_map.1 hsm
    have hk := List.mem_range.1 hk
    obtain ⟨g3, g4⟩ := g2 k hk
    refine ⟨?_, Nat.le_trans List.count_le_length (by omega)⟩
    refine List.count_pos_iff.2 ?_
    have := getC _ g3
    rw [g4] at this
    exact this
  · refine CM.fix_count (w * h) (src w h m) R _ (fun p => C.getD p 0) a b g1 g2 (fun p hp => ?_) lss (fun k hk => ?_)
    · have := c5 p hp
      simpa only [or_assoc] using this
    · have e : ((List.range R.length).map fun k => C.count k).getD k 0 = C.count k := by
        rw [List.getD_eq_getElem?_getD, List.getElem?_map, List.getElem?_range hk]
        rfl
      rw [e, count_sum, lC]
end CG
end Go.Proofs.YtoojemnocncafaaL
namespace Go.Proofs.YtoojemnocncafaaL
namespace CG
open Go.RowKit Go.Proofs.Ytoojemnocncafaa.Q Go.Proofs.YtoojemnocncafaaW.PrintWords Go.Proofs.YtoojemnocncafaaW.PrintLast
def okC (cs : List Int) : Prop := (∀ c ∈ cs, 1 ≤ c ∧ c ≤ 36) ∧ cs.length ≤ 100
theorem wn {n : Nat} {z : Int} (h : n < 1000000) (hz : z = (n : Int)) : wrap64 z = (n : Int) := by
  rw [hz]
  unfold wrap64
  omega
/-- What a cycle of c cells makes of a table. -/
def stepK (c : Nat) (g : Nat → Nat → Int) (i j : Nat) : Int :=
  if c ≤ j then wrap64 ((if c ≤ i then wrap64 (g i j + g (i - c) j) else g i j) + g i (j - c)) else (if c ≤ i then wrap64 (g i j + g (i - c) j) else g i j)
def startK (i j : Nat) : Int := if i = 0 ∧ j = 0 then 1 else 0
def upd (g : Nat → Nat → Int) (i j : Nat) (v : Int) (a b : Nat) : Int := if a = i ∧ b = j then v else g a b
theorem rd_set (l : List Int) (i a : Nat) (x : Int) (hi : i < l.length) : rd (l.set i x) (a : Int) = if a = i then x else rd l (a : Int) := by
  unfold rd
  rw [Int.toNat_natCast]
  by_cases h : a = i
  · subst h
    rw [if_pos rfl]
    simp [List.getD, hi]
  · rw [if_neg h]
    simp [List.getD, List.getElem?_set_ne (Ne.symm h)]
def ix (B i j : Nat) : Nat := i * (B + 1) + j
theorem ix_inj {B i j a b : Nat} (hj : j ≤ B) (hb : b ≤ B) (h : ix B a b = ix B i j) : a = i ∧ b = j := by
  unfold ix at h
  have h1 : (a * (B + 1) + b) / (B + 1) = a := by
    rw [Nat.mul_comm, Nat.mul_add_div (by omega), Nat.div_eq_of_lt (by omega), Nat.add_zero]
  have h2 : (i * (B + 1) + j) / (B + 1) = i := by
    rw [Nat.mul_comm, Nat.mul_add_div (by omega), Nat.div_eq_of_lt (by omega), Nat.add_zero]
  have e : a = i := by rw [← h1, h, h2]
  subst e
  exact ⟨rfl, by omega⟩
structure TabF (W B : Nat) (F : List Int) (g : Nat → Nat → Int) : Prop where
  len : F.length = (W + 1) * (B + 1)
  at_ : ∀ i j, i ≤ W → j ≤ B → rd F ((ix B i j : Nat) : Int) = g i j
theorem ix_lt {W B i j : Nat} (hi : i ≤ W) (hj : j ≤ B) : ix B i j < (W + 1) * (B + 1) := by
  unfold ix
  have : i * (B + 1) ≤ W * (B + 1) := Nat.mul_le_mul_right _ hi
  rw [Nat.add_mul, Nat.one_mul]
  omega
theorem TabF.congr {W B : Nat} {F : List Int} {g g' : Nat → Nat → Int} (h : TabF W B F g) (e : ∀ i j, i ≤ W → j ≤ B → g i j = g' i j) : TabF W B F g' :=
  ⟨h.len, fun i j hi hj => (h.at_ i j hi hj).trans (e i j hi hj)⟩
theorem TabF.set {W B : Nat} {F : List Int} {g : Nat → Nat → Int} (h : TabF W B F g) (i j : Nat) (v : Int) (hi : i ≤ W) (hj : j ≤ B) : TabF W B (F.set (ix B i j) v) (upd g i j v) where
  len := by rw [List.length_set]; exact h.len
  at_ := fun a b ha hb => by
    unfold upd
    rw [rd_set F _ _ _ (by rw [h.len]; exact ix_lt hi hj)]
    by_cases e : ix B a b = ix B i j
    · rw [if_pos e, if_pos (ix_inj hj hb e)]
    · rw [if_neg e, if_neg (fun x => e (by rw [x.1, x.2])), h.at_ a b ha hb]
/-- The reference goes from the start: what lies ahead of i0, j0 is done. -/
def mixS (c : Nat) (g : Nat → Nat → Int) (i0 j0 a b : Nat) : Int := if a < i0 ∨ (a = i0 ∧ b < j0) then stepK c g a b else g a b
theorem spec_l2 (W B c : Nat) (hW : W ≤ 36) (hB : B ≤ 36) (hc : 1 ≤ c) (hc2 : c ≤ 36) (g : Nat → Nat → Int) (F : List Int) (hF : TabF W B F g) (x29 : List Int) (x30 x31 : Int) (i : Nat) (hi : i ≤ W) (r : Int)
    (next : ∀ R, TabF W B R (mixS c g i (B + 1)) → Ev (fun k => spec_cnKept.l1 k (W : Int) (B : Int) F (c : Int) R (wrap64 ((i : Int) + 1)) x29 x30 x31) r) :
    ∀ (d j : Nat) (R : List Int), B + 1 - j = d → j ≤ B + 1 → TabF W B R (mixS c g i j) → Ev (fun k => spec_cnKept.l2 k (W : Int) (B : Int) F (c : Int) R (i : Int) (j : Int) x29 x30 x31) r := by
  intro d
  induction d with
  | zero =>
    intro j R hd hj hT
    have e : j = B + 1 := by omega
    subst e
    have g0 : ¬ (((B + 1 : Nat) : Int) ≤ (B : Int)) := by omega
    exact Ev.step (fun k => by rw [spec_cnKept.l2, if_neg g0]) (next R hT)
  | succ d ih =>
    intro j R hd hj hT
    have hjB : j ≤ B := by omega
    have g1 : (j : Int) ≤ (B : Int) := by omega
    have EB : Aside0 (wrap64 ((B : Int) + 1) = ((B + 1 : Nat) : Int)) := Aside0.mk (wn (n := B + 1) (by omega) (by omega))
    have b1 : i * (B + 1) ≤ 36 * 37 := Nat.mul_le_mul (by omega) (by omega)
    have b2 : c * (B + 1) ≤ 36 * 37 := Nat.mul_le_mul (by omega) (by omega)
    have ei0 : (i : Int) * ((B + 1 : Nat) : Int) = ((i * (B + 1) : Nat) : Int) := (Int.natCast_mul _ _).symm
    have ec0 : (c : Int) * ((B + 1 : Nat) : Int) = ((c * (B + 1) : Nat) : Int) := (Int.natCast_mul _ _).symm
    have hml : c ≤ i → c * (B + 1) ≤ i * (B + 1) := fun h => Nat.mul_le_mul_right _ h
    have hm : (i - c) * (B + 1) = i * (B + 1) - c * (B + 1) := Nat.sub_mul ..
    have hix : ∀ j', ix B i j' = i * (B + 1) + j' := fun _ => rfl
    have hixc : ∀ j', ix B (i - c) j' = (i - c) * (B + 1) + j' := fun _ => rfl
    rw [hm] at hixc
    clear hm
    obtain ⟨p, hp⟩ : ∃ p, i * (B + 1) = p := ⟨_, rfl⟩
    obtain ⟨pc, hpc⟩ : ∃ pc, c * (B + 1) = pc := ⟨_, rfl⟩
    rw [hp] at b1 ei0 hix hixc hml
    rw [hpc] at b2 ec0 hixc hml
    clear hp hpc
    have EI : Aside0 (wrap64 ((i : Int) * ((B + 1 : Nat) : Int)) = (p : Int)) := Aside0.mk (wn (n := p) (by omega) ei0)
    have EC : Aside0 (wrap64 ((c : Int) * ((B + 1 : Nat) : Int)) = (pc : Int)) := Aside0.mk (wn (n := pc) (by omega) ec0)
    clear ei0 ec0
    have EK : Aside0 (wrap64 ((p : Int) + (j : Int)) = ((ix B i j : Nat) : Int)) := Aside0.mk (wn (n := ix B i j) (by rw [hix]; omega) (by rw [hix]; omega))
    have HM := Aside0.mk hml
    clear hml
    have EJ : Aside0 (wrap64 ((j : Int) + 1) = ((j + 1 : Nat) : Int)) := Aside0.mk (wn (n := j + 1) (by omega) (by omega))
    have hlt := ix_lt (W := W) (B := B) hi hjB
    have hxb : ix B i j < 10000 := by rw [hix]; omega
    have g2 : (0 : Int) ≤ ((ix B i j : Nat) : Int) := by omega
    have g3 : ((ix B i j : Nat) : Int) < (R.length : Int) := by rw [hT.len]; omega
    have hv : rd R ((ix B i j : Nat) : Int) = g i j := by
      rw [hT.at_ i j hi hjB]
      unfold mixS
      rw [if_neg (by omega)]
    have fin : ∀ R' v, TabF W B R' (upd (mixS c g i j) i j v) → v = stepK c g i j → TabF W B R' (mixS c g i (j + 1)) := by
      intro R' v h e
      refine h.congr fun a b ha hb => ?_
      unfold upd mixS
      by_cases h1 : a = i ∧ b = j
      · rw [if_pos h1, if_pos (by omega), e, h1.1, h1.2]
      · rw [if_neg h1]
        by_cases h2 : a < i ∨ (a = i ∧ b < j)
        · rw [if_pos h2, if_pos (by omega)]
        · rw [if_neg h2, if_neg (by omega)]
    by_cases ci : c ≤ i
    · have t1 : (i : Int) ≥ (c : Int) := by omega
      have hml2 := HM.out ci
      have EIC : Aside0 (wrap64 (((ix B i j : Nat) : Int) - (pc : Int)) = ((ix B (i - c) j : Nat) : Int)) := Aside0.mk (wn (n := ix B (i - c) j) (by rw [hixc]; omega) (by rw [hixc, hix]; omega))
      have hlt2 := ix_lt (W := W) (B := B) (i := i - c) (j := j) (by omega) hjB
      have g5 : (0 : Int) ≤ ((ix B (i - c) j : Nat) : Int) := by omega
      have g6 : ((ix B (i - c) j : Nat) : Int) < (F.length : Int) := by rw [hF.len]; omega
      have hv2 := hF.at_ (i - c) j (by omega) hjB
      have hT1 := hT.set i j (wrap64 (g i j + g (i - c) j)) hi hjB
      have hv3 := hT1.at_ i j hi hjB
      have e3 : upd (mixS c g i j) i j (wrap64 (g i j + g (i - c) j)) i j = wrap64 (g i j + g (i - c) j) := if_pos ⟨rfl, rfl⟩
      rw [e3] at hv3
      by_cases cj : c ≤ j
      · have t2 : (j : Int) ≥ (c : Int) := by omega
        have EJC : Aside0 (wrap64 (((ix B i j : Nat) : Int) - (c : Int)) = ((ix B i (j - c) : Nat) : Int)) := Aside0.mk (wn (n := ix B i (j - c)) (by rw [hix]; omega) (by rw [hix, hix]; omega))
        have hlt3 := ix_lt (W := W) (B := B) (i := i) (j := j - c) hi (by omega)
        have g8 : (0 : Int) ≤ ((ix B i (j - c) : Nat) : Int) := by omega
        have g9 : ((ix B i (j - c) : Nat) : Int) < (F.length : Int) := by rw [hF.len]; omega
        have hv4 := hF.at_ i (j - c) hi (by omega)
        have hT2 := hT1.set i j (wrap64 (wrap64 (g i j + g (i - c) j) + g i (j - c))) hi hjB
        have hT3 : TabF W B _ (mixS c g i (j + 1)) := fin _ (wrap64 (wrap64 (g i j + g (i - c) j) + g i (j - c))) (hT2.congr fun a b _ _ => by
          unfold upd
          by_cases h1 : a = i ∧ b = j
          · rw [if_pos h1, if_pos h1]
          · rw [if_neg h1, if_neg h1, if_neg h1]) (by unfold stepK; rw [if_pos cj, if_pos ci])
        have hN := ih (j + 1) _ (by omega) (by omega) hT3
        generalize hR1 : R.set (ix B i j) (wrap64 (g i j + g (i - c) j)) = R1 at hT1 hv3 hT2 hT3 hN
        refine Ev.step (fun k => ?_) hN
        rw [spec_cnKept.l2, if_pos g1, if_pos t1, EB.out, EI.out, EK.out, if_pos g2, if_pos g3, EC.out, EIC.out, if_pos g5, if_pos g6, Int.toNat_natCast, hv, hv2, hR1, Option.bind_some, if_pos t2, EJC.out, if_pos g8, if_pos g9, hv3, hv4, EJ.out]
      · have t2 : ¬ (j : Int) ≥ (c : Int) := by omega
        have hT3 : TabF W B _ (mixS c g i (j + 1)) := fin _ _ hT1 (by unfold stepK; rw [if_neg cj, if_pos ci])
        have hN := ih (j + 1) _ (by omega) (by omega) hT3
        refine Ev.step (fun k => ?_) hN
        rw [spec_cnKept.l2, if_pos g1, if_pos t1, EB.out, EI.out, EK.out, if_pos g2, if_pos g3, EC.out, EIC.out, if_pos g5, if_pos g6, Int.toNat_natCast, hv, hv2, Option.bind_some, if_neg t2, EJ.out]
    · have t1 : ¬ (i : Int) ≥ (c : Int) := by omega
      by_cases cj : c ≤ j
      · have t2 : (j : Int) ≥ (c : Int) := by omega
        have EJC : Aside0 (wrap64 (((ix B i j : Nat) : Int) - (c : Int)) = ((ix B i (j - c) : Nat) : Int)) := Aside0.mk (wn (n := ix B i (j - c)) (by rw [hix]; omega) (by rw [hix, hix]; omega))
        have hlt3 := ix_lt (W := W) (B := B) (i := i) (j := j - c) hi (by omega)
        have g8 : (0 : Int) ≤ ((ix B i (j - c) : Nat) : Int) := by omega
        have g9 : ((ix B i (j - c) : Nat) : Int) < (F.length : Int) := by rw [hF.len]; omega
        have hv4 := hF.at_ i (j - c) hi (by omega)
        have hT2 := hT.set i j (wrap64 (g i j + g i (j - c))) hi hjB
        have hT3 : TabF W B _ (mixS c g i (j + 1)) := fin _ _ hT2 (by unfold stepK; rw [if_pos cj, if_neg ci])
        have hN := ih (j + 1) _ (by omega) (by omega) hT3
        refine Ev.step (fun k => ?_) hN
        rw [spec_cnKept.l2, if_pos g1, if_neg t1, if_pos t2, EB.out, EI.out, EK.out, if_pos g2, if_pos g3, EJC.out, if_pos g8, if_pos g9, Int.toNat_natCast, hv, hv4, EJ.out]
      · have t2 : ¬ (j : Int) ≥ (c : Int) := by omega
        have hT3 : TabF W B R (mixS c g i (j + 1)) := hT.congr fun a b ha hb => by
          unfold mixS
          by_cases h2 : a < i ∨ (a = i ∧ b < j)
          · rw [if_pos h2, if_pos (by omega)]
          · rw [if_neg h2]
            by_cases h1 : a = i ∧ b = j
            · rw [if_pos (by omega), h1.1, h1.2]
              unfold stepK
              rw [if_neg cj, if_neg ci]
            · rw [if_neg (by omega)]
        have hN := ih (j + 1) _ (by omega) (by omega) hT3
        refine Ev.step (fun k => ?_) hN
        rw [spec_cnKept.l2, if_pos g1, if_neg t1, if_neg t2, EJ.out]
theorem spec_l1 (W B c : Nat) (hW : W ≤ 36) (hB : B ≤ 36) (hc : 1 ≤ c) (hc2 : c ≤ 36) (g : Nat → Nat → Int) (F : List Int) (hF : TabF W B F g) (x29 : List Int) (x30 x31 : Int) (r : Int)
    (next : ∀ R, TabF W B R (stepK c g) → Ev (fun k => spec_cnKept.l0 k (W : Int) (B : Int) R x29 x30 (wrap64 (x31 + 1))) r) :
    ∀ (d i : Nat) (R : List Int), W + 1 - i = d → i ≤ W + 1 → TabF W B R (fun a b => if a < i then stepK c g a b else g a b) → Ev (fun k => spec_cnKept.l1 k (W : Int) (B : Int) F (c : Int) R (i : Int) x29 x30 x31) r := by
  intro d
  induction d with
  | zero =>
    intro i R hd hi hT
    have e : i = W + 1 := by omega
    subst e
    have g0 : ¬ (((W + 1 : Nat) : Int) ≤ (W : Int)) := by omega
    exact Ev.step (fun k => by rw [spec_cnKept.l1, if_neg g0]) (next R (hT.congr fun a b ha _ => if_pos (by omega)))
  | succ d ih =>
    intro i R hd hi hT
    have ei : wrap64 ((i : Int) + 1) = ((i + 1 : Nat) : Int) := wn (n := i + 1) (by omega) (by omega)
    have g1 : (i : Int) ≤ (W : Int) := by omega
    have h2 := spec_l2 W B c hW hB hc hc2 g F hF x29 x30 x31 i (by omega) r (fun R' hR' => by
      rw [ei]
      refine ih (i + 1) R' (by omega) (by omega) (hR'.congr fun a b ha hb => ?_)
      unfold mixS
      by_cases h : a < i + 1
      · rw [if_pos (by omega), if_pos h]
      · rw [if_neg (by omega), if_neg h]) (B + 1) 0 R (by omega) (by omega) (hT.congr fun a b ha hb => by
      unfold mixS
      by_cases h : a < i
      · rw [if_pos h, if_pos (by omega)]
      · rw [if_neg h, if_neg (by omega)])
    exact Ev.step (fun k => by rw [spec_cnKept.l1, if_pos g1]; rfl) h2
-- all cycles
def G (cs : List Int) (i : Nat) : Nat → Nat → Int := (cs.take i).foldl (fun g c => stepK c.toNat g) startK
theorem G_succ (cs : List Int) (i : Nat) (h : i < cs.length) : G cs (i + 1) = stepK (cs[i]).toNat (G cs i) := by
  unfold G
  rw [List.take_succ_eq_append_getElem h, List.foldl_append]
  rfl
theorem rd_in {l : List Int} {i : Nat} (h : i < l.length) : rd l (i : Int) = l[i] := by
  unfold rd
  rw [Int.toNat_natCast, List.getD_eq_getElem?_getD, List.getElem?_eq_getElem h]
  rfl
theorem spec_outer (W B : Nat) (hW : W ≤ 36) (hB : B ≤ 36) (cs : List Int) (hc : okC cs) : ∀ (d i : Nat) (F : List Int), cs.length - i = d → i ≤ cs.length → TabF W B F (G cs i) →
    Ev (fun k => spec_cnKept.l0 k (W : Int) (B : Int) F cs (cs.length : Int) (i : Int)) (G cs cs.length W B) := by
  intro d
  induction d with
  | zero =>
    intro i F hd hi hT
    have e : i = cs.length := by omega
    subst e
    have g0 : ¬ ((cs.length : Int) < (cs.length : Int)) := by omega
    have b1 : W * (B + 1) ≤ 36 * 37 := Nat.mul_le_mul (by omega) (by omega)
    have hix : ix B W B = W * (B + 1) + B := rfl
    have ei0 : (W : Int) * ((B + 1 : Nat) : Int) = ((W * (B + 1) : Nat) : Int) := (Int.natCast_mul _ _).symm
    obtain ⟨p, hp⟩ : ∃ p, W * (B + 1) = p := ⟨_, rfl⟩
    rw [hp] at b1 ei0 hix
    clear hp
    have EI : Aside0 (wrap64 ((W : Int) * ((B + 1 : Nat) : Int)) = (p : Int)) := Aside0.mk (wn (n := p) (by omega) ei0)
    clear ei0
    have EK : Aside0 (wrap64 ((p : Int) + (B : Int)) = ((ix B W B : Nat) : Int)) := Aside0.mk (wn (n := ix B W B) (by rw [hix]; omega) (by rw [hix]; omega))
    have EB : Aside0 (wrap64 ((B : Int) + 1) = ((B + 1 : Nat) : Int)) := Aside0.mk (wn (n := B + 1) (by omega) (by omega))
    have hlt := ix_lt (W := W) (B := B) (Nat.le_refl W) (Nat.le_refl B)
    have g1 : (0 : Int) ≤ ((ix B W B : Nat) : Int) := by omega
    have g2 : ((ix B W B : Nat) : Int) < (F.length : Int) := by rw [hT.len]; omega
    have hv := hT.at_ W B (Nat.le_refl _) (Nat.le_refl _)
    exact Ev.step (f := fun _ => some (G cs cs.length W B)) (fun k => by rw [spec_cnKept.l0, if_neg g0, EB.out, EI.out, EK.out, if_pos g1, if_pos g2, hv]) (Ev.now _)
  | succ d ih =>
    intro i F hd hi hT
    have hlt : i < cs.length := by omega
    have g1 : (i : Int) < (cs.length : Int) := by omega
    have g2 : (0 : Int) ≤ (i : Int) := by omega
    obtain ⟨c0, c1⟩ := hc.1 _ (List.getElem_mem hlt)
    obtain ⟨c, hcc⟩ := Int.eq_ofNat_of_zero_le (show 0 ≤ cs[i] by omega)
    have hlen := hc.2
    have e : wrap64 ((i : Int) + 1) = ((i + 1 : Nat) : Int) := wn (n := i + 1) (by omega) (by omega)
    have hGs := G_succ cs i hlt
    rw [hcc, Int.toNat_natCast] at hGs
    have hF : F.length ≤ 37 * 37 := by rw [hT.len]; exact Nat.mul_le_mul (by omega) (by omega)
    have g3 : ([] : List Int).length + F.length < 17592186044416 := by simp; omega
    have h2 := spec_l1 W B c hW hB (by omega) (by omega) (G cs i) F hT cs (cs.length : Int) (i : Int) (G cs cs.length W B) (fun R' hR' => by
      rw [e]
      exact ih (i + 1) R' (by omega) (by omega) (by rw [hGs]; exact hR')) (W + 1) 0 F (by omega) (Nat.zero_le _) (hT.congr fun a b ha hb => by rw [if_neg (by omega)])
    exact Ev.step (fun k => by rw [spec_cnKept.l0, if_pos g1, if_pos g2, if_pos g1, Option.bind_some, if_pos g3, List.nil_append, rd_in hlt, hcc]; rfl) h2
theorem spec_kept_ev (w h : Int) (W B : Nat) (m : Int) (hW : W ≤ 36) (hB : B ≤ 36) (cs : List Int) (hc : okC cs) (hcy : Ev (fun k => spec_cnCycles.f k w h m) cs) :
    Ev (fun k => spec_cnKept.f k w h (W : Int) (B : Int) m) (G cs cs.length W B) := by
  have eW : wrap64 ((W : Int) + 1) = ((W + 1 : Nat) : Int) := wn (n := W + 1) (by omega) (by omega)
  have eB : wrap64 ((B : Int) + 1) = ((B + 1 : Nat) : Int) := wn (n := B + 1) (by omega) (by omega)
  have b1 : (W + 1) * (B + 1) ≤ 37 * 37 := Nat.mul_le_mul (by omega) (by omega)
  have b0 : 0 < (W + 1) * (B + 1) := Nat.mul_pos (by omega) (by omega)
  have em : wrap64 (((W + 1 : Nat) : Int) * ((B + 1 : Nat) : Int)) = (((W + 1) * (B + 1) : Nat) : Int) := wn (n := (W + 1) * (B + 1)) (by omega) (Int.natCast_mul _ _).symm
  have g1 : (0 : Int) ≤ (((W + 1) * (B + 1) : Nat) : Int) := by omega
  have g2 : (((W + 1) * (B + 1) : Nat) : Int).toNat ≤ 35184372088832 := by omega
  have hT : TabF W B ((List.replicate ((W + 1) * (B + 1)) (0 : Int)).set 0 1) startK := by
    have h0 : TabF W B (List.replicate ((W + 1) * (B + 1)) (0 : Int)) (fun _ _ => 0) := by
      refine ⟨List.length_replicate, fun i j hi hj => ?_⟩
      have := ix_lt (W := W) (B := B) hi hj
      unfold rd
      rw [Int.toNat_natCast, List.getD_eq_getElem?_getD, List.getElem?_replicate, if_pos this]
      rfl
    have h1 := h0.set 0 0 1 (Nat.zero_le _) (Nat.zero_le _)
    have e0 : ix B 0 0 = 0 := by unfold ix; omega
    rw [e0] at h1
    refine TabF.congr h1 fun i j _ _ => ?_
    unfold upd startK
    rfl
  have hO := spec_outer W B hW hB cs hc cs.length 0 _ rfl (Nat.zero_le _) hT
  have g3 : (0 : Int) < ((List.replicate ((W + 1) * (B + 1)) (0 : Int)).length : Int) := by rw [List.length_replicate]; omega
  refine Ev.congr (f := fun k => (spec_cnCycles.f k w h m).bind fun t121 => (spec_cnKept.l0 k (W : Int) (B : Int) ((List.replicate ((W + 1) * (B + 1)) (0 : Int)).set 0 1) t121 (t121.length : Int) 0)) (g := _) (r := _) (fun k => ?_) (Ev.bind hcy hO)
  rw [spec_cnKept.f, eW, eB, em, if_pos g1, if_pos g2, Option.bind_some, Int.toNat_natCast, if_pos g3]
  rfl
theorem wrapSmall {n : Int} (h0 : -9223372036854775808 ≤ n) (h1 : n ≤ 9223372036854775807) : wrap64 n = n := by
  unfold wrap64
  omega

/-- The two sizes of cells are tested alike. -/
theorem sizes_alike (a b : Int) : spec_cnSize.f a b = some (decide (((1 ≤ a ∧ a ≤ 7) ∧ (1 ≤ b ∧ b ≤ 7)) ∧ a * b ≤ 36)) ∧ impl_isSize.f a b = some (decide (((1 ≤ a ∧ a ≤ 7) ∧ (1 ≤ b ∧ b ≤ 7)) ∧ a * b ≤ 36)) := by
  by_cases h : (1 ≤ a ∧ a ≤ 7) ∧ (1 ≤ b ∧ b ≤ 7)
  · obtain ⟨⟨h1, h2⟩, h3, h4⟩ := h
    have hp : 0 ≤ a * b := Int.mul_nonneg (by omega) (by omega)
    have hq : a * b ≤ 7 * 7 := Int.mul_le_mul h2 h4 (by omega) (by omega)
    have hw : wrap64 (a * b) = a * b := wrapSmall (by omega) (by omega)
    simp [spec_cnSize.f, impl_isSize.f, spec_l1In.f, impl_within.f, h1, h2, h3, h4, hw]
  · have hf : decide (((1 ≤ a ∧ a ≤ 7) ∧ (1 ≤ b ∧ b ≤ 7)) ∧ a * b ≤ 36) = false := decide_eq_false (fun z => h z.1)
    rw [hf]
    by_cases x1 : 1 ≤ a
    · by_cases x2 : a ≤ 7
      · by_cases x3 : 1 ≤ b
        · have x4 : ¬ b ≤ 7 := by omega
          simp [spec_cnSize.f, impl_isSize.f, spec_l1In.f, impl_within.f, x1, x2, x3, x4]
        · simp [spec_cnSize.f, impl_isSize.f, spec_l1In.f, impl_within.f, x1, x2, x3]
      · simp [spec_cnSize.f, impl_isSize.f, spec_l1In.f, impl_within.f, x1, x2]
    · simp [spec_cnSize.f, impl_isSize.f, spec_l1In.f, impl_within.f, x1]

def ofN (n a b : Int) : Bool :=
  decide (((spec_cnChoose.f 40 n a).bind fun t106 => ((spec_cnChoose.f 40 (wrap64 (n - a)) b).bind fun t107 => (if t107 = 0 then (none) else (if t106 > (wrap64 (Int.tdiv (1000000000000000 : Int) t107)) then (some (0, false)) else (some (wrap64 (t106 * t107), true))))))
    = ((impl_binomial.f 40 n a).bind fun t118 => ((impl_binomial.f 40 (wrap64 (n - a)) b).bind fun t119 => (if (wrap64 (t118 * t119)) > 1000000000000000 then (some (0, false)) else (some (wrap64 (t118 * t119), true)))))
    ∧ ((impl_binomial.f 40 n a).bind fun t118 => ((impl_binomial.f 40 (wrap64 (n - a)) b).bind fun t119 => (if (wrap64 (t118 * t119)) > 1000000000000000 then (some (0, false)) else (some (wrap64 (t118 * t119), true))))) ≠ (none : Option (Int × Bool)))

def ofAll (n : Nat) : Bool := (List.range (n + 1)).all fun a => (List.range (n - a + 1)).all fun b => ofN (n : Int) (a : Int) (b : Int)

theorem all_n : ∀ i : Fin 36, ofAll (i.val + 1) = true := by decide +kernel

theorem one_n (n a b : Int) (h0 : 1 ≤ n) (h1 : n ≤ 36) (h2 : 0 ≤ a) (h3 : a ≤ n) (h4 : 0 ≤ b) (h5 : b ≤ n - a) : ofN n a b = true := by
  have h := all_n ⟨(n - 1).toNat, by omega⟩
  have en : (n - 1).toNat + 1 = n.toNat := by omega
  simp only [en] at h
  unfold ofAll at h
  rw [List.all_eq_true] at h
  have h6 := h a.toNat (List.mem_range.2 (by omega))
  rw [List.all_eq_true] at h6
  have h7 := h6 b.toNat (List.mem_range.2 (by omega))
  have e1 : ((n.toNat : Nat) : Int) = n := by omega
  have e2 : ((a.toNat : Nat) : Int) = a := by omega
  have e3 : ((b.toNat : Nat) : Int) = b := by omega
  rw [e1, e2, e3] at h7
  exact h7


structure Asks (w h c d : Nat) : Prop where
  w0 : 1 ≤ w
  w1 : w ≤ 7
  h0 : 1 ≤ h
  h1 : h ≤ 7
  p : w * h ≤ 36
  cd : c + d ≤ w * h
theorem asked (w h c d : Int) (hc : (Lit.int .i64 c).wf = true) (hd : (Lit.int .i64 d).wf = true) : (spec_cnAsked.f w h c d = some false ∧ impl_isFilled.f w h c d = some false) ∨
    (∃ W H C D : Nat, (w = (W : Int) ∧ h = (H : Int)) ∧ (c = (C : Int) ∧ d = (D : Int)) ∧ Asks W H C D ∧ spec_cnAsked.f w h c d = some true ∧ impl_isFilled.f w h c d = some true) := by
  obtain ⟨s1, s2⟩ := sizes_alike w h
  by_cases hs : ((1 ≤ w ∧ w ≤ 7) ∧ (1 ≤ h ∧ h ≤ 7)) ∧ w * h ≤ 36
  · obtain ⟨⟨⟨h1, h2⟩, h3, h4⟩, h5⟩ := id hs
    have hp : 1 * 1 ≤ w * h := Int.mul_le_mul h1 h3 (by omega) (by omega)
    have hw : wrap64 (w * h) = w * h := wrapSmall (by omega) (by omega)
    rw [decide_eq_true hs] at s1 s2
    have fin : ∀ (s i : Option Bool), s = some true → i = some true → 0 ≤ c → 0 ≤ d → c + d ≤ w * h → ∃ W H C D : Nat, (w = (W : Int) ∧ h = (H : Int)) ∧ (c = (C : Int) ∧ d = (D : Int)) ∧ Asks W H C D ∧ s = some true ∧ i = some true := by
      intro s i e1 e2 c0 d0 cd
      obtain ⟨W, rfl⟩ := Int.eq_ofNat_of_zero_le (show 0 ≤ w by omega)
      obtain ⟨H, rfl⟩ := Int.eq_ofNat_of_zero_le (show 0 ≤ h by omega)
      obtain ⟨C, rfl⟩ := Int.eq_ofNat_of_zero_le c0
      obtain ⟨D, rfl⟩ := Int.eq_ofNat_of_zero_le d0
      have hm : (W : Int) * (H : Int) = ((W * H : Nat) : Int) := (Int.natCast_mul _ _).symm
      rw [hm] at cd h5
      exact ⟨W, H, C, D, ⟨rfl, rfl⟩, ⟨rfl, rfl⟩, ⟨by omega, by omega, by omega, by omega, by omega, by omega⟩, e1, e2⟩
    generalize hn : w * h = n at *
    by_cases x1 : 0 ≤ c
    · by_cases x2 : c ≤ n
      · have hw2 : wrap64 (n - c) = n - c := wrapSmall (by omega) (by omega)
        by_cases x3 : 0 ≤ d
        · by_cases x4 : d ≤ n - c
          · right
            refine fin _ _ ?_ ?_ x1 x3 (by omega)
            · simp [spec_cnAsked.f, s1, hn, hw, hw2, spec_l1In.f, x1, x2, x3, x4]
            · simp [impl_isFilled.f, s2, hn, hw, hw2, impl_within.f, x1, x2, x3, x4]
          · left
            simp [spec_cnAsked.f, impl_isFilled.f, s1, s2, hn, hw, hw2, spec_l1In.f, impl_within.f, x1, x2, x3, x4]
        · left
          simp [spec_cnAsked.f, impl_isFilled.f, s1, s2, hn, hw, hw2, spec_l1In.f, impl_within.f, x1, x2, x3]
      · left
        simp [spec_cnAsked.f, impl_isFilled.f, s1, s2, hn, hw, spec_l1In.f, impl_within.f, x1, x2]
    · left
      simp [spec_cnAsked.f, impl_isFilled.f, s1, s2, hn, hw, spec_l1In.f, impl_within.f, x1]
  · rw [decide_eq_false hs] at s1 s2
    left
    simp [spec_cnAsked.f, impl_isFilled.f, s1, s2]
theorem trays_none (w h c d : Int) (h2 : impl_isFilled.f w h c d = some false) : Ev (fun k => impl_countTrays.f k w h c d) (0, false) := by
  refine Ev.of (g := fun k => impl_countTrays.f k w h c d) (fun k => impl_countTrays.mono _ _ _ _ k) (k := 0) ?_
  unfold impl_countTrays.f
  rw [h2]
  rfl
theorem trays_same (w h c d : Nat) (ha : Asks w h c d) (h2 : impl_isFilled.f (w : Int) (h : Int) (c : Int) (d : Int) = some true) :
    ∃ r : Int × Bool, Ev (fun k => spec_cnTrays.f k (w : Int) (h : Int) (c : Int) (d : Int)) r ∧ Ev (fun k => impl_countTrays.f k (w : Int) (h : Int) (c : Int) (d : Int)) r := by
  have hm : (w : Int) * (h : Int) = ((w * h : Nat) : Int) := (Int.natCast_mul _ _).symm
  have hw0 : 1 * 1 ≤ w * h := Nat.mul_le_mul ha.w0 ha.h0
  have hp := ha.p
  have hcd := ha.cd
  have hw : wrap64 ((w * h : Nat) : Int) = ((w * h : Nat) : Int) := wrapSmall (by omega) (by omega)
  have e := of_decide_eq_true (one_n ((w * h : Nat) : Int) (c : Int) (d : Int) (by omega) (by omega) (by omega) (by omega) (by omega) (by omega))
  obtain ⟨e1, e2⟩ := e
  obtain ⟨r, hr⟩ := Option.ne_none_iff_exists'.1 e2
  rw [hr] at e1
  refine ⟨r, ?_, ?_⟩
  · refine Ev.of (g := fun k => spec_cnTrays.f k (w : Int) (h : Int) (c : Int) (d : Int)) (fun k => spec_cnTrays.mono _ _ _ _ k) (k := 40) ?_
    show spec_cnTrays.f 40 _ _ _ _ = _
    rw [spec_cnTrays.f, hm, hw]
    exact e1
  · refine Ev.of (g := fun k => impl_countTrays.f k (w : Int) (h : Int) (c : Int) (d : Int)) (fun k => impl_countTrays.mono _ _ _ _ k) (k := 40) ?_
    show impl_countTrays.f 40 _ _ _ _ = _
    rw [impl_countTrays.f, h2, hm, hw, Option.bind_some, if_pos rfl]
    exact hr
theorem tmod8 : ∀ m : Fin 8, (Int.tmod ((m.val : Nat) : Int) 2 == 0) = decide (m.val % 2 = 0) := by decide
theorem fits_eq (w h m : Nat) (h8 : m < 8) : spec_cnFits.f (w : Int) (h : Int) (m : Int) = some (fitsN w h m) := by
  unfold spec_cnFits.f fitsN
  by_cases e : w = h
  · rw [if_pos (by omega), decide_eq_true e]
    rfl
  · rw [if_neg (by omega), decide_eq_false e, Bool.false_or, tmod8 ⟨m, h8⟩]
def fitL (w h : Nat) : List Int := ((List.range 8).filter (fitsN w h)).map (fun m : Nat => (m : Int))
theorem fit_all : ∀ w h : Fin 7, impl_fitting.f 9 ((w.val + 1 : Nat) : Int) ((h.val + 1 : Nat) : Int) = some (fitL (w.val + 1) (h.val + 1)) := by decide +kernel
theorem fitting_ev (w h : Nat) (hw0 : 1 ≤ w) (hw : w ≤ 7) (hh0 : 1 ≤ h) (hh : h ≤ 7) : Ev (fun k => impl_fitting.f k (w : Int) (h : Int)) (fitL w h) := by
  have X := fit_all ⟨w - 1, by omega⟩ ⟨h - 1, by omega⟩
  simp only [Nat.sub_add_cancel hw0, Nat.sub_add_cancel hh0] at X
  exact Ev.of (g := fun k => impl_fitting.f k (w : Int) (h : Int)) (fun k => impl_fitting.mono _ _ k) X
theorem fitL_len (w h : Nat) : (fitL w h).length ≤ 8 := by
  unfold fitL
  rw [List.length_map]
  exact List.length_filter_le ..
theorem fitL_mem (w h : Nat) (a : Int) : a ∈ fitL w h ↔ ∃ m, m < 8 ∧ fitsN w h m = true ∧ a = (m : Int) := by
  unfold fitL
  rw [List.mem_map]
  constructor
  · rintro ⟨m, h1, h2⟩
    rw [List.mem_filter, List.mem_range] at h1
    exact ⟨m, h1.1, h1.2, h2.symm⟩
  · rintro ⟨m, h1, h2, h3⟩
    exact ⟨m, List.mem_filter.2 ⟨List.mem_range.2 h1, h2⟩, h3.symm⟩
def sumK (kp : Nat → Int) (l : List Nat) (a : Int) : Int := l.foldl (fun a m => wrap64 (a + kp m)) a
theorem spec_sum (W H C D : Nat) (kp : Nat → Int) (hk : ∀ m, m < 8 → fitsN W H m = true → Ev (fun k => spec_cnKept.f k (W : Int) (H : Int) (C : Int) (D : Int) (m : Int)) (kp m)) (v : Int) :
    ∀ (d m : Nat), m + d = 8 → ∀ (a : Int) (n : Nat), n ≤ m → n + ((List.range' m d).filter (fitsN W H)).length ≠ 0 →
      v = wrap64 (Int.tdiv (sumK kp ((List.range' m d).filter (fitsN W H)) a) ((n + ((List.range' m d).filter (fitsN W H)).length : Nat) : Int)) →
      Ev (fun k => spec_cnClasses.l0 k (W : Int) (H : Int) (C : Int) (D : Int) a (n : Int) (m : Int)) v := by
  intro d
  induction d with
  | zero =>
    intro m hm a n hn h0 hv
    have e : m = 8 := by omega
    subst e
    have g0 : ¬ ((8 : Nat) : Int) < 8 := by omega
    simp only [List.range'_zero, List.filter_nil, List.length_nil, Nat.add_zero] at h0 hv
    have g1 : ¬ ((n : Nat) : Int) = 0 := by omega
    rw [hv]
    refine Ev.step (f := fun _ => some _) (fun k => ?_) (Ev.now _)
    rw [spec_cnClasses.l0, if_neg g0, if_neg g1]
    rfl
  | succ d ih =>
    intro m hm a n hn h0 hv
    have g0 : (m : Int) < 8 := by omega
    have em : wrap64 ((m : Int) + 1) = ((m + 1 : Nat) : Int) := wn (n := m + 1) (by omega) (by omega)
    have en : wrap64 ((n : Int) + 1) = ((n + 1 : Nat) : Int) := wn (n := n + 1) (by omega) (by omega)
    have hf := fits_eq W H m (by omega)
    rw [List.range'_succ, List.filter_cons] at h0 hv
    cases c : fitsN W H m with
    | false =>
      rw [c] at hf h0 hv
      rw [if_neg Bool.false_ne_true] at h0 hv
      have hI := ih (m + 1) (by omega) a n (by omega) h0 hv
      refine Ev.step (fun k => ?_) hI
      rw [spec_cnClasses.l0, if_pos g0, hf, Option.bind_some, if_neg Bool.false_ne_true, em]
    | true =>
      rw [c] at hf h0 hv
      rw [if_pos rfl] at h0 hv
      rw [List.length_cons] at h0 hv
      have e1 : n + (((List.range' (m + 1) d).filter (fitsN W H)).length + 1) = (n + 1) + ((List.range' (m + 1) d).filter (fitsN W H)).length := by omega
      rw [e1] at h0 hv
      have hI := ih (m + 1) (by omega) (wrap64 (a + kp m)) (n + 1) (by omega) h0 hv
      refine Ev.step (f := fun k => (spec_cnKept.f k (W : Int) (H : Int) (C : Int) (D : Int) (m : Int)).bind fun t254 => (spec_cnClasses.l0 k (W : Int) (H : Int) (C : Int) (D : Int) (wrap64 (a + t254)) ((n + 1 : Nat) : Int) ((m + 1 : Nat) : Int))) (fun k => ?_) ?_
      · rw [spec_cnClasses.l0, if_pos g0, hf, Option.bind_some, if_pos rfl, em, en]
      · exact Ev.bind (f := fun k t254 => (spec_cnClasses.l0 k (W : Int) (H : Int) (C : Int) (D : Int) (wrap64 (a + t254)) ((n + 1 : Nat) : Int) ((m + 1 : Nat) : Int))) (hk m (by omega) c) hI
end CG
end Go.Proofs.YtoojemnocncafaaL
namespace Go.Proofs.YtoojemnocncafaaL
namespace CG
open Go.RowKit Go.Proofs.Ytoojemnocncafaa.Q Go.Proofs.YtoojemnocncafaaW.PrintWords Go.Proofs.YtoojemnocncafaaW.PrintLast Go.Proofs.YtoojemnocncafaaM Go.Proofs.YtoojemnocncafaaV
open CM (pk pk_len pk_at pk_pk pk_id ext_at cols Gd fact)
-- how many trays a move leaves
theorem pow36 : (3 : Nat) ^ 36 = 150094635296999121 := by decide
theorem cols36 (ss : List Nat) (h : ss.length ≤ 36) (a b : Nat) : (cols ss a b).length ≤ 150094635296999121 := by
  rw [← pow36]
  exact Nat.le_trans (CM.cols_le ss a b) (Nat.pow_le_pow_right (by decide) h)
theorem wbig {n : Nat} {z : Int} (h : n < 9000000000000000000) (hz : z = (n : Int)) : wrap64 z = (n : Int) := by
  rw [hz]
  unfold wrap64
  omega
theorem fold_cols : ∀ (ss : List Nat), ss.length ≤ 36 → (ss.reverse.map fun s : Nat => (s : Int)).foldl (fun g c => stepK c.toNat g) startK = fun i j => ((cols ss i j).length : Int)
  | [], _ => by
    funext i j
    show startK i j = ((if i + j = 0 then [[]] else [] : List (List Int)).length : Int)
    unfold startK
    by_cases e : i = 0 ∧ j = 0
    · rw [if_pos e, if_pos (by omega)]
      rfl
    · rw [if_neg e, if_neg (by omega)]
      rfl
  | s :: ss, h => by
    rw [List.length_cons] at h
    rw [List.reverse_cons, List.map_append, List.foldl_append, fold_cols ss (by omega)]
    funext i j
    show stepK ((s : Nat) : Int).toNat (fun i j => ((cols ss i j).length : Int)) i j = _
    rw [Int.toNat_natCast, CM.len_cols]
    have b1 := cols36 ss (by omega) i j
    have b2 := cols36 ss (by omega) (i - s) j
    have b3 := cols36 ss (by omega) i (j - s)
    unfold stepK
    dsimp only
    generalize (cols ss i j).length = x at *
    generalize (cols ss (i - s) j).length = y at *
    generalize (cols ss i (j - s)).length = z at *
    by_cases c1 : s ≤ i <;> by_cases c2 : s ≤ j
    · simp only [c1, c2, if_true]
      rw [wbig (z := (x : Int) + (y : Int)) (n := x + y) (by omega) (by omega), wbig (n := x + y + z) (by omega) (by omega)]
      omega
    · simp only [c1, c2, if_true, if_false]
      rw [wbig (n := x + y) (by omega) (by omega)]
      omega
    · simp only [c1, c2, if_true, if_false]
      rw [wbig (n := x + z) (by omega) (by omega)]
      omega
    · simp only [c1, c2, if_false]
      omega
/-- The trays a move leaves as they are. -/
def fixN (w h c d m : Nat) : Nat := ((cols (List.replicate (w * h) 1) c d).filter (fun l => decide (act w h m l = l))).length
theorem kept_ev {w h c d m : Nat} (hs : Sz w h) (hc : c ≤ 36) (hd : d ≤ 36) (hm : m ∈ ms w h) : Ev (fun k => spec_cnKept.f k (w : Int) (h : Int) (c : Int) (d : Int) (m : Int)) ((fixN w h c d m : Nat) : Int) := by
  obtain ⟨m8, fm⟩ := ms_mem.1 hm
  obtain ⟨ss, h1, h2, h3, h4⟩ := fix_cy hs m8 fm
  have ok : okC (ss.reverse.map fun s : Nat => (s : Int)) := by
    refine ⟨fun x hx => ?_, by rw [List.length_map, List.length_reverse]; omega⟩
    obtain ⟨s, hs', rfl⟩ := List.mem_map.1 hx
    have := h3 s (List.mem_reverse.1 hs')
    omega
  have e := spec_kept_ev (w : Int) (h : Int) c d (m : Int) hc hd _ ok h1
  have eG : G (ss.reverse.map fun s : Nat => (s : Int)) (ss.reverse.map fun s : Nat => (s : Int)).length c d = ((fixN w h c d m : Nat) : Int) := by
    unfold G
    rw [List.take_length, fold_cols ss h2]
    show ((cols ss c d).length : Int) = _
    rw [← h4]
    rfl
  rw [eG] at e
  exact e
theorem fixN_le {w h : Nat} (hs : Sz w h) (c d m : Nat) : fixN w h c d m ≤ 150094635296999121 :=
  Nat.le_trans (List.length_filter_le ..) (cols36 _ (by rw [List.length_replicate]; exact hs.m) c d)
theorem sumK_cons (kp : Nat → Int) (m : Nat) (l : List Nat) (a : Int) : sumK kp (m :: l) a = sumK kp l (wrap64 (a + kp m)) := by
  unfold sumK
  rw [List.foldl_cons]
theorem sumK_nil (kp : Nat → Int) (a : Int) : sumK kp [] a = a := by
  unfold sumK
  rw [List.foldl_nil]
theorem sumK_eq (F : Nat → Nat) : ∀ (l : List Nat) (a : Nat), a + (l.map F).sum < 9000000000000000000 → sumK (fun m => ((F m : Nat) : Int)) l (a : Int) = ((a + (l.map F).sum : Nat) : Int) := by
  intro l
  induction l with
  | nil => intro a _; rw [sumK_nil, List.map_nil, List.sum_nil, Nat.add_zero]
  | cons m l ih =>
    intro a h0
    rw [List.map_cons, List.sum_cons] at h0 ⊢
    have e : wrap64 ((a : Int) + ((F m : Nat) : Int)) = ((a + F m : Nat) : Int) := wbig (by omega) (by omega)
    rw [sumK_cons, e, ih _ (by omega), Nat.add_assoc]
theorem classes_ev {w h c d N : Nat} (hs : Sz w h) (hc : c ≤ 36) (hd : d ≤ 36) (hN : N ≤ 150094635296999121) (hB : ((ms w h).map (fixN w h c d)).sum = (ms w h).length * N) : Ev (fun k => spec_cnClasses.f k (w : Int) (h : Int) (c : Int) (d : Int)) (N : Int) := by
  have e8 : List.range' 0 8 = List.range 8 := rfl
  have hlen : (ms w h).length ≠ 0 := fun e => by
    have := ms_zero w h
    rw [List.length_eq_zero_iff.1 e] at this
    cases this
  have hl8 : (ms w h).length ≤ 8 := by
    unfold ms
    exact Nat.le_trans (List.length_filter_le ..) (by rw [List.length_range]; exact Nat.le_refl _)
  have em : ((List.range' 0 8).filter (fitsN w h)) = ms w h := by rw [e8]; rfl
  have s := spec_sum w h c d (fun m => ((fixN w h c d m : Nat) : Int)) (fun m h1 h2 => kept_ev hs hc hd (ms_mem.2 ⟨h1, h2⟩)) (N : Int) 8 0 rfl 0 0 (Nat.le_refl _) (by rw [em, Nat.zero_add]; exact hlen) (by
    have hs8 : ((ms w h).map (fixN w h c d)).sum ≤ 8 * 150094635296999121 := by rw [hB]; exact Nat.mul_le_mul hl8 hN
    rw [em, Nat.zero_add, show (0 : Int) = ((0 : Nat) : Int) from rfl, sumK_eq (fixN w h c d) _ 0 (by omega), Nat.zero_add, hB]
    rw [Int.natCast_mul, Int.mul_tdiv_cancel_left _ (by omega)]
    exact (wbig (by omega) rfl).symm)
  exact Ev.congr (g := _) (r := _) (fun k => by rw [spec_cnClasses.f]; rfl) s
-- the trays that are their own least
/-- The text, by cells as whole numbers. -/
def bts (l : List Int) : List UInt8 := l.map fun x => UInt8.ofNat x.toNat
def tx (w : Nat) (l : List Int) : ByteArray := T w (bts l)
theorem bts_len (l : List Int) : (bts l).length = l.length := List.length_map ..
theorem ints_bts {l : List Int} (h : ∀ x ∈ l, Gd x) : ints (bts l) = l := by
  unfold ints bts
  rw [List.map_map]
  conv => rhs; rw [← List.map_id l]
  refine List.map_congr_left fun x hx => ?_
  rcases h x hx with rfl | rfl | rfl <;> rfl
theorem app_lt {x y : List UInt8} : ∀ {r s : List UInt8}, r.length = s.length → (r < s ∨ (r = s ∧ x < y)) → r ++ x < s ++ y
  | [], [], _, h => by
    rcases h with h | h
    · exact absurd h (List.lt_irrefl _)
    · exact h.2
  | a :: r, b :: s, hl, h => by
    rw [List.cons_append, List.cons_append, List.cons_lt_cons_iff]
    rcases h with h | ⟨h1, h2⟩
    · rcases List.cons_lt_cons_iff.1 h with h | ⟨h1, h2⟩
      · exact .inl h
      · exact .inr ⟨h1, app_lt (by simpa using hl) (.inl h2)⟩
    · injection h1 with e1 e2
      exact .inr ⟨e1, app_lt (by simpa using hl) (.inr ⟨e2, h2⟩)⟩
theorem lt_app {x y : List UInt8} : ∀ {r s : List UInt8}, r.length = s.length → r ++ x < s ++ y → (r < s ∨ (r = s ∧ x < y))
  | [], [], _, h => .inr ⟨rfl, h⟩
  | a :: r, b :: s, hl, h => by
    rw [List.cons_append, List.cons_append, List.cons_lt_cons_iff] at h
    rcases h with h | ⟨h1, h2⟩
    · exact .inl (List.cons_lt_cons_iff.2 (.inl h))
    · rcases lt_app (by simpa using hl) h2 with h3 | ⟨h3, h4⟩
      · exact .inl (List.cons_lt_cons_iff.2 (.inr ⟨h1, h3⟩))
      · exact .inr ⟨by rw [h1, h3], h4⟩
theorem tl_lt {n : Nat} : ∀ {rs ss : List (List UInt8)}, rs.length = ss.length → (∀ q ∈ rs, q.length = n) → (∀ q ∈ ss, q.length = n) → rs.flatten < ss.flatten → tl rs < tl ss
  | [], [], _, _, _, h => absurd h (List.lt_irrefl _)
  | r :: rs, s :: ss, hl, hr, hs, h => by
    have l1 : r.length = s.length := by rw [hr r (List.mem_cons_self ..), hs s (List.mem_cons_self ..)]
    rw [tl_cons, tl_cons, List.cons_append, List.cons_append, List.cons_lt_cons_iff]
    refine .inr ⟨rfl, app_lt l1 ?_⟩
    rw [List.flatten_cons, List.flatten_cons] at h
    rcases lt_app l1 h with h1 | ⟨h1, h2⟩
    · exact .inl h1
    · exact .inr ⟨h1, tl_lt (by simpa using hl) (fun q hq => hr q (List.mem_cons_of_mem _ hq)) (fun q hq => hs q (List.mem_cons_of_mem _ hq)) h2⟩
theorem txt_lt {n : Nat} {rs ss : List (List UInt8)} (hl : rs.length = ss.length) (hr : ∀ q ∈ rs, q.length = n) (hs : ∀ q ∈ ss, q.length = n) (h : rs.flatten < ss.flatten) : txt rs < txt ss := by
  match rs, ss, hl, hr, hs, h with
  | [], [], _, _, _, h => exact absurd h (List.lt_irrefl _)
  | r :: rs, s :: ss, hl, hr, hs, h =>
    have l1 : r.length = s.length := by rw [hr r (List.mem_cons_self ..), hs s (List.mem_cons_self ..)]
    refine app_lt l1 ?_
    rw [List.flatten_cons, List.flatten_cons] at h
    rcases lt_app l1 h with h1 | ⟨h1, h2⟩
    · exact .inl h1
    · exact .inr ⟨h1, tl_lt (by simpa using hl) (fun q hq => hr q (List.mem_cons_of_mem _ hq)) (fun q hq => hs q (List.mem_cons_of_mem _ hq)) h2⟩
theorem bts_lt : ∀ {a b : List Int}, (∀ x ∈ a, Gd x) → (∀ x ∈ b, Gd x) → CM.Lx a b → bts a < bts b
  | [], _, _, _, h => nomatch h
  | _ :: _, [], _, _, h => nomatch h
  | x :: a, y :: b, ha, hb, h => by
    show (UInt8.ofNat x.toNat :: bts a) < (UInt8.ofNat y.toNat :: bts b)
    rw [List.cons_lt_cons_iff]
    rcases h with h | ⟨h1, h2⟩
    · left
      rcases ha x (List.mem_cons_self ..) with rfl | rfl | rfl <;> rcases hb y (List.mem_cons_self ..) with rfl | rfl | rfl <;> first | (exfalso; revert h; decide) | decide
    · exact .inr ⟨by rw [h1], bts_lt (fun z hz => ha z (List.mem_cons_of_mem _ hz)) (fun z hz => hb z (List.mem_cons_of_mem _ hz)) h2⟩
theorem tx_lt {w h : Nat} (hw : 0 < w) {a b : List Int} (la : a.length = w * h) (lb : b.length = w * h) (ha : ∀ x ∈ a, Gd x) (hb : ∀ x ∈ b, Gd x) (hx : CM.Lx a b) : (tx w a).data.toList < (tx w b).data.toList := by
  have la' : (bts a).length = w * h := by rw [bts_len]; exact la
  have lb' : (bts b).length = w * h := by rw [bts_len]; exact lb
  show txt (chunks w (bts a)) < txt (chunks w (bts b))
  refine txt_lt (n := w) (by rw [chunks_length hw la', chunks_length hw lb']) (chunks_each hw la') (chunks_each hw lb') ?_
  rw [cut_flatten hw la', cut_flatten hw lb']
  exact bts_lt ha hb hx
theorem Lx_tri : ∀ {a b : List Int}, a.length = b.length → CM.Lx a b ∨ a = b ∨ CM.Lx b a
  | [], [], _ => .inr (.inl rfl)
  | x :: a, y :: b, h => by
    rcases Int.lt_trichotomy x y with h1 | h1 | h1
    · exact .inl (.inl h1)
    · subst h1
      rcases Lx_tri (a := a) (b := b) (by simpa using h) with h2 | h2 | h2
      · exact .inl (.inr ⟨rfl, h2⟩)
      · exact .inr (.inl (by rw [h2]))
      · exact .inr (.inr (.inr ⟨rfl, h2⟩))
    · exact .inr (.inr (.inl h1))
theorem tx_inj {w h : Nat} (hw : 0 < w) {a b : List Int} (la : a.length = w * h) (lb : b.length = w * h) (ha : ∀ x ∈ a, Gd x) (hb : ∀ x ∈ b, Gd x) (e : tx w a = tx w b) : a = b := by
  rcases Lx_tri (a := a) (b := b) (by omega) with h1 | h1 | h1
  · have := tx_lt hw la lb ha hb h1
    rw [e] at this
    exact absurd this (List.lt_irrefl _)
  · exact h1
  · have := tx_lt hw lb la hb ha h1
    rw [e] at this
    exact absurd this (List.lt_irrefl _)
end CG
end Go.Proofs.YtoojemnocncafaaL
namespace Go.Proofs.YtoojemnocncafaaL
namespace CG
open Go.RowKit Go.Proofs.Ytoojemnocncafaa.Q Go.Proofs.YtoojemnocncafaaW.PrintWords Go.Proofs.YtoojemnocncafaaW.PrintLast Go.Proofs.YtoojemnocncafaaM Go.Proofs.YtoojemnocncafaaV
open CM (pk pk_len pk_at pk_pk pk_id ext_at cols Gd fact Lst)
/-- All trays that are asked for. -/
def TT (w h c d : Nat) : List (List Int) := cols (List.replicate (w * h) 1) c d
theorem TT_len {w h c d : Nat} {l : List Int} (hl : l ∈ TT w h c d) : l.length = w * h := ((CM.mem_ones _ _ _ _).1 hl).1
theorem TT_gd {w h c d : Nat} {l : List Int} (hl : l ∈ TT w h c d) : ∀ x ∈ l, Gd x := ((CM.mem_ones _ _ _ _).1 hl).2.1
/-- A tray's least text, as the reference looks for it. -/
def lsS (w h : Nat) (l : List Int) : ByteArray := LK.leastS (w * h) (tx w) (fitsN w h) (tpN w h) l 8
def mvf (w h : Nat) (m : Int) (l : List Int) : List Int := act w h m.toNat l
def lsI (w h : Nat) (l : List Int) : ByteArray := FL.leastI (tx w) (mvf w h) ((ms w h).map fun m : Nat => (m : Int)) l
def fT (w h : Nat) (l : List Int) (m : Nat) : List UInt8 := (tx w (act w h m l)).data.toList
theorem lst0 {w h : Nat} {l : List Int} (hl : l.length = w * h) : Lst [0] (fT w h l) (tx w l).data.toList := by
  have e : fT w h l 0 = (tx w l).data.toList := by unfold fT; rw [act_zero hl]
  refine ⟨⟨0, List.mem_singleton.2 rfl, e.symm⟩, fun m hm => ?_⟩
  rw [List.mem_singleton.1 hm, e]
  exact List.le_refl _
theorem lst_drop {w h : Nat} {f : Nat → List UInt8} {t : List UInt8} (h0 : Lst ([0] ++ ms w h) f t) : Lst (ms w h) f t := by
  obtain ⟨m, hm, e⟩ := h0.mem
  refine ⟨⟨m, ?_, e⟩, fun m hm => h0.le m (List.mem_append_right _ hm)⟩
  rcases List.mem_append.1 hm with h1 | h1
  · rw [List.mem_singleton.1 h1]; exact ms_zero w h
  · exact h1
theorem lsI_lst {w h : Nat} {l : List Int} (hl : l.length = w * h) : Lst (ms w h) (fT w h l) (lsI w h l).data.toList := by
  unfold lsI FL.leastI
  rw [List.foldl_map]
  have k := CM.fold_lst (f := fT w h l) (fun t m => Lib.minS t (tx w (mvf w h ((m : Nat) : Int) l))) (ms w h) (fun _ => true) (fun t m hm => by
    rw [CM.min_data]
    show (if (tx w (act w h ((m : Nat) : Int).toNat l)).data.toList < t.data.toList then _ else _) = _
    rw [Int.toNat_natCast]
    show (if fT w h l m < t.data.toList then fT w h l m else t.data.toList) = _
    by_cases c : fT w h l m < t.data.toList
    · rw [if_pos c, if_pos ⟨rfl, c⟩]
    · rw [if_neg c, if_neg (fun x => c x.2)]) [0] (tx w l) (lst0 hl)
  rw [List.filter_eq_self.2 (fun _ _ => rfl)] at k
  exact lst_drop k
theorem sc_eq {w h m : Nat} (hs : Sz w h) (h8 : m < 8) (hf : fitsN w h m = true) {l : List Int} (hl : l.length = w * h) : LK.scat (w * h) (tpN w h m) l (w * h) = act w h m l :=
  scat_eq (mv hs h8 hf) hl (LK.scat (w * h) (tpN w h m) l) rfl (fun i => LK.scat_succ _ _ _ i)
theorem lsS_lst {w h : Nat} (hs : Sz w h) {l : List Int} (hl : l.length = w * h) : Lst (ms w h) (fT w h l) (lsS w h l).data.toList := by
  unfold lsS LK.leastS
  have k := CM.fold_lst (f := fT w h l) (LK.stepS (w * h) (tx w) (fitsN w h) (tpN w h) l) (List.range 8) (fitsN w h) (fun t m hm => by
    have h8 := List.mem_range.1 hm
    unfold LK.stepS
    by_cases hf : fitsN w h m = true
    · rw [if_pos hf, sc_eq hs h8 hf hl]
      unfold LK.lessB
      rw [Proofs.bytesLess_eq, Lib.toList_data, Lib.toList_data]
      by_cases c : (tx w (act w h m l)).data.toList < t.data.toList
      · rw [if_pos (decide_eq_true c), if_pos (show fitsN w h m = true ∧ fT w h l m < t.data.toList from ⟨hf, c⟩)]
        rfl
      · rw [if_neg (fun x => c (of_decide_eq_true x)), if_neg (show ¬ (fitsN w h m = true ∧ fT w h l m < t.data.toList) from fun x => c x.2)]
    · rw [if_neg hf, if_neg (fun x => hf x.1)]) [0] (tx w l) (lst0 hl)
  exact lst_drop k
theorem data_inj {a b : ByteArray} (e : a.data.toList = b.data.toList) : a = b := ByteArray.ext (Array.toList_inj.1 e)
theorem ls_same {w h : Nat} (hs : Sz w h) {l : List Int} (hl : l.length = w * h) : lsI w h l = lsS w h l :=
  data_inj ((lsI_lst hl).same (lsS_lst hs hl))
theorem ls_act {w h m : Nat} (hs : Sz w h) (hm : m ∈ ms w h) {l : List Int} (hl : l.length = w * h) : lsS w h (act w h m l) = lsS w h l := by
  refine data_inj ((lsS_lst hs (act_len ..)).uniq (lsS_lst hs hl) (fun a ha => ⟨compN a m, comp_mem hs ha hm, ?_⟩) (fun b hb => ?_))
  · unfold fT
    rw [act_act hs ha hm]
  · obtain ⟨a, ha, e⟩ := cov_r _ (ms_in w h) m hm b hb
    refine ⟨a, ha, ?_⟩
    unfold fT
    rw [act_act hs ha hm, e]
def own (w h : Nat) (l : List Int) : Bool := decide (lsS w h l = tx w l)
theorem own_pt {w h c d : Nat} (hs : Sz w h) {l : List Int} (hT : l ∈ TT w h c d) : (∃ m ∈ ms w h, own w h (act w h m l) = true ∧ lsS w h l = tx w (act w h m l)) ∧ (ms w h).countP (fun m => decide (act w h m l = l)) = (ms w h).countP (fun m => own w h (act w h m l)) := by
  have hl := TT_len hT
  have hg : ∀ m ∈ ms w h, ∀ x ∈ act w h m l, Gd x := fun m hm => TT_gd (act_mem hs hm hT)
  obtain ⟨m0, hm0, e0⟩ := (lsS_lst hs hl).mem
  have e0 : lsS w h l = tx w (act w h m0 l) := data_inj e0
  have hown : ∀ m ∈ ms w h, (own w h (act w h m l) = true ↔ act w h m0 l = act w h m l) := by
    intro m hm
    unfold own
    rw [decide_eq_true_eq, ls_act hs hm hl, e0]
    exact ⟨fun e => tx_inj hs.w0 (act_len ..) (act_len ..) (hg m0 hm0) (hg m hm) e, fun e => by rw [e]⟩
  refine ⟨⟨m0, hm0, (hown m0 hm0).2 rfl, e0⟩, ?_⟩
  refine Eq.trans ?_ ((comp_perm hs hm0).countP_eq _)
  rw [List.countP_map]
  refine List.countP_congr fun m hm => ?_
  rw [decide_eq_true_eq]
  show _ ↔ own w h (act w h (compN m0 m) l) = true
  rw [hown _ (comp_mem hs hm0 hm), ← act_act hs hm0 hm]
  exact ⟨fun e => by rw [e], fun e => (act_inj hs hm0 hl (act_len ..) e).symm⟩
/-- The classes: the trays that are their own least. -/
def cls (w h c d : Nat) : List (List Int) := (TT w h c d).filter (own w h)
theorem fix_sum {w h : Nat} (hs : Sz w h) (c d : Nat) : ((ms w h).map (fixN w h c d)).sum = (ms w h).length * (cls w h c d).length :=
  CM.burnside (TT w h c d) (CM.cols_nodup ..) (ms w h) (act w h) (own w h) (fun m hm l hl => act_mem hs hm hl)
    (fun m hm l hl l' hl' e => act_inj hs hm (TT_len hl) (TT_len hl') e) (fun l hl => (own_pt hs hl).2)
-- the lists
theorem found_eq (leaf : List Int → List ByteArray) : ∀ (n : Nat) (l : List Int) (a b : Nat), LK.found leaf n l a b = (cols (List.replicate n 1) a b).flatMap fun c => leaf (l ++ c)
  | 0, l, a, b => by
    show (if a + b = 0 then leaf l else []) = (if a + b = 0 then [[]] else []).flatMap fun c => leaf (l ++ c)
    by_cases e : a + b = 0
    · rw [if_pos e, if_pos e]
      simp
    · rw [if_neg e, if_neg e]
      rfl
  | n + 1, l, a, b => by
    have hz : ∀ (z : Int) (L : List (List Int)), (L.map (z :: ·)).flatMap (fun c => leaf (l ++ c)) = L.flatMap fun c => leaf ((l ++ [z]) ++ c) := by
      intro z L
      rw [List.flatMap_map]
      congr 1
      funext c
      rw [List.append_assoc]
      rfl
    by_cases e : n + 1 < a + b
    · rw [CM.ones_none (n + 1) a b e]
      show (if n + 1 < a + b then [] else _) = _
      rw [if_pos e]
      rfl
    · show (if n + 1 < a + b then [] else _) = _
      rw [if_neg e, List.replicate_succ]
      conv => rhs; unfold cols
      rw [List.flatMap_append, List.flatMap_append, hz, found_eq leaf n (l ++ [46])]
      congr 1
      · by_cases c : 0 < a
        · rw [if_pos c, if_pos (show 1 ≤ a from c), hz, found_eq leaf n (l ++ [35])]
        · rw [if_neg c, if_neg (show ¬ 1 ≤ a from c)]
          rfl
      · congr 1
        by_cases c : 0 < b
        · rw [if_pos c, if_pos (show 1 ≤ b from c), hz, found_eq leaf n (l ++ [111])]
        · rw [if_neg c, if_neg (show ¬ 1 ≤ b from c)]
          rfl
theorem leaves_perm (least : List Int → ByteArray) : ∀ (n : Nat) (l : List Int) (a b : Nat), a + b ≤ n → (FL.leaves least n l a b).Perm ((cols (List.replicate n 1) a b).map fun c => least (l ++ c))
  | 0, l, a, b, h => by
    show [least l].Perm ((if a + b = 0 then [[]] else []).map fun c => least (l ++ c))
    rw [if_pos (by omega), List.map_singleton, List.append_nil]
  | n + 1, l, a, b, h => by
    have hz : ∀ (z : Int) (L : List (List Int)), (L.map (z :: ·)).map (fun c => least (l ++ c)) = L.map fun c => least ((l ++ [z]) ++ c) := by
      intro z L
      rw [List.map_map]
      refine List.map_congr_left fun c _ => ?_
      show least (l ++ z :: c) = _
      rw [List.append_assoc]
      rfl
    rw [List.replicate_succ]
    unfold FL.leaves cols
    rw [List.map_append, List.map_append, hz]
    refine List.Perm.append ?_ (List.perm_append_comm.trans (List.Perm.append ?_ ?_))
    · by_cases c : 0 < a
      · rw [if_pos c, if_pos (show 1 ≤ a from c), hz]
        exact leaves_perm least n _ _ _ (by omega)
      · rw [if_neg c, if_neg (show ¬ 1 ≤ a from c)]
        exact .refl _
    · by_cases c : a + b < n + 1
      · rw [if_pos c]
        exact leaves_perm least n _ _ _ (by omega)
      · rw [if_neg c, CM.ones_none n a b (by omega)]
        exact .refl _
    · by_cases c : 0 < b
      · rw [if_pos c, if_pos (show 1 ≤ b from c), hz]
        exact leaves_perm least n _ _ _ (by omega)
      · rw [if_neg c, if_neg (show ¬ 1 ≤ b from c)]
        exact .refl _
/-- The reference's list. -/
theorem list_S {w h c d : Nat} : LK.found (LK.leafF (w * h) (tx w) (fitsN w h) (tpN w h)) (w * h) [] c d = (cls w h c d).map (tx w) := by
  rw [found_eq]
  show ((TT w h c d).flatMap fun l => LK.leafF (w * h) (tx w) (fitsN w h) (tpN w h) ([] ++ l)) = ((TT w h c d).filter (own w h)).map (tx w)
  generalize TT w h c d = T
  induction T with
  | nil => rfl
  | cons l T ih =>
    rw [List.flatMap_cons, ih, List.filter_cons, List.nil_append]
    unfold LK.leafF own lsS
    by_cases e : LK.leastS (w * h) (tx w) (fitsN w h) (tpN w h) l 8 = tx w l
    · rw [if_pos e, decide_eq_true e, if_pos rfl, List.map_cons, e]
      rfl
    · rw [if_neg e, decide_eq_false e, if_neg Bool.false_ne_true]
      rfl
theorem list_I {w h c d : Nat} (hs : Sz w h) (hcd : c + d ≤ w * h) : FL.sortedT (FL.leaves (lsI w h) (w * h) [] c d) = ((cls w h c d).map (tx w)).map fun t => t.data.toList := by
  have hp := leaves_perm (lsI w h) (w * h) [] c d hcd
  refine CM.sorted_eq _ _ ?_ fun t => ?_
  · refine List.pairwise_map.2 (List.pairwise_map.2 (List.Pairwise.imp_of_mem ?_ ((CM.cols_lx _ _ _).filter _)))
    intro a b ha hb hx
    have ha := (List.mem_filter.1 ha).1
    have hb := (List.mem_filter.1 hb).1
    exact tx_lt hs.w0 (TT_len (c := c) (d := d) ha) (TT_len (c := c) (d := d) hb) (TT_gd (c := c) (d := d) ha) (TT_gd (c := c) (d := d) hb) hx
  · have hm : t ∈ (FL.leaves (lsI w h) (w * h) [] c d).map (fun t => t.data.toList) ↔ ∃ l ∈ TT w h c d, (lsS w h l).data.toList = t := by
      rw [List.mem_map]
      constructor
      · rintro ⟨u, hu, rfl⟩
        obtain ⟨l, hl, rfl⟩ := List.mem_map.1 (hp.mem_iff.1 hu)
        have hl : l ∈ TT w h c d := hl
        exact ⟨l, hl, by rw [List.nil_append, ls_same hs (TT_len hl)]⟩
      · rintro ⟨l, hl, rfl⟩
        refine ⟨lsI w h l, hp.mem_iff.2 (List.mem_map.2 ⟨l, hl, rfl⟩), by rw [ls_same hs (TT_len hl)]⟩
    rw [hm, List.mem_map]
    constructor
    · rintro ⟨u, hu, rfl⟩
      obtain ⟨l, hl, rfl⟩ := List.mem_map.1 hu
      obtain ⟨h1, h2⟩ := List.mem_filter.1 hl
      exact ⟨l, h1, by rw [of_decide_eq_true h2]⟩
    · rintro ⟨l, hl, rfl⟩
      obtain ⟨⟨m, hm, h1, h2⟩, _⟩ := own_pt hs hl
      exact ⟨_, List.mem_map.2 ⟨act w h m l, List.mem_filter.2 ⟨act_mem hs hm hl, h1⟩, rfl⟩, by rw [h2]⟩
theorem leaves_len {w h c d : Nat} (hcd : c + d ≤ w * h) : (FL.leaves (lsI w h) (w * h) [] c d).length = (TT w h c d).length := by
  rw [(leaves_perm (lsI w h) (w * h) [] c d hcd).length_eq, List.length_map]
  rfl
theorem cls_le (w h c d : Nat) : (cls w h c d).length ≤ (TT w h c d).length := List.length_filter_le ..
end CG
end Go.Proofs.YtoojemnocncafaaL
namespace Go.Proofs.YtoojemnocncafaaL
namespace CG
open Go.RowKit Go.Proofs.Ytoojemnocncafaa.Q Go.Proofs.YtoojemnocncafaaW.PrintWords Go.Proofs.YtoojemnocncafaaW.PrintLast Go.Proofs.YtoojemnocncafaaM Go.Proofs.YtoojemnocncafaaV
open CM (pk pk_len pk_at pk_pk pk_id ext_at cols Gd fact)
theorem srcI_lt : ∀ (k : Nat) {w h : Nat}, w ≤ 7 → h ≤ 7 → w * h ≤ 36 → ∀ p, p < w * h → srcI k w h p < w * h
  | 0, _, _, _, _, _, p, hp => hp
  | k + 1, w, h, hw, hh, hm, p, hp => by
    have h1 := srcI_lt k hh hw (by rw [Nat.mul_comm]; exact hm) p (by rw [Nat.mul_comm]; exact hp)
    rw [Nat.mul_comm] at h1
    exact (src_lt ⟨w, by omega⟩ ⟨h, by omega⟩ ⟨srcI k h w p, by omega⟩ h1).1
theorem itG_cs : ∀ (k : Nat) {g : Gr}, GOk g → (itG k g).cs = pick (g.w * g.h) (srcI k g.w g.h) g.cs
  | 0, g, hg => (pick_id hg.len fun p _ => rfl).symm
  | k + 1, g, hg => by
    show (itG k (tG g)).cs = _
    rw [itG_cs k (tG_ok hg)]
    show pick (g.h * g.w) (srcI k g.h g.w) (turnG g.w g.h g.cs).flatten = _
    rw [turn_pick hg.w7 hg.h7 hg.m, Nat.mul_comm g.h, pick_pick]
    · rfl
    · intro p hp
      have := srcI_lt k hg.h7 hg.w7 (by rw [Nat.mul_comm]; exact hg.m) p (by rw [Nat.mul_comm]; exact hp)
      rw [Nat.mul_comm] at this
      exact this
theorem itG_dim : ∀ (k : Nat) (g : Gr), (k % 2 = 0 → (itG k g).w = g.w ∧ (itG k g).h = g.h) ∧ (k % 2 = 1 → (itG k g).w = g.h ∧ (itG k g).h = g.w)
  | 0, g => ⟨fun _ => ⟨rfl, rfl⟩, fun h => absurd h (by decide)⟩
  | k + 1, g => by
    obtain ⟨h1, h2⟩ := itG_dim k (tG g)
    exact ⟨fun h => h2 (by omega), fun h => h1 (by omega)⟩
theorem mir_pick {w h : Nat} (hw : 0 < w) (cs : List UInt8) : (mirG w h cs).flatten = pick (w * h) (srcM w) cs := by
  apply List.ext_getElem?
  intro j
  by_cases hj : j < w * h
  · have d1 : j / w < h := Nat.div_lt_of_lt_mul hj
    have d2 : j % w < w := Nat.mod_lt _ hw
    have e : j = (j / w) * w + j % w := by rw [Nat.mul_comm]; exact (Nat.div_add_mod j w).symm
    conv => lhs; rw [e]
    rw [mir_at w h cs d1 d2]
    unfold pick
    rw [List.getElem?_map, List.getElem?_range hj]
    rfl
  · rw [List.getElem?_eq_none (by rw [mirG_flat]; omega), List.getElem?_eq_none (by unfold pick; rw [List.length_map, List.length_range]; omega)]
theorem mvG_cs {m : Nat} {g : Gr} (hg : GOk g) : (mvG m g).cs = pick (g.w * g.h) (src g.w g.h m) g.cs := by
  unfold mvG
  by_cases h4 : 4 ≤ m
  · rw [if_pos h4, itG_cs _ (mG_ok hg)]
    show pick (g.w * g.h) (srcI (m % 4) g.w g.h) (mirG g.w g.h g.cs).flatten = _
    rw [mir_pick hg.w0, pick_pick (srcI_lt _ hg.w7 hg.h7 hg.m)]
    congr 1
    funext p
    unfold src
    rw [if_pos h4]
  · rw [if_neg h4, itG_cs _ hg]
    congr 1
    funext p
    unfold src
    rw [if_neg h4]
theorem mvG_dim {m : Nat} {g : Gr} (hf : fitsN g.w g.h m = true) : (mvG m g).w = g.w ∧ (mvG m g).h = g.h := by
  unfold mvG
  have key : ∀ x : Gr, x.w = g.w → x.h = g.h → (itG (m % 4) x).w = g.w ∧ (itG (m % 4) x).h = g.h := by
    intro x hx1 hx2
    obtain ⟨h1, h2⟩ := itG_dim (m % 4) x
    unfold fitsN at hf
    rw [Bool.or_eq_true, decide_eq_true_eq, decide_eq_true_eq] at hf
    by_cases e : m % 4 % 2 = 0
    · have := h1 e
      omega
    · have := h2 (by omega)
      omega
  split
  · exact key _ rfl rfl
  · exact key _ rfl rfl
theorem pick_ints {n : Nat} {f : Nat → Nat} {cs : List UInt8} (hf : ∀ p, p < n → f p < cs.length) : ints (pick n f cs) = pk n f (ints cs) := by
  unfold ints pick pk
  rw [List.map_map]
  refine List.map_congr_left fun p hp => ?_
  have h1 := hf p (List.mem_range.1 hp)
  show ((cs.getD (f p) 0).toNat : Int) = _
  rw [List.getD_eq_getElem?_getD, List.getD_eq_getElem?_getD, List.getElem?_map, List.getElem?_eq_getElem h1]
  rfl
def gr (w h : Nat) (l : List Int) : Gr := ⟨w, h, bts l⟩
theorem gr_ok {w h : Nat} (hs : Sz w h) {l : List Int} (hl : l.length = w * h) : GOk (gr w h l) := ⟨by rw [show (gr w h l).cs = bts l from rfl, bts_len]; exact hl, hs.w0, hs.h0, hs.w7, hs.h7, hs.m⟩
theorem moved_act {w h m : Nat} (hs : Sz w h) (hm : m ∈ ms w h) {l : List Int} (hl : l.length = w * h) (hg : ∀ x ∈ l, Gd x) : Ev (fun k => impl_tray_moved.f k (w : Int) (h : Int) l (m : Int)) ((w : Int), (h : Int), act w h m l) := by
  obtain ⟨m8, fm⟩ := ms_mem.1 hm
  have hok := gr_ok hs hl
  have e := moved_ev hok m
  obtain ⟨d1, d2⟩ := mvG_dim (m := m) (g := gr w h l) fm
  rw [d1, d2, mvG_cs hok, pick_ints (fun p hp => by
    have := (mv hs m8 fm).s1 p hp
    show src w h m p < (bts l).length
    rw [bts_len]
    omega)] at e
  show Ev (fun k => impl_tray_moved.f k (w : Int) (h : Int) l (m : Int)) ((w : Int), (h : Int), pk (w * h) (src w h m) l)
  have e2 : ints (gr w h l).cs = l := ints_bts hg
  rw [e2] at e
  exact e
theorem text_I {w h : Nat} (hs : Sz w h) {l : List Int} (hl : l.length = w * h) (hg : ∀ x ∈ l, Gd x) (a : Int) : impl_tray_text.f (w : Int) a l = some (tx w l) := by
  have e := gText (gr_ok hs hl) a
  rw [show ints (gr w h l).cs = l from ints_bts hg] at e
  exact e
theorem text_S {w h : Nat} (hs : Sz w h) {l : List Int} (hl : l.length = w * h) (hg : ∀ x ∈ l, Gd x) : Ev (fun k => spec_tyText.f k (w : Int) (h : Int) l) (tx w l) := by
  have e := gTextS (gr_ok hs hl)
  rw [show ints (gr w h l).cs = l from ints_bts hg] at e
  exact e
theorem empty_S {w h : Nat} (hs : Sz w h) : Ev (fun k => spec_tyEmpty.f k (w : Int) (h : Int)) ((w : Int), (h : Int), List.replicate (w * h) 46) := by
  have hm := hs.m
  have ew : wrap64 ((w : Int) * (h : Int)) = ((w * h : Nat) : Int) := wm (n := w * h) (by omega) (Int.natCast_mul _ _).symm
  have key : ∀ (d i : Nat), w * h - i = d → i ≤ w * h → Ev (fun k => spec_tyEmpty.l0 k (w : Int) (h : Int) (i : Int) (w : Int) (h : Int) (List.replicate i 46)) ((w : Int), (h : Int), List.replicate (w * h) 46) := by
    intro d
    induction d with
    | zero =>
      intro i hd hi
      have e : i = w * h := by omega
      subst e
      refine Ev.step (f := fun _ => some ((w : Int), (h : Int), List.replicate (w * h) 46)) (fun k => ?_) (Ev.now _)
      rw [spec_tyEmpty.l0, ew, if_neg (by omega)]
    | succ d ih =>
      intro i hd hi
      have hI := ih (i + 1) (by omega) (by omega)
      have e1 : wrap64 ((i : Int) + 1) = ((i + 1 : Nat) : Int) := wm (n := i + 1) (by omega) rfl
      refine Ev.step (f := fun k => spec_tyEmpty.l0 k (w : Int) (h : Int) ((i + 1 : Nat) : Int) (w : Int) (h : Int) (List.replicate (i + 1) 46)) (fun k => ?_) hI
      rw [spec_tyEmpty.l0, ew, if_pos (by omega), if_pos (by rw [List.length_replicate]; omega), e1, List.replicate_succ']
  exact Ev.congr (g := _) (r := _) (fun k => rfl) (key (w * h) 0 rfl (Nat.zero_le _))
theorem tx_size {w h : Nat} (hs : Sz w h) {l : List Int} (hl : l.length = w * h) : (tx w l).size ≤ 1000 := by
  have hb : (bts l).length = w * h := by rw [bts_len]; exact hl
  unfold tx T
  rw [size_mk]
  have h1 := txt_length (chunks_each hs.w0 hb)
  rw [chunks_length hs.w0 hb] at h1
  have h2 : h * (w + 1) ≤ 7 * 8 := Nat.mul_le_mul hs.h7 (by have := hs.w7; omega)
  omega
def Good (l : List Int) : Prop := ∀ x ∈ l, Gd x
theorem good_snoc (l : List Int) (b : Int) (hb : b = 35 ∨ b = 111 ∨ b = 46) (h : Good l) : Good (l ++ [b]) := by
  intro x hx
  rcases List.mem_append.1 hx with hx | hx
  · exact h x hx
  · rw [List.mem_singleton.1 hx]
    rcases hb with rfl | rfl | rfl
    · exact .inl rfl
    · exact .inr (.inr rfl)
    · exact .inr (.inl rfl)
theorem good_act {w h m : Nat} (hs : Sz w h) (hm : m ∈ ms w h) {l : List Int} (hl : l.length = w * h) (hg : Good l) : Good (act w h m l) := by
  obtain ⟨m8, fm⟩ := ms_mem.1 hm
  exact CM.pk_gd hl (mv hs m8 fm).s1 hg
theorem con_I {w h : Nat} (hs : Sz w h) (bw bh bm bo bf : Nat) (Vm : Value) : FL.Con ⟨bw, bh, bm, bo, bf, (w : Int), (h : Int), Vm, (ms w h).map fun m : Nat => (m : Int)⟩ (w * h) (tx w) (mvf w h) Good where
  text := fun l A c W hl hg hr hc => impl_tray_text.calls _ _ A c l _ W hr hc (text_I hs hl hg _)
  move := fun l m P A c W hl hg hm hV => by
    obtain ⟨m', hm', rfl⟩ := List.mem_map.1 hm
    obtain ⟨k, hk⟩ := (moved_act hs hm' hl hg).rounds
    have e : mvf w h ((m' : Nat) : Int) l = act w h m' l := by unfold mvf; rw [Int.toNat_natCast]
    rw [e]
    exact impl_tray_moved.calls k _ _ P A c l _ _ _ _ W hV hk
  good := fun l m hl hg hm => by
    obtain ⟨m', hm', rfl⟩ := List.mem_map.1 hm
    have e : mvf w h ((m' : Nat) : Int) l = act w h m' l := by unfold mvf; rw [Int.toNat_natCast]
    rw [e]
    exact ⟨act_len .., good_act hs hm' hl hg⟩
  clone := fun l A c W hl hr hc => slices_Clone_byte_byte.calls A c l l W hr hc (by unfold slices_Clone_byte_byte.f; rw [if_pos (by have := hs.m; omega)])
  size := (Int.natCast_mul _ _).symm
  small := hs.m
  mlen := by
    show ((ms w h).map _).length ≤ 8
    rw [List.length_map]
    unfold ms
    exact Nat.le_trans (List.length_filter_le ..) (by rw [List.length_range]; exact Nat.le_refl _)
  snoc := good_snoc
  tsize := fun l hl _ => tx_size hs hl
theorem con_S {w h : Nat} (hs : Sz w h) : LK.Con (w * h) (w : Int) (h : Int) (tx w) (fitsN w h) (tpN w h) Good where
  text := fun l A c W hl hg hr hc => by
    obtain ⟨k, hk⟩ := (text_S hs hl hg).rounds
    exact spec_tyText.calls k _ _ A c l _ W hr hc hk
  fits := fun m W h8 => (spec_cnFits.calls _ _ _ _ W (fits_eq w h m h8)).mono fun e w' hh => ⟨hh.1, hh.2.below⟩
  empty := fun W => by
    obtain ⟨k, hk⟩ := (empty_S hs).rounds
    exact spec_tyEmpty.calls k _ _ _ _ _ W hk
  into := fun m i W h8 hf hi => by
    obtain ⟨k, hk⟩ := ((mv hs h8 hf).t0 i hi).rounds
    exact (spec_cnTo.calls k _ _ _ _ _ W hk).mono fun e w' hh => ⟨hh.1, hh.2.below⟩
  lt := fun m i h8 hf hi => (mv hs h8 hf).t1 i hi
  good := fun m l h8 hf hl hg => by
    rw [sc_eq hs h8 hf hl]
    exact good_act hs (ms_mem.2 ⟨h8, hf⟩) hl hg
  size := (Int.natCast_mul _ _).symm
  small := hs.m
  pos := Nat.mul_pos hs.w0 hs.h0
  snoc := good_snoc
end CG
end Go.Proofs.YtoojemnocncafaaL
