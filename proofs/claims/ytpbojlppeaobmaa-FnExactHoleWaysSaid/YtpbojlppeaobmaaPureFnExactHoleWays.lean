/- The program's HoleWays returns what the reference's returns: for every board the law FnExactHoleWays returns true. -/
import Derived.Test.YtpbojlppeaobmaaLBoard
import Derived.Test.YtpbojlppeaobmaaLHole
import Derived.Test.YtpbojlppeaobmaaQx4
import Derived.Test.YtpbojlppeaobmaaQx7
import Derived.Test.YtpbojlppeaobmaaQx6
import Derived.Test.YtpbojlppeaobmaaQx5
import Derived.Test.YtpbojlppeaobmaaQx8
set_option linter.unusedVariables false
set_option linter.unusedSimpArgs false
namespace Go.Proofs.Ytpbojlppeaobmaa.Pure
open Go.RowKit Go.Proofs.Ytpbojlppeaobmaa.Q Go.Proofs.YtpbojlppeaobmaaW.PrintWords Go.Proofs.YtpbojlppeaobmaaW.PrintLast Go.Proofs.YtpbojlppeaobmaaV Go.Proofs.YtpbojlppeaobmaaL

def inS (x lo hi : Int) : Bool := decide (lo ≤ x) && decide (x ≤ hi)
theorem l1In_eq (x lo hi : Int) : spec_l1In.f x lo hi = some (inS x lo hi) := by
  rw [spec_l1In.f]
  unfold inS
  by_cases h : lo ≤ x
  · rw [if_pos h, decide_eq_true h, Bool.true_and]
  · rw [if_neg h, decide_eq_false h, Bool.false_and]
def jS (x y w n : Int) : Int := if inS x 0 (wrap64 (w - 1)) = true then (if inS y 0 (wrap64 ((wrap64 (n / w)) - 1)) = true then wrap64 ((wrap64 (y * w)) + x) else -1) else -1
def aS (w n h d : Int) : Int := if d = 0 then jS (Int.tmod h w) (wrap64 ((wrap64 (Int.tdiv h w)) - 1)) w n else (if d = 1 then jS (wrap64 ((Int.tmod h w) + 1)) (wrap64 (Int.tdiv h w)) w n else (if d = 2 then jS (Int.tmod h w) (wrap64 ((wrap64 (Int.tdiv h w)) + 1)) w n else jS (wrap64 ((Int.tmod h w) - 1)) (wrap64 (Int.tdiv h w)) w n))
theorem j0_eq (w : Int) (l : List Int) (hw : ¬ w = 0) (x y : Int) : Ev (fun k => spec_blAhead.j0 k x y w l) (jS x y w (l.length : Int)) := by
  refine Ev.step (f := fun _ => some (jS x y w (l.length : Int))) (fun k => ?_) (Ev.now _)
  rw [spec_blAhead.j0, l1In_eq, Option.bind_some]
  unfold jS
  cases h1 : inS x 0 (wrap64 (w - 1)) with
  | false => rfl
  | true =>
    rw [if_pos rfl, if_pos rfl, if_neg hw, l1In_eq, Option.bind_some]
    cases h2 : inS y 0 (wrap64 ((wrap64 ((l.length : Int) / w)) - 1)) with
    | false => rfl
    | true => rw [if_pos rfl, if_pos rfl]
theorem ahead_eq (w : Int) (l : List Int) (hl : l.length ≤ 1048576) (hw : ¬ w = 0) (d : Int) : Ev (fun k => spec_blAhead.f k w l d) (aS w (l.length : Int) (zf l 0) d) := by
  refine Ev.congr (fun k => rfl) (Ev.bind (blHole_eq w l hl) ?_)
  unfold aS
  by_cases h0 : d = 0
  · rw [if_pos h0]
    exact Ev.congr (fun k => by rw [if_neg hw, if_pos h0]) (j0_eq w l hw _ _)
  · rw [if_neg h0]
    by_cases h1 : d = 1
    · rw [if_pos h1]
      exact Ev.congr (fun k => by rw [if_neg hw, if_neg h0, if_pos h1]) (j0_eq w l hw _ _)
    · rw [if_neg h1]
      by_cases h2 : d = 2
      · rw [if_pos h2]
        exact Ev.congr (fun k => by rw [if_neg hw, if_neg h0, if_neg h1, if_pos h2]) (j0_eq w l hw _ _)
      · rw [if_neg h2]
        exact Ev.congr (fun k => by rw [if_neg hw, if_neg h0, if_neg h1, if_neg h2]) (j0_eq w l hw _ _)
def t2 (w h x c : Int) (b : Bool) : Int := if b = true then wrap64 (h + w) else (if c = 108 then (if x > 0 then wrap64 (h - 1) else -1) else -1)
def t1 (w n h x y c : Int) (b : Bool) : Int := if b = true then wrap64 (h + 1) else (if c = 100 then t2 w h x c (decide (y < wrap64 ((wrap64 (n / w)) - 1))) else t2 w h x c false)
def t0 (w n h x y c : Int) (b : Bool) : Int := if b = true then wrap64 (h - w) else (if c = 114 then t1 w n h x y c (decide (x < wrap64 (w - 1))) else t1 w n h x y c false)
def aI (w n h c : Int) : Int := if c = 117 then t0 w n h (Int.tmod h w) (wrap64 (Int.tdiv h w)) c (decide (wrap64 (Int.tdiv h w) > 0)) else t0 w n h (Int.tmod h w) (wrap64 (Int.tdiv h w)) c false
theorem t2_eq (w : Int) (l : List Int) (h x c : Int) (b : Bool) : Ev (fun k => impl_Board_target.j2 k c h x b w l) (t2 w h x c b) := by
  refine Ev.step (f := fun _ => some (t2 w h x c b)) (fun k => ?_) (Ev.now _)
  rw [impl_Board_target.j2]
  unfold t2
  by_cases h1 : b = true
  · rw [if_pos h1, if_pos h1]
  · rw [if_neg h1, if_neg h1]
    by_cases h2 : c = 108
    · rw [if_pos h2, if_pos h2]
      by_cases h3 : x > 0
      · rw [if_pos h3, if_pos h3]
      · rw [if_neg h3, if_neg h3]
    · rw [if_neg h2, if_neg h2]
theorem t1_eq (w : Int) (l : List Int) (hw : ¬ w = 0) (h x y c : Int) (b : Bool) : Ev (fun k => impl_Board_target.j1 k c h x y b w l) (t1 w (l.length : Int) h x y c b) := by
  have hh : impl_Board_high.f w l = some (wrap64 ((l.length : Int) / w)) := by rw [impl_Board_high.f, if_neg hw]
  unfold t1
  by_cases h1 : b = true
  · rw [if_pos h1]
    exact Ev.step (f := fun _ => some (wrap64 (h + 1))) (fun k => by rw [impl_Board_target.j1, if_pos h1]) (Ev.now _)
  · rw [if_neg h1]
    by_cases h2 : c = 100
    · rw [if_pos h2]
      exact Ev.step (fun k => by rw [impl_Board_target.j1, if_neg h1, if_pos h2, hh, Option.bind_some]) (t2_eq w l h x c _)
    · rw [if_neg h2]
      exact Ev.step (fun k => by rw [impl_Board_target.j1, if_neg h1, if_neg h2]) (t2_eq w l h x c _)
theorem t0_eq (w : Int) (l : List Int) (hw : ¬ w = 0) (h x y c : Int) (b : Bool) : Ev (fun k => impl_Board_target.j0 k c h x y b w l) (t0 w (l.length : Int) h x y c b) := by
  unfold t0
  by_cases h1 : b = true
  · rw [if_pos h1]
    exact Ev.step (f := fun _ => some (wrap64 (h - w))) (fun k => by rw [impl_Board_target.j0, if_pos h1]) (Ev.now _)
  · rw [if_neg h1]
    by_cases h2 : c = 114
    · rw [if_pos h2]
      exact Ev.step (fun k => by rw [impl_Board_target.j0, if_neg h1, if_pos h2]) (t1_eq w l hw h x y c _)
    · rw [if_neg h2]
      exact Ev.step (fun k => by rw [impl_Board_target.j0, if_neg h1, if_neg h2]) (t1_eq w l hw h x y c _)
theorem target_eq (w : Int) (l : List Int) (hl : l.length ≤ 1048576) (hw : ¬ w = 0) (c : Int) : Ev (fun k => impl_Board_target.f k w l c) (aI w (l.length : Int) (zf l 0) c) := by
  refine Ev.congr (fun k => rfl) (Ev.bind (hole_eq w l hl) ?_)
  unfold aI
  by_cases h0 : c = 117
  · rw [if_pos h0]
    exact Ev.congr (fun k => by rw [if_neg hw, if_pos h0]) (t0_eq w l hw _ _ _ _ _)
  · rw [if_neg h0]
    exact Ev.congr (fun k => by rw [if_neg hw, if_neg h0]) (t0_eq w l hw _ _ _ _ _)
def dirC (d : Nat) : Int := if d = 0 then 117 else (if d = 1 then 114 else (if d = 2 then 100 else 108))
theorem same_all : ((List.range 4).all fun (W : Nat) => (List.range 4).all fun (H : Nat) => (List.range (W * H)).all fun (i : Nat) => (List.range 4).all fun (d : Nat) => decide (aS (W : Int) ((W * H : Nat) : Int) (i : Int) (d : Int) ≥ 0) == decide (aI (W : Int) ((W * H : Nat) : Int) (i : Int) (dirC d) ≥ 0)) = true := by decide +kernel
theorem same_ways (W : Nat) (hW : W < 4) (H : Nat) (hH : H < 4) (i : Nat) (hi : i < W * H) (d : Nat) (hd : d < 4) : decide (aS (W : Int) ((W * H : Nat) : Int) (i : Int) (d : Int) ≥ 0) = decide (aI (W : Int) ((W * H : Nat) : Int) (i : Int) (dirC d) ≥ 0) :=
  eq_of_beq (List.all_eq_true.1 (List.all_eq_true.1 (List.all_eq_true.1 (List.all_eq_true.1 same_all W (List.mem_range.2 hW)) H (List.mem_range.2 hH)) i (List.mem_range.2 hi)) d (List.mem_range.2 hd))
def D : ByteArray := ⟨#[117, 114, 100, 108]⟩
def sA (p : Bool) (acc : ByteArray) (d : Nat) : ByteArray := if p = true then acc ++ D.extract d (d + 1) else acc
def iA (p : Bool) (acc : List Int) (d : Nat) : List Int := if p = true then acc ++ [dirC d] else acc
theorem spec_step (w : Int) (l : List Int) (hl : l.length ≤ 1048576) (hw : ¬ w = 0) (acc : ByteArray) (hs : acc.size ≤ 100) (d : Nat) (hd : d < 4) (R : ByteArray × Bool)
    (h : Ev (fun k => spec_HoleWays.l0 k (sA (decide (aS w (l.length : Int) (zf l 0) (d : Int) ≥ 0)) acc d) ((d + 1 : Nat) : Int) w l) R) : Ev (fun k => spec_HoleWays.l0 k acc (d : Int) w l) R := by
  have A := ahead_eq w l hl hw (d : Int)
  obtain ⟨z, hz⟩ : ∃ z, aS w (l.length : Int) (zf l 0) (d : Int) = z := ⟨_, rfl⟩
  rw [hz] at A h
  have g : (d : Int) < 4 := by omega
  have e : wrap64 ((d : Int) + 1) = ((d + 1 : Nat) : Int) := wb (by omega) rfl
  refine Ev.step (f := fun k => (spec_blAhead.f k w l (d : Int)).bind fun t132 => _) (fun k => by rw [spec_HoleWays.l0, if_pos g, e]) (Ev.bind A ?_)
  by_cases hp : z ≥ 0
  · rw [decide_eq_true hp] at h
    have g0 : (0 : Int) ≤ (d : Int) := by omega
    have g1 : (d : Int) ≤ ((d + 1 : Nat) : Int) := by omega
    have g2 : ((d + 1 : Nat) : Int) ≤ (D.size : Int) := by have : D.size = 4 := rfl; omega
    have g3 : acc.size + (D.extract (d : Int).toNat ((d + 1 : Nat) : Int).toNat).size ≤ 9223372036854775807 := by
      rw [Int.toNat_natCast, Int.toNat_natCast, ByteArray.size_extract]
      omega
    have hD : spec_tiDirs.f = some D := rfl
    refine Ev.congr (fun k => ?_) h
    rw [if_pos hp, hD, Option.bind_some, if_pos g0, if_pos g1, if_pos g2, if_pos g3]
    rfl
  · rw [decide_eq_false hp] at h
    exact Ev.congr (fun k => by rw [if_neg hp]; rfl) h
def DI : List Int := [117, 114, 100, 108]
theorem impl_step (w : Int) (l : List Int) (hl : l.length ≤ 1048576) (hw : ¬ w = 0) (acc : List Int) (hs : acc.length ≤ 100) (d : Nat) (hd : d < 4) (R : ByteArray × Bool)
    (h : Ev (fun k => impl_HoleWays.l0 k (iA (decide (aI w (l.length : Int) (zf l 0) (dirC d) ≥ 0)) acc d) DI 4 ((d + 1 : Nat) : Int) w l) R) : Ev (fun k => impl_HoleWays.l0 k acc DI 4 (d : Int) w l) R := by
  have A := target_eq w l hl hw (dirC d)
  obtain ⟨z, hz⟩ : ∃ z, aI w (l.length : Int) (zf l 0) (dirC d) = z := ⟨_, rfl⟩
  rw [hz] at A h
  have g : (d : Int) < 4 := by omega
  have g0 : (0 : Int) ≤ (d : Int) := by omega
  have g1 : (d : Int) < (DI.length : Int) := by have : DI.length = 4 := rfl; omega
  have hr : rd DI (d : Int) = dirC d := by
    have : d = 0 ∨ d = 1 ∨ d = 2 ∨ d = 3 := by omega
    rcases this with rfl | rfl | rfl | rfl <;> rfl
  have e : wrap64 ((d : Int) + 1) = ((d + 1 : Nat) : Int) := wb (by omega) rfl
  have gl : acc.length < 140737488355328 := by omega
  refine Ev.step (f := fun k => (impl_Board_target.f k w l (dirC d)).bind fun t150 => _) (fun k => by rw [impl_HoleWays.l0, if_pos g, if_pos g0, if_pos g1, hr, e]) (Ev.bind A ?_)
  by_cases hp : z ≥ 0
  · rw [decide_eq_true hp] at h
    refine Ev.congr (fun k => ?_) h
    rw [if_pos hp, if_pos gl]
    rfl
  · rw [decide_eq_false hp] at h
    exact Ev.congr (fun k => by rw [if_neg hp]; rfl) h
theorem last_same : ∀ p0 p1 p2 p3 : Bool, sA p3 (sA p2 (sA p1 (sA p0 ⟨#[]⟩ 0) 1) 2) 3 = strOfNums (iA p3 (iA p2 (iA p1 (iA p0 [] 0) 1) 2) 3) := by
  intro p0 p1 p2 p3
  cases p0 <;> cases p1 <;> cases p2 <;> cases p3 <;> rfl
theorem sA_size (p : Bool) (acc : ByteArray) (d n : Nat) (h : acc.size ≤ n) : (sA p acc d).size ≤ n + 4 := by
  unfold sA
  cases p with
  | false => simp; omega
  | true =>
    rw [if_pos rfl, ByteArray.size_append, ByteArray.size_extract]
    have : D.size = 4 := rfl
    omega
theorem iA_len (p : Bool) (acc : List Int) (d n : Nat) (h : acc.length ≤ n) : (iA p acc d).length ≤ n + 4 := by
  unfold iA
  cases p with
  | false => simp; omega
  | true =>
    rw [if_pos rfl, List.length_append]
    simp
    omega
theorem alike (a : Int) (l : List Int) (hl : l.length ≤ 1048576) : ∃ r : ByteArray × Bool, Ev (fun k => spec_HoleWays.f k a l) r ∧ Ev (fun k => impl_HoleWays.f k a l) r := by
  have hI : impl_IsBoard.f a l = some (isB a l) := isBoard_eq a l (by omega)
  have hG := blGood_eq a l hl
  cases hb : isB a l with
  | true =>
    rw [hb] at hI hG
    obtain ⟨W, H, i, h1, h2, h3, h4, h5, h6, h7, h8⟩ := hole_at hb
    have hw : ¬ a = 0 := by omega
    have same : ∀ d, d < 4 → decide (aI a (l.length : Int) (zf l 0) (dirC d) ≥ 0) = decide (aS a (l.length : Int) (zf l 0) (d : Int) ≥ 0) := by
      intro d hd
      rw [h8, h1, h2]
      exact (same_ways W h4 H h6 i h7 d hd).symm
    obtain ⟨p0, hp0⟩ : ∃ p, decide (aS a (l.length : Int) (zf l 0) ((0 : Nat) : Int) ≥ 0) = p := ⟨_, rfl⟩
    obtain ⟨p1, hp1⟩ : ∃ p, decide (aS a (l.length : Int) (zf l 0) ((1 : Nat) : Int) ≥ 0) = p := ⟨_, rfl⟩
    obtain ⟨p2, hp2⟩ : ∃ p, decide (aS a (l.length : Int) (zf l 0) ((2 : Nat) : Int) ≥ 0) = p := ⟨_, rfl⟩
    obtain ⟨p3, hp3⟩ : ∃ p, decide (aS a (l.length : Int) (zf l 0) ((3 : Nat) : Int) ≥ 0) = p := ⟨_, rfl⟩
    have q0 := (same 0 (by omega)).trans hp0
    have q1 := (same 1 (by omega)).trans hp1
    have q2 := (same 2 (by omega)).trans hp2
    have q3 := (same 3 (by omega)).trans hp3
    refine ⟨(sA p3 (sA p2 (sA p1 (sA p0 ⟨#[]⟩ 0) 1) 2) 3, true), Ev.congr (fun k => rfl) (Ev.bind hG ?_), ?_⟩
    · refine Ev.congr (f := fun k => spec_HoleWays.l0 k (⟨#[]⟩ : ByteArray) ((0 : Nat) : Int) a l) (g := _) (r := _) (fun k => if_pos rfl) ?_
      refine spec_step a l hl hw _ (by decide) 0 (by omega) _ ?_
      rw [hp0]
      have s0 : (sA p0 (⟨#[]⟩ : ByteArray) 0).size ≤ 0 + 4 := sA_size _ _ _ _ (by decide)
      refine spec_step a l hl hw _ (by omega) 1 (by omega) _ ?_
      rw [hp1]
      have s1 := sA_size p1 _ 1 _ s0
      refine spec_step a l hl hw _ (by omega) 2 (by omega) _ ?_
      rw [hp2]
      have s2 := sA_size p2 _ 2 _ s1
      refine spec_step a l hl hw _ (by omega) 3 (by omega) _ ?_
      rw [hp3]
      exact Ev.step (f := fun _ => some (sA p3 (sA p2 (sA p1 (sA p0 ⟨#[]⟩ 0) 1) 2) 3, true)) (fun k => by rw [spec_HoleWays.l0, if_neg (by decide)]) (Ev.now _)
    · rw [last_same]
      refine Ev.congr (f := fun k => impl_HoleWays.l0 k ([] : List Int) DI 4 ((0 : Nat) : Int) a l) (g := _) (r := _) (fun k => by rw [impl_HoleWays.f, hI, Option.bind_some, if_pos rfl]; rfl) ?_
      refine impl_step a l hl hw _ (by decide) 0 (by omega) _ ?_
      rw [q0]
      have s0 : (iA p0 [] 0).length ≤ 0 + 4 := iA_len _ _ _ _ (by decide)
      refine impl_step a l hl hw _ (by omega) 1 (by omega) _ ?_
      rw [q1]
      have s1 := iA_len p1 _ 1 _ s0
      refine impl_step a l hl hw _ (by omega) 2 (by omega) _ ?_
      rw [q2]
      have s2 := iA_len p2 _ 2 _ s1
      refine impl_step a l hl hw _ (by omega) 3 (by omega) _ ?_
      rw [q3]
      exact Ev.step (f := fun _ => some (strOfNums (iA p3 (iA p2 (iA p1 (iA p0 [] 0) 1) 2) 3), true)) (fun k => by rw [impl_HoleWays.l0, if_neg (by decide)]) (Ev.now _)
  | false =>
    rw [hb] at hI hG
    refine ⟨(⟨#[]⟩, false), Ev.congr (fun k => rfl) (Ev.bind hG ⟨0, fun k _ => rfl⟩), ⟨0, fun k _ => ?_⟩⟩
    show impl_HoleWays.f k a l = _
    rw [impl_HoleWays.f, hI, Option.bind_some]
    rfl

theorem tail (a : Int) (l : List Int) (hl : l.length ≤ 1048576) (b : Bool) : Ev (fun k => laws_FnExactHoleWays.j0 k (b != b) a l a l) true := by
  have hb : (b != b) = false := by cases b <;> rfl
  rw [hb]
  refine Ev.step (f := fun k => (laws_toBoard.f k a l).bind fun bt170 => ((laws_eqBoard.f k a l bt170.1 bt170.2).bind fun t174 => (if t174 = true then (some true) else (some false)))) (fun k => by rw [laws_FnExactHoleWays.j0, if_neg (by decide)]) (Ev.bind (toBoard_eq a l hl) (Ev.bind (eqBoard_same a l hl) (Ev.now _)))
theorem FnExactHoleWays : ∀ (a : Int) (l : List Int), (Lit.int .i64 a).wf = true → l.length ≤ maxLen → (∀ x ∈ l, (Lit.int .i64 x).wf = true) → ∃ k, laws_FnExactHoleWays.f k a l = some true := by
  intro a l _ hm _
  by_cases hl : l.length ≤ 1048576
  · have g : ¬ ((1048576 : Int) - (l.length : Int)) < 0 := by omega
    refine Ev.rounds (Ev.congr (fun k => by rw [laws_FnExactHoleWays.f, szBoard_small a l hl, Option.bind_some, if_neg g]) ?_)
    have tb := toBoard_eq a l hl
    obtain ⟨r, hS, hI⟩ := alike a l hl
    refine Ev.bind tb (Ev.bind hS (Ev.bind tb (Ev.bind hI ?_)))
    refine Ev.congr (g := _) (r := true) (fun k => if_pos rfl) (tail a l hl r.2)
  · exact ⟨0, by rw [laws_FnExactHoleWays.f, szBoard_great a l hl hm]; rfl⟩
end Go.Proofs.Ytpbojlppeaobmaa.Pure
