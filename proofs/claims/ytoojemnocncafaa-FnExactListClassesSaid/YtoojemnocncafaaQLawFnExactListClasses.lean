/- The law FnExactListClasses, walked by hand: all that it asks is alike. -/
import Derived.WalkKit
import Derived.Lib.Walk
import Derived.Lib.Bytes
import Derived.Test.YtoojemnocncafaaQx6
import Derived.Test.YtoojemnocncafaaQx7
set_option linter.unusedVariables false
set_option linter.unusedSimpArgs false
namespace Go.Proofs.YtoojemnocncafaaL
open Go.RowKit Go.Proofs.Ytoojemnocncafaa.Q Go.Proofs.YtoojemnocncafaaW.PrintWords Go.Proofs.YtoojemnocncafaaW.PrintLast
namespace MT
/-- The mark's text. -/
def mt (k : Nat) : ByteArray := (laws_markText.f 10 (k : Int)).getD ByteArray.empty
theorem mt_all : ((List.range 300).all fun k => (laws_markText.f 10 (k : Int)).isSome) = true := by decide +kernel
theorem mt_ev (k : Nat) (hk : k < 300) : Ev (fun j => laws_markText.f j (k : Int)) (mt k) := by
  have h := List.all_eq_true.1 mt_all k (List.mem_range.2 hk)
  obtain ⟨t, ht⟩ := Option.isSome_iff_exists.1 h
  refine Ev.of (laws_markText.mono _) (k := 10) ?_
  unfold mt
  rw [ht]
  rfl
theorem wm {n : Nat} {z : Int} (h : n < 1000000) (hz : z = (n : Int)) : wrap64 z = (n : Int) := by
  subst hz
  unfold wrap64
  omega
/-- i marks, then what was there. -/
def mks (l : List ByteArray) (i : Nat) : List ByteArray := (List.range i).map (fun j => mt (j + 1)) ++ l.drop i
theorem mks_len (l : List ByteArray) (i : Nat) (h : i ≤ l.length) : (mks l i).length = l.length := by
  unfold mks
  rw [List.length_append, List.length_map, List.length_range, List.length_drop]
  omega
theorem mks_set (l : List ByteArray) (i : Nat) (h : i < l.length) : (mks l i).set i (mt (i + 1)) = mks l (i + 1) := by
  unfold mks
  rw [List.set_append_right _ _ (by simp), List.length_map, List.length_range, Nat.sub_self, List.drop_eq_getElem_cons h, List.set_cons_zero, List.range_succ, List.map_append, List.append_assoc]
  rfl
theorem mark_ev (l : List ByteArray) (hl : l.length ≤ 250) : Ev (fun k => laws_markStringS.f k l 1) (((1 + l.length : Nat) : Int), mks l l.length) := by
  have key : ∀ (d i : Nat), l.length - i = d → i ≤ l.length → Ev (fun k => laws_markStringS.l0 k (mks l i) ((1 + i : Nat) : Int) (i : Int)) (((1 + l.length : Nat) : Int), mks l l.length) := by
    intro d
    induction d with
    | zero =>
      intro i hd hi
      have e : i = l.length := by omega
      subst e
      exact Ev.step (f := fun _ => some (((1 + l.length : Nat) : Int), mks l l.length)) (fun k => by rw [laws_markStringS.l0, if_neg (by rw [mks_len l _ (Nat.le_refl _)]; omega)]) (Ev.now _)
    | succ d ih =>
      intro i hd hi
      have hlt : i < l.length := by omega
      have e1 : wrap64 ((i : Int) + 1) = ((i + 1 : Nat) : Int) := wm (by omega) rfl
      have e2 : wrap64 (((1 + i : Nat) : Int) + 1) = ((1 + (i + 1) : Nat) : Int) := wm (by omega) (by omega)
      have hT := mt_ev (1 + i) (by omega)
      refine Ev.step (f := fun k => (laws_markText.f k ((1 + i : Nat) : Int)).bind fun t322 => laws_markStringS.l0 k ((mks l i).set i t322) ((1 + (i + 1) : Nat) : Int) ((i + 1 : Nat) : Int)) (fun k => ?_) (Ev.bind (f := fun k t322 => laws_markStringS.l0 k ((mks l i).set i t322) ((1 + (i + 1) : Nat) : Int) ((i + 1 : Nat) : Int)) hT ?_)
      · rw [laws_markStringS.l0, if_pos (by rw [mks_len l i hi]; omega), e1, e2]
        refine congrArg (fun q => (laws_markText.f _ _).bind q) (funext fun t => ?_)
        rw [if_pos (by omega), Int.toNat_natCast]
      · rw [show 1 + i = i + 1 by omega, mks_set l i hlt]
        exact ih (i + 1) (by omega) (by omega)
  exact Ev.congr (fun k => by rw [laws_markStringS.f]; rfl) (key l.length 0 rfl (Nat.zero_le _))
theorem rdB_at {l : List ByteArray} {i : Nat} (h : i < l.length) : rdOf ByteArray.empty l (i : Int) = l[i] := by
  unfold rdOf
  rw [Int.toNat_natCast, List.getD_eq_getElem?_getD, List.getElem?_eq_getElem h]
  rfl
theorem mks_at (l : List ByteArray) (i : Nat) (h : i < l.length) (h2 : i < (mks l l.length).length) : (mks l l.length)[i] = mt (i + 1) := by
  have e : (mks l l.length)[i]? = some (mt (i + 1)) := by
    unfold mks
    rw [List.getElem?_append_left (by rw [List.length_map, List.length_range]; exact h), List.getElem?_map, List.getElem?_range h]
    rfl
  rw [List.getElem?_eq_getElem h2] at e
  exact Option.some.inj e
theorem held_ev (l : List ByteArray) (hl : l.length ≤ 250) : Ev (fun k => laws_heldStringS.f k (mks l l.length) 1) ((1 + l.length : Nat) : Int) := by
  have hml := mks_len l l.length (Nat.le_refl _)
  have key : ∀ (d i : Nat), l.length - i = d → i ≤ l.length → Ev (fun k => laws_heldStringS.l0 k (mks l l.length) ((1 + i : Nat) : Int) (i : Int)) ((1 + l.length : Nat) : Int) := by
    intro d
    induction d with
    | zero =>
      intro i hd hi
      have e : i = l.length := by omega
      subst e
      exact Ev.step (f := fun _ => some ((1 + l.length : Nat) : Int)) (fun k => by rw [laws_heldStringS.l0, if_neg (by rw [hml]; omega)]) (Ev.now _)
    | succ d ih =>
      intro i hd hi
      have hlt : i < l.length := by omega
      have hlt2 : i < (mks l l.length).length := by omega
      have e1 : wrap64 ((i : Int) + 1) = ((i + 1 : Nat) : Int) := wm (by omega) rfl
      have e2 : wrap64 (((1 + i : Nat) : Int) + 1) = ((1 + (i + 1) : Nat) : Int) := wm (by omega) (by omega)
      have hT := mt_ev (1 + i) (by omega)
      refine Ev.step (f := fun k => (laws_markText.f k ((1 + i : Nat) : Int)).bind fun t191 => (if (mt (i + 1)).toList = t191.toList then laws_heldStringS.l0 k (mks l l.length) ((1 + (i + 1) : Nat) : Int) ((i + 1 : Nat) : Int) else some (-1))) (fun k => ?_) (Ev.bind (f := fun k t191 => (if (mt (i + 1)).toList = t191.toList then laws_heldStringS.l0 k (mks l l.length) ((1 + (i + 1) : Nat) : Int) ((i + 1 : Nat) : Int) else some (-1))) hT ?_)
      · rw [laws_heldStringS.l0, if_pos (by rw [hml]; omega), if_pos (by omega), rdB_at hlt2, mks_at l i hlt hlt2, e1, e2]
      · exact Ev.congr (fun k => by rw [show 1 + i = i + 1 by omega, if_pos rfl]) (ih (i + 1) (by omega) (by omega))
  exact Ev.congr (fun k => by rw [laws_heldStringS.f]; rfl) (key l.length 0 rfl (Nat.zero_le _))
theorem eq_self (l : List ByteArray) (hl : l.length ≤ 250) : Ev (fun k => laws_eqStringS.f k l l) true := by
  have key : ∀ (d i : Nat), l.length - i = d → i ≤ l.length → Ev (fun k => laws_eqStringS.l0 k l l (i : Int)) true := by
    intro d
    induction d with
    | zero =>
      intro i hd hi
      have e : i = l.length := by omega
      subst e
      exact Ev.step (f := fun _ => some true) (fun k => by rw [laws_eqStringS.l0, if_neg (by omega)]) (Ev.now _)
    | succ d ih =>
      intro i hd hi
      have hlt : i < l.length := by omega
      have e1 : wrap64 ((i : Int) + 1) = ((i + 1 : Nat) : Int) := wm (by omega) rfl
      exact Ev.step (f := fun k => laws_eqStringS.l0 k l l ((i + 1 : Nat) : Int)) (fun k => by rw [laws_eqStringS.l0, if_pos (by omega), if_pos (by omega), if_pos (by omega), if_pos rfl, e1]) (ih (i + 1) (by omega) (by omega))
  exact Ev.congr (fun k => by rw [laws_eqStringS.f, if_pos rfl]; rfl) (key l.length 0 rfl (Nat.zero_le _))
end MT
end Go.Proofs.YtoojemnocncafaaL
namespace Go.Proofs.YtoojemnocncafaaV
open Go.RowKit Go.Proofs.Ytoojemnocncafaa.Q Go.Proofs.YtoojemnocncafaaW.PrintWords Go.Proofs.YtoojemnocncafaaW.PrintLast Go.Proofs.YtoojemnocncafaaL
set_option maxRecDepth 100000 in
set_option maxHeartbeats 8000000 in
theorem lawList_calls (x y za zb : Int) (g : List ByteArray) (b : Bool) (w : World)
    (HSp : ∀ W, Calls Try.prog 4 #[.int .i64 x, .int .i64 y, .int .i64 za, .int .i64 zb] W fun e w' => ∃ v0_ : Value, e = .returned (.tuple #[v0_, .bool b]) ∧ Kd.V Kd.string 9 w' 0 (fun _ => True) v0_ g ∧ Below W.heap.size W w')
    (HIm : ∀ W, Calls Try.prog 5 #[.int .i64 x, .int .i64 y, .int .i64 za, .int .i64 zb] W fun e w' => ∃ v0_ : Value, e = .returned (.tuple #[v0_, .bool b]) ∧ Kd.R Kd.string 9 w' W.heap.size (fun _ => True) v0_ g ∧ Below W.heap.size W w')
    (HEq : ∀ A0 c0 A1 c1 W, Kd.C Kd.string W A0 g.length g → g.length ≤ c0 → Kd.C Kd.string W A1 g.length g → g.length ≤ c1 → Calls Try.prog 6 #[.slice A0 g.length c0, .slice A1 g.length c1] W fun e w' => e = .returned (.bool true) ∧ Below W.heap.size W w')
    (HMk : ∀ (w0 : World) (v : Value) (W : World), Below w0.heap.size w0 W → Kd.R Kd.string 9 W w0.heap.size (fun k => w0.heap.size ≤ k) v g →
      Calls Try.prog 7 #[v, .int .i64 1] W fun e w' => e = .returned (.int .i64 ((1 + g.length : Nat) : Int)) ∧ Kd.R Kd.string 9 w' w0.heap.size (fun k => w0.heap.size ≤ k) v (MT.mks g g.length) ∧ Below w0.heap.size w0 w')
    (HHe : ∀ A0 c0 W, Kd.C Kd.string W A0 g.length (MT.mks g g.length) → g.length ≤ c0 → Calls Try.prog 8 #[.slice A0 g.length c0, .int .i64 1] W fun e w' => e = .returned (.int .i64 ((1 + g.length : Nat) : Int)) ∧ Below W.heap.size W w') :
    Calls Try.prog 3 #[.int .i64 x, .int .i64 y, .int .i64 za, .int .i64 zb] w fun e w' => e = .returned (.bool true) ∧ Below w.heap.size w w' := by
  have hml : (MT.mks g g.length).length = g.length := MT.mks_len g g.length (Nat.le_refl _)
  obtain ⟨M, hM⟩ : ∃ M : Nat, 1 + g.length = M := ⟨_, rfl⟩
  rw [hM] at HHe
  simp only [hM] at HMk
  have K := Aside0.mk (And.intro HSp (And.intro HIm (And.intro HEq (And.intro HMk (And.intro HHe hml)))))
  clear HSp HIm HEq HMk HHe hM hml
  have hM0 : decide ((M : Int) < 0) = false := decide_eq_false (by omega)
  go_enter Try.func3, Try.ntmps3
  go_upto_region 2 with (go_at_call 4; refine (K.out.1 _).mono ?_; rintro e w1 ⟨v0, rfl, hS1, hb1⟩)
  obtain ⟨A0, c0, rfl⟩ := Kd.V_slice hS1
  have P1 := Aside0.mk (And.intro hS1 hb1)
  clear hS1 hb1
  go_upto_region 3 with (go_at_call 5; refine (K.out.2.1 _).mono ?_; rintro e w2 ⟨v1, rfl, hS2, hb2⟩)
  obtain ⟨A1, c1, rfl⟩ := Kd.R_slice hS2
  have P2 := Aside0.mk (And.intro hS2 hb2)
  clear hS2 hb2
  have hE1 := K.out.2.2.1 A1 c1 A0 c0 w2 (Kd.R_reads' P2.out.1).2.2 (Kd.R_reads' P2.out.1).2.1 (Kd.V_reads' (Kd.V_below P1.out.1 P2.out.2)).2.2 (Kd.V_reads' P1.out.1).2.1
  go_upto_region 5 with (go_at_call 6; (with_reducible refine hE1.mono ?_); rintro e w3 ⟨rfl, hb23⟩)
  clear hE1
  have hb3 : Below w1.heap.size w1 w3 := P2.out.2.trans (hb23.mono P2.out.2.size)
  have hS3 : Kd.R Kd.string 9 w3 w1.heap.size (fun k => w1.heap.size ≤ k) (.slice A1 g.length c1) g := Kd.R_mono (Kd.R_bound (Kd.R_step P2.out.1 (fun k _ hlt => hb23.block k hlt))) (fun k hk => hk.2.1)
  have hK4 := K.out.2.2.2.1 w1 _ w3 hb3 hS3
  clear P2 hb23
  go_upto_region 7 with (go_at_call 7; (with_reducible refine hK4.mono ?_); rintro e w4 ⟨rfl, hS4, hb4⟩)
  clear hK4 hb3 hS3
  have P4 := Aside0.mk (And.intro hS4 hb4)
  clear hS4 hb4
  have hH5 := K.out.2.2.2.2.1 A1 c1 w4 (by have := (Kd.R_reads' P4.out.1).2.2; rw [K.out.2.2.2.2.2] at this; exact this) (Kd.R_reads' P4.out.1).2.1
  go_upto_region 13 with (go_at_call 8; (with_reducible refine hH5.mono ?_); rintro e w5 ⟨rfl, hb45⟩)
  clear hH5
  have hb5 : Below w1.heap.size w1 w5 := P4.out.2.trans (hb45.mono P4.out.2.size)
  have hS5 := Kd.R_step P4.out.1 (fun k _ hlt => hb45.block k hlt)
  have P5 := Aside0.mk (And.intro hS5 hb5)
  clear hS5 hb5 P4 hb45
  go_upto_region 14 with (go_at_call 5; refine (K.out.2.1 _).mono ?_; rintro e w6 ⟨v2, rfl, hS6, hb6⟩)
  obtain ⟨A2, c2, rfl⟩ := Kd.R_slice hS6
  have hb16 : Below w1.heap.size w1 w6 := P5.out.2.trans (hb6.mono P5.out.2.size)
  have hS56 := Kd.R_step P5.out.1 (fun k _ hlt => hb6.block k hlt)
  have hE6 := K.out.2.2.1 A2 c2 A0 c0 w6 (Kd.R_reads' hS6).2.2 (Kd.R_reads' hS6).2.1 (Kd.V_reads' (Kd.V_below P1.out.1 hb16)).2.2 (Kd.V_reads' P1.out.1).2.1
  have P6 := Aside0.mk (And.intro hS56 hb16)
  clear hS56 hb16 hS6 hb6 P5
  go_upto_region 16 with (go_at_call 6; (with_reducible refine hE6.mono ?_); rintro e w7 ⟨rfl, hb67⟩)
  clear hE6
  have hb7 : Below w1.heap.size w1 w7 := P6.out.2.trans (hb67.mono P6.out.2.size)
  have hS7 := Kd.R_step P6.out.1 (fun k _ hlt => hb67.block k hlt)
  clear hb67 P6
  have hH8 := K.out.2.2.2.2.1 A1 c1 w7 (by have := (Kd.R_reads' hS7).2.2; rw [K.out.2.2.2.2.2] at this; exact this) (Kd.R_reads' hS7).2.1
  have P7 := Aside0.mk hb7
  clear hS7 hb7
  go_wp2_with (go_at_call 8; (with_reducible refine hH8.mono ?_); rintro e w8 ⟨rfl, hb78⟩)
  go_ret
  exact ⟨rfl, P1.out.2.trans ((P7.out.trans (hb78.mono P7.out.size)).mono P1.out.2.size)⟩
end Go.Proofs.YtoojemnocncafaaV
namespace Go.Proofs.Ytoojemnocncafaa.Q
open Go.RowKit Go.Proofs.YtoojemnocncafaaW.PrintWords Go.Proofs.YtoojemnocncafaaW.PrintLast Go.Proofs.YtoojemnocncafaaL Go.Proofs.YtoojemnocncafaaV
/-- Both functions give back the same texts. -/
def laws_FnExactListClasses.Pure : Prop := ∀ (a0 a1 a2 a3 : Int), (Lit.int .i64 a0).wf = true → (Lit.int .i64 a1).wf = true → (Lit.int .i64 a2).wf = true → (Lit.int .i64 a3).wf = true → ∃ (g : List ByteArray) (b : Bool), g.length ≤ 250 ∧
  (∀ W, Calls Try.prog 4 #[.int .i64 a0, .int .i64 a1, .int .i64 a2, .int .i64 a3] W fun e w' => ∃ v0_ : Value, e = .returned (.tuple #[v0_, .bool b]) ∧ Kd.V Kd.string 9 w' 0 (fun _ => True) v0_ g ∧ Below W.heap.size W w') ∧
  (∀ W, Calls Try.prog 5 #[.int .i64 a0, .int .i64 a1, .int .i64 a2, .int .i64 a3] W fun e w' => ∃ v0_ : Value, e = .returned (.tuple #[v0_, .bool b]) ∧ Kd.R Kd.string 9 w' W.heap.size (fun _ => True) v0_ g ∧ Below W.heap.size W w')
theorem laws_FnExactListClasses.walk (P : laws_FnExactListClasses.Pure) (a0 a1 a2 a3 : Int) (w : World) (w0 : (Lit.int .i64 a0).wf = true) (w1 : (Lit.int .i64 a1).wf = true) (w2 : (Lit.int .i64 a2).wf = true) (w3 : (Lit.int .i64 a3).wf = true) :
    Calls Try.prog 3 #[.int .i64 a0, .int .i64 a1, .int .i64 a2, .int .i64 a3] w fun e w' => e = .returned (.bool true) ∧ Below w.heap.size w w' := by
  obtain ⟨g, b, hl, hs, hi⟩ := P a0 a1 a2 a3 w0 w1 w2 w3
  obtain ⟨ke, he⟩ := (MT.eq_self g hl).rounds
  obtain ⟨kh, hh⟩ := (MT.held_ev g hl).rounds
  obtain ⟨km, hm⟩ := (MT.mark_ev g hl).rounds
  have hml : (MT.mks g g.length).length = g.length := MT.mks_len g g.length (Nat.le_refl _)
  refine lawList_calls a0 a1 a2 a3 g b w hs hi (fun A0 c0 A1 c1 W r0 h0 r1 h1 => (laws_eqStringS.calls ke A0 c0 g A1 c1 g true W r0 h0 r1 h1 he).mono fun e w' hh => ⟨hh.1, hh.2.below⟩) (fun w0 v W hB hS => ?_) (fun A0 c0 W r0 h0 => ?_)
  · refine (laws_markStringS.calls km _ v g 1 _ _ w0 W hB hS hm).mono ?_
    rintro e w' ⟨rfl, h1, h2, _⟩
    exact ⟨rfl, Kd.R_mono h1 (fun k hk => hk.elim id (fun h => Nat.le_trans hB.size h)), h2⟩
  · have := laws_heldStringS.calls kh A0 c0 (MT.mks g g.length) 1 _ W (by rw [hml]; exact r0) (by rw [hml]; exact h0) hh
    rw [hml] at this
    exact this
end Go.Proofs.Ytoojemnocncafaa.Q
