/- The law FnExactHardestBoards, walked by hand: all that it asks is alike. -/
import Derived.Test.YtmplgijnmjdogaaDoorVMarkBS
import Derived.Test.YtmplgijnmjdogaaDoorVHardT
import Derived.Test.YtmplgijnmjdogaaDoorQx11
import Derived.Test.YtmplgijnmjdogaaDoorQx10
set_option linter.unusedVariables false
set_option linter.unusedSimpArgs false
namespace Go.Proofs.YtmplgijnmjdogaaDoorV
open Go.RowKit Go.Proofs.YtmplgijnmjdogaaDoor.Q Go.Proofs.YtmplgijnmjdogaaDoorW.PrintWords Go.Proofs.YtmplgijnmjdogaaDoorW.PrintLast Go.Proofs.YtmplgijnmjdogaaDoorL
set_option maxRecDepth 100000 in
set_option maxHeartbeats 8000000 in
theorem lawHard_calls (x y r : Int) (g : List Bd) (b : Bool) (w : World)
    (HSp : ∀ W, Calls Tryd.prog 10 #[.int .i64 x, .int .i64 y] W fun e w' => ∃ v0_ : Value, e = .returned (.tuple #[.int .i64 r, v0_, .bool b]) ∧ Kd.V KB 28 w' 0 (fun _ => True) v0_ g ∧ Below W.heap.size W w')
    (HIm : ∀ W, Calls Tryd.prog 11 #[.int .i64 x, .int .i64 y] W fun e w' => ∃ v0_ : Value, e = .returned (.tuple #[.int .i64 r, v0_, .bool b]) ∧ Kd.S KB 28 w' W.heap.size (fun _ => True) v0_ g ∧ Below W.heap.size W w')
    (HEq : ∀ A0 c0 A1 c1 W, Kd.C KB W A0 g.length g → g.length ≤ c0 → Kd.C KB W A1 g.length g → g.length ≤ c1 → Calls Tryd.prog 12 #[.slice A0 g.length c0, .slice A1 g.length c1] W fun e w' => e = .returned (.bool true) ∧ Below W.heap.size W w')
    (HMk : ∀ (w0 : World) (v : Value) (W : World), Below w0.heap.size w0 W → Kd.S KB 28 W w0.heap.size (fun k => w0.heap.size ≤ k) v g →
      Calls Tryd.prog 13 #[v, .int .i64 1] W fun e w' => e = .returned (.int .i64 ((1 + tot g g.length : Nat) : Int)) ∧ Kd.S KB 28 w' w0.heap.size (fun k => w0.heap.size ≤ k) v (mkd 1 g g.length) ∧ Below w0.heap.size w0 w')
    (HHe : ∀ A0 c0 W, Kd.C KB W A0 g.length (mkd 1 g g.length) → g.length ≤ c0 → Calls Tryd.prog 14 #[.slice A0 g.length c0, .int .i64 1] W fun e w' => e = .returned (.int .i64 ((1 + tot g g.length : Nat) : Int)) ∧ Drawn0 W w') :
    Calls Tryd.prog 4 #[.int .i64 x, .int .i64 y] w fun e w' => e = .returned (.bool true) ∧ Below w.heap.size w w' := by
  have hml : (mkd 1 g g.length).length = g.length := mkd_len 1 g g.length
  obtain ⟨M, hM⟩ : ∃ M : Nat, 1 + tot g g.length = M := ⟨_, rfl⟩
  rw [hM] at HHe
  simp only [hM] at HMk
  have K := Aside0.mk (And.intro HSp (And.intro HIm (And.intro HEq (And.intro HMk (And.intro HHe hml)))))
  clear HSp HIm HEq HMk HHe hM hml
  have hM0 : decide ((M : Int) < 0) = false := decide_eq_false (by omega)
  go_enter Tryd.func4, Tryd.ntmps4
  go_upto_region 2 with (go_at_call 10; refine (K.out.1 _).mono ?_; rintro e w1 ⟨v0, rfl, hS1, hb1⟩)
  obtain ⟨A0, c0, rfl⟩ := Kd.V_slice hS1
  have P1 := Aside0.mk (And.intro hS1 hb1)
  clear hS1 hb1
  go_upto_region 3 with (go_at_call 11; refine (K.out.2.1 _).mono ?_; rintro e w2 ⟨v1, rfl, hS2, hb2⟩)
  obtain ⟨A1, c1, rfl⟩ := Kd.S_slice hS2
  have P2 := Aside0.mk (And.intro hS2 hb2)
  clear hS2 hb2
  have hE1 := K.out.2.2.1 A1 c1 A0 c0 w2 (Kd.S_reads' P2.out.1).2.2 (Kd.S_reads' P2.out.1).2.1 (Kd.V_reads' (Kd.V_below P1.out.1 P2.out.2)).2.2 (Kd.V_reads' P1.out.1).2.1
  go_upto_region 5 with (go_at_call 12; (with_reducible refine hE1.mono ?_); rintro e w3 ⟨rfl, hb23⟩)
  clear hE1
  have hb3 : Below w1.heap.size w1 w3 := P2.out.2.trans (hb23.mono P2.out.2.size)
  have hS3 : Kd.S KB 28 w3 w1.heap.size (fun k => w1.heap.size ≤ k) (.slice A1 g.length c1) g := Kd.S_mono (Kd.S_bound (Kd.S_below P2.out.1 hb23)) (fun k hk => hk.2.1)
  have hK4 := K.out.2.2.2.1 w1 _ w3 hb3 hS3
  clear P2 hb23
  go_upto_region 7 with (go_at_call 13; (with_reducible refine hK4.mono ?_); rintro e w4 ⟨rfl, hS4, hb4⟩)
  clear hK4 hb3 hS3
  have P4 := Aside0.mk (And.intro hS4 hb4)
  clear hS4 hb4
  have hH5 := K.out.2.2.2.2.1 A1 c1 w4 (by have := (Kd.S_reads' P4.out.1).2.2; rw [K.out.2.2.2.2.2] at this; exact this) (Kd.S_reads' P4.out.1).2.1
  go_upto_region 13 with (go_at_call 14; (with_reducible refine hH5.mono ?_); rintro e w5 ⟨rfl, ⟨nd5, rfl⟩⟩)
  clear hH5
  have hb5 : Below w1.heap.size w1 (w4.drewN nd5) := pw_below_drewN P4.out.2 nd5
  have hS5 := Kd.S_drewN P4.out.1 nd5
  obtain ⟨w5, hw5⟩ : ∃ w5, w4.drewN nd5 = w5 := ⟨_, rfl⟩
  rw [hw5] at hb5 hS5 ⊢
  clear hw5 P4
  have P5 := Aside0.mk (And.intro hS5 hb5)
  clear hS5 hb5
  go_upto_region 14 with (go_at_call 11; refine (K.out.2.1 _).mono ?_; rintro e w6 ⟨v2, rfl, hS6, hb6⟩)
  obtain ⟨A2, c2, rfl⟩ := Kd.S_slice hS6
  have hb16 : Below w1.heap.size w1 w6 := P5.out.2.trans (hb6.mono P5.out.2.size)
  have hS56 := Kd.S_below P5.out.1 hb6
  have hE6 := K.out.2.2.1 A2 c2 A0 c0 w6 (Kd.S_reads' hS6).2.2 (Kd.S_reads' hS6).2.1 (Kd.V_reads' (Kd.V_below P1.out.1 hb16)).2.2 (Kd.V_reads' P1.out.1).2.1
  have P6 := Aside0.mk (And.intro hS56 hb16)
  clear hS56 hb16 hS6 hb6 P5
  go_upto_region 16 with (go_at_call 12; (with_reducible refine hE6.mono ?_); rintro e w7 ⟨rfl, hb67⟩)
  clear hE6
  have hb7 : Below w1.heap.size w1 w7 := P6.out.2.trans (hb67.mono P6.out.2.size)
  have hS7 := Kd.S_below P6.out.1 hb67
  clear hb67 P6
  have hH8 := K.out.2.2.2.2.1 A1 c1 w7 (by have := (Kd.S_reads' hS7).2.2; rw [K.out.2.2.2.2.2] at this; exact this) (Kd.S_reads' hS7).2.1
  have P7 := Aside0.mk hb7
  clear hS7 hb7
  go_wp2_with (go_at_call 14; (with_reducible refine hH8.mono ?_); rintro e w8 ⟨rfl, ⟨nd8, rfl⟩⟩)
  go_ret
  exact ⟨rfl, P1.out.2.trans ((pw_below_drewN P7.out nd8).mono P1.out.2.size)⟩
end Go.Proofs.YtmplgijnmjdogaaDoorV
namespace Go.Proofs.YtmplgijnmjdogaaDoor.Q
open Go.RowKit Go.Proofs.YtmplgijnmjdogaaDoorW.PrintWords Go.Proofs.YtmplgijnmjdogaaDoorW.PrintLast Go.Proofs.YtmplgijnmjdogaaDoorL Go.Proofs.YtmplgijnmjdogaaDoorV
/-- Both functions give back the same boards. -/
def laws_FnExactHardestBoards.Pure : Prop := ∀ (a0 a1 : Int), (Lit.int .i64 a0).wf = true → (Lit.int .i64 a1).wf = true → ∃ (r : Int) (g : List Bd) (b : Bool), g.length ≤ 1000 ∧ (∀ x ∈ g, x.f1.length ≤ 36) ∧
  (∀ W, Calls Tryd.prog 10 #[.int .i64 a0, .int .i64 a1] W fun e w' => ∃ v0_ : Value, e = .returned (.tuple #[.int .i64 r, v0_, .bool b]) ∧ Kd.V KB 28 w' 0 (fun _ => True) v0_ g ∧ Below W.heap.size W w') ∧
  (∀ W, Calls Tryd.prog 11 #[.int .i64 a0, .int .i64 a1] W fun e w' => ∃ v0_ : Value, e = .returned (.tuple #[.int .i64 r, v0_, .bool b]) ∧ Kd.S KB 28 w' W.heap.size (fun _ => True) v0_ g ∧ Below W.heap.size W w')
theorem laws_FnExactHardestBoards.walk (P : laws_FnExactHardestBoards.Pure) (a0 a1 : Int) (w : World) (w0 : (Lit.int .i64 a0).wf = true) (w1 : (Lit.int .i64 a1).wf = true) :
    Calls Tryd.prog 4 #[.int .i64 a0, .int .i64 a1] w fun e w' => e = .returned (.bool true) ∧ Below w.heap.size w w' := by
  obtain ⟨r, g, b, hl, hr, hs, hi⟩ := P a0 a1 w0 w1
  obtain ⟨ke, he⟩ := (MS.eqBS_self g (by omega) (fun x h => by have := hr x h; omega)).rounds
  obtain ⟨kh, hh⟩ := (heldBS_eq 1 g hl hr (by omega)).rounds
  have hml : (mkd 1 g g.length).length = g.length := mkd_len 1 g g.length
  refine lawHard_calls a0 a1 r g b w hs hi (fun A0 c0 A1 c1 W r0 h0 r1 h1 => laws_eqBoardS.calls ke A0 c0 g A1 c1 g true W r0 h0 r1 h1 he) (fun w0 v W hB hS => markBS_calls (fun w0 P u l a W hl ha hB hR => ?_) w0 v g W hB hS hl hr) (fun A0 c0 W r0 h0 => ?_)
  · obtain ⟨km, hm⟩ := (markInts_gen l a (by omega) (by omega)).rounds
    exact laws_markIntS.calls km P u l (a : Int) _ _ w0 W hB hR hm
  · have := laws_heldBoardS.calls kh A0 c0 (mkd 1 g g.length) 1 _ W (by rw [hml]; exact r0) (by rw [hml]; exact h0) hh
    rw [hml] at this
    exact this
end Go.Proofs.YtmplgijnmjdogaaDoor.Q
