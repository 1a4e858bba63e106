/- The law FnExactPiecesOf, walked by hand: all that it asks is alike. -/
import Derived.Test.YtplifefnjeledaaDoorVMarkSS
import Derived.Test.YtplifefnjeledaaDoorQx18
import Derived.Test.YtplifefnjeledaaDoorQx19
import Derived.Test.YtplifefnjeledaaDoorQx20
import Derived.Test.YtplifefnjeledaaDoorQx14
set_option linter.unusedVariables false
set_option linter.unusedSimpArgs false
namespace Go.Proofs.YtplifefnjeledaaDoorV
open Go.RowKit Go.Proofs.YtplifefnjeledaaDoorW.PrintWords Go.Proofs.YtplifefnjeledaaDoorW.PrintLast Go.Proofs.YtplifefnjeledaaDoorL
set_option maxRecDepth 100000 in
set_option maxHeartbeats 8000000 in
theorem lawPiecesOf_calls (t : ByteArray) (g : List (List Int)) (b : Bool) (ht : ¬ (t.size : Int) > 1048576) (hl : g.length ≤ 36) (hr : ∀ r ∈ g, r.length ≤ 36) (w : World)
    (HSp : ∀ W, Calls Tryd.prog 17 #[.string t] W fun e w' => ∃ v0_ : Value, e = .returned (.tuple #[v0_, .bool b]) ∧ Kd.S KS 38 w' W.heap.size (fun _ => True) v0_ g ∧ Below W.heap.size W w')
    (HIm : ∀ W, Calls Tryd.prog 18 #[.string t] W fun e w' => ∃ v0_ : Value, e = .returned (.tuple #[v0_, .bool b]) ∧ Kd.S KS 38 w' W.heap.size (fun _ => True) v0_ g ∧ Below W.heap.size W w')
    (HEq : ∀ A0 c0 A1 c1 W, Kd.C KS W A0 g.length g → g.length ≤ c0 → Kd.C KS W A1 g.length g → g.length ≤ c1 → Calls Tryd.prog 14 #[.slice A0 g.length c0, .slice A1 g.length c1] W fun e w' => e = .returned (.bool true) ∧ Drawn0 W w')
    (HMk : ∀ (w0 : World) (v : Value) (W : World), Below w0.heap.size w0 W → Kd.S KS 38 W w0.heap.size (fun k => w0.heap.size ≤ k) v g →
      Calls Tryd.prog 15 #[v, .int .i64 1] W fun e w' => e = .returned (.int .i64 ((1 + tot g g.length : Nat) : Int)) ∧ Kd.S KS 38 w' w0.heap.size (fun k => w0.heap.size ≤ k) v (mkd 1 g g.length) ∧ Below w0.heap.size w0 w')
    (HHe : ∀ A0 c0 W, Kd.C KS W A0 g.length (mkd 1 g g.length) → g.length ≤ c0 → Calls Tryd.prog 16 #[.slice A0 g.length c0, .int .i64 1] W fun e w' => e = .returned (.int .i64 ((1 + tot g g.length : Nat) : Int)) ∧ Drawn0 W w') :
    Calls Tryd.prog 6 #[.string t] w fun e w' => e = .returned (.bool true) ∧ Below w.heap.size w w' := by
  have hml : (mkd 1 g g.length).length = g.length := mkd_len 1 g g.length
  obtain ⟨M, hM⟩ : ∃ M : Nat, 1 + tot g g.length = M := ⟨_, rfl⟩
  rw [hM] at HHe
  simp only [hM] at HMk
  have K := Aside0.mk (And.intro HSp (And.intro HIm (And.intro HEq (And.intro HMk (And.intro HHe hml)))))
  clear HSp HIm HEq HMk HHe hM hr hml
  have hM0 : decide ((M : Int) < 0) = false := decide_eq_false (by omega)
  have c2b0 : decide (1048576 < (t.size : Int)) = false := decide_eq_false ht
  have c2b1 : decide (1048576 < t.size) = false := decide_eq_false (by omega)
  clear ht
  go_enter Tryd.func6, Tryd.ntmps6
  go_upto_region 4 with (go_at_call 17; refine (K.out.1 _).mono ?_; rintro e w1 ⟨v0, rfl, hS1, hb1⟩)
  obtain ⟨A0, c0, rfl⟩ := Kd.S_slice hS1
  have P1 := Aside0.mk (And.intro hS1 hb1)
  clear hS1 hb1
  go_upto_region 5 with (go_at_call 18; refine (K.out.2.1 _).mono ?_; rintro e w2 ⟨v1, rfl, hS2, hb2⟩)
  obtain ⟨A1, c1, rfl⟩ := Kd.S_slice hS2
  have P2 := Aside0.mk (And.intro hS2 hb2)
  clear hS2 hb2
  have hE1 := K.out.2.2.1 A1 c1 A0 c0 w2 (Kd.S_reads' P2.out.1).2.2 (Kd.S_reads' P2.out.1).2.1 (Kd.S_reads' (Kd.S_below P1.out.1 P2.out.2)).2.2 (Kd.S_reads' P1.out.1).2.1
  go_upto_region 8 with (go_at_call 14; (with_reducible refine hE1.mono ?_); rintro e w3 ⟨rfl, ⟨nd, rfl⟩⟩)
  clear hE1
  have hb3 : Below w1.heap.size w1 (w2.drewN nd) := pw_below_drewN P2.out.2 nd
  have hS3 : Kd.S KS 38 (w2.drewN nd) w1.heap.size (fun k => w1.heap.size ≤ k) (.slice A1 g.length c1) g := Kd.S_mono (Kd.S_bound (Kd.S_drewN P2.out.1 nd)) (fun k hk => hk.2.1)
  obtain ⟨w3, hw3⟩ : ∃ w3, w2.drewN nd = w3 := ⟨_, rfl⟩
  rw [hw3] at hb3 hS3 ⊢
  have hK4 := K.out.2.2.2.1 w1 _ w3 hb3 hS3
  clear hw3 P2
  go_upto_region 10 with (go_at_call 15; (with_reducible refine hK4.mono ?_); rintro e w4 ⟨rfl, hS4, hb4⟩)
  clear hK4 hb3 hS3
  have P4 := Aside0.mk (And.intro hS4 hb4)
  clear hS4 hb4
  have hH5 := K.out.2.2.2.2.1 A1 c1 w4 (by have := (Kd.S_reads' P4.out.1).2.2; rw [K.out.2.2.2.2.2] at this; exact this) (Kd.S_reads' P4.out.1).2.1
  go_upto_region 15 with (go_at_call 16; (with_reducible refine hH5.mono ?_); rintro e w5 ⟨rfl, ⟨nd5, rfl⟩⟩)
  clear hH5
  have hb5 : Below w1.heap.size w1 (w4.drewN nd5) := pw_below_drewN P4.out.2 nd5
  have hS5 := Kd.S_drewN P4.out.1 nd5
  obtain ⟨w5, hw5⟩ : ∃ w5, w4.drewN nd5 = w5 := ⟨_, rfl⟩
  rw [hw5] at hb5 hS5 ⊢
  clear hw5 P4
  have P5 := Aside0.mk (And.intro hS5 hb5)
  clear hS5 hb5
  go_upto_region 16 with (go_at_call 18; refine (K.out.2.1 _).mono ?_; rintro e w6 ⟨v2, rfl, hS6, hb6⟩)
  obtain ⟨A2, c2, rfl⟩ := Kd.S_slice hS6
  have hb16 : Below w1.heap.size w1 w6 := P5.out.2.trans (hb6.mono P5.out.2.size)
  have hS56 := Kd.S_below P5.out.1 hb6
  have hE6 := K.out.2.2.1 A2 c2 A0 c0 w6 (Kd.S_reads' hS6).2.2 (Kd.S_reads' hS6).2.1 (Kd.S_reads' (Kd.S_below P1.out.1 hb16)).2.2 (Kd.S_reads' P1.out.1).2.1
  have P6 := Aside0.mk (And.intro hS56 hb16)
  clear hS56 hb16 hS6 hb6 P5
  go_upto_region 19 with (go_at_call 14; (with_reducible refine hE6.mono ?_); rintro e w7 ⟨rfl, ⟨nd7, rfl⟩⟩)
  clear hE6
  have hb7 : Below w1.heap.size w1 (w6.drewN nd7) := pw_below_drewN P6.out.2 nd7
  have hS7 := Kd.S_drewN P6.out.1 nd7
  obtain ⟨w7, hw7⟩ : ∃ w7, w6.drewN nd7 = w7 := ⟨_, rfl⟩
  rw [hw7] at hb7 hS7 ⊢
  clear hw7 P6
  have hH8 := K.out.2.2.2.2.1 A1 c1 w7 (by have := (Kd.S_reads' hS7).2.2; rw [K.out.2.2.2.2.2] at this; exact this) (Kd.S_reads' hS7).2.1
  have P7 := Aside0.mk hb7
  clear hS7 hb7
  go_wp2_with (go_at_call 16; (with_reducible refine hH8.mono ?_); rintro e w8 ⟨rfl, ⟨nd8, rfl⟩⟩)
  go_ret
  exact ⟨rfl, P1.out.2.trans ((pw_below_drewN P7.out nd8).mono P1.out.2.size)⟩
end Go.Proofs.YtplifefnjeledaaDoorV
namespace Go.Proofs.YtplifefnjeledaaDoor.Q
open Go.RowKit Go.Proofs.YtplifefnjeledaaDoorW.PrintWords Go.Proofs.YtplifefnjeledaaDoorW.PrintLast Go.Proofs.YtplifefnjeledaaDoorL Go.Proofs.YtplifefnjeledaaDoorV
/-- Both functions give back the same lists. -/
def laws_FnExactPiecesOf.Pure : Prop := ∀ (a0 : ByteArray), ¬ (a0.size : Int) > 1048576 → ∃ (k : Nat) (g : List (List Int)) (b : Bool), spec_PiecesOf.f k a0 = some (g, b) ∧ impl_PiecesOf.f k a0 = some (g, b) ∧ g.length ≤ 36 ∧ ∀ r ∈ g, r.length ≤ 36
theorem laws_FnExactPiecesOf.walk (P : laws_FnExactPiecesOf.Pure) (a0 : ByteArray) (w : World) (w0 : a0.size ≤ 140737488351232) :
    Calls Tryd.prog 6 #[.string a0] w fun e w' => e = .returned (.bool true) ∧ Below w.heap.size w w' := by
  by_cases ht : (a0.size : Int) > 1048576
  · have c2b0 : decide (1048576 < (a0.size : Int)) = true := decide_eq_true ht
    have c2b1 : decide (1048576 < a0.size) = true := decide_eq_true (by omega)
    have HB := Below.refl w.heap.size w
    clear ht
    go_enter Tryd.func6, Tryd.ntmps6
    go_wp2
    go_ret
    exact ⟨rfl, HB⟩
  · obtain ⟨k, g, b, hs, hi, hl, hr⟩ := P a0 ht
    obtain ⟨ke, he⟩ := (MS.eqSS_self g (by omega) (fun r h => by have := hr r h; omega)).rounds
    obtain ⟨kh, hh⟩ := (heldSS_eq 1 g hl hr (by omega)).rounds
    have hml : (mkd 1 g g.length).length = g.length := mkd_len 1 g g.length
    refine lawPiecesOf_calls a0 g b ht hl hr w (fun W => spec_PiecesOf.calls k a0 g b W hs) (fun W => impl_PiecesOf.calls k a0 g b W hi)
      (fun A0 c0 A1 c1 W r0 h0 r1 h1 => laws_eqIntSS.calls ke A0 c0 g A1 c1 g true W r0 h0 r1 h1 he) (fun w0 v W hB hS => markSS_calls (fun w0 P u l a W hl ha hB hR => ?_) w0 v g W hB hS hl hr) (fun A0 c0 W r0 h0 => ?_)
    · obtain ⟨km, hm⟩ := (markInts_gen l a (by omega) (by omega)).rounds
      exact laws_markIntS.calls km P u l (a : Int) _ _ w0 W hB hR hm
    · have := laws_heldIntSS.calls kh A0 c0 (mkd 1 g g.length) 1 _ W (by rw [hml]; exact r0) (by rw [hml]; exact h0) hh
      rw [hml] at this
      exact this
end Go.Proofs.YtplifefnjeledaaDoor.Q
