/- The reference's ListClasses: its contract; the refusals of both. -/
import Derived.Test.YtoojemnocncafaaVLookC
import Derived.Test.YtoojemnocncafaaVListI
set_option linter.unusedVariables false
set_option linter.unusedSimpArgs false
namespace Go.Proofs.YtoojemnocncafaaV
open Go.RowKit Go.Proofs.YtoojemnocncafaaW.PrintWords Go.Proofs.YtoojemnocncafaaW.PrintLast
namespace LK
open RB
open FL (u8s lt_of cells_of)
set_option maxRecDepth 100000 in
set_option maxHeartbeats 8000000 in
theorem listS_yes {n : Nat} {x y many cls : Int} {a b : Nat} {tx : List Int → ByteArray} {fit : Nat → Bool} {tp : Nat → Nat → Nat} {Good : List Int → Prop} (K0 : Con n x y tx fit tp Good) (w : World) (ha : a ≤ 36) (hb : b ≤ 36) (hg0 : Good []) (hm : ¬ many > 5000) (hc : ¬ cls > 200) (hlen : (found (leafF n tx fit tp) n [] a b).length ≤ 1000000)
    (HA : ∀ W, Calls Try.prog 9 #[.int .i64 x, .int .i64 y, .int .i64 (a : Int), .int .i64 (b : Int)] W fun e w' => e = .returned (.bool true) ∧ Below W.heap.size W w')
    (HT : ∀ W, Calls Try.prog 10 #[.int .i64 x, .int .i64 y, .int .i64 (a : Int), .int .i64 (b : Int)] W fun e w' => e = .returned (.tuple #[.int .i64 many, .bool true]) ∧ Below W.heap.size W w')
    (HC : ∀ W, Calls Try.prog 11 #[.int .i64 x, .int .i64 y, .int .i64 (a : Int), .int .i64 (b : Int)] W fun e w' => e = .returned (.int .i64 cls) ∧ Below W.heap.size W w') :
    Calls Try.prog 4 #[.int .i64 x, .int .i64 y, .int .i64 (a : Int), .int .i64 (b : Int)] w fun e w' => ∃ V : Value, e = .returned (.tuple #[V, .bool true]) ∧
      w'.ownsRow w.heap.size 9 1 V (found (leafF n tx fit tp) n [] a b).length ((found (leafF n tx fit tp) n [] a b).map Value.string) ∧ Below w.heap.size w w' := by
  have hm0 : decide (many > 5000) = false := decide_eq_false hm
  have hm1 : decide (5000 < many) = false := decide_eq_false (by omega)
  have hc0 : decide (cls > 200) = false := decide_eq_false hc
  have hc1 : decide (200 < cls) = false := decide_eq_false (by omega)
  have K := Aside0.mk (And.intro HA (And.intro HT (And.intro HC (And.intro K0 (And.intro hg0 hlen)))))
  clear HA HT HC K0 hm hc hg0 hlen
  go_enter Try.func4, Try.ntmps4
  go_upto_region 7 with (first
    | (go_at_call 9; refine (K.out.1 _).mono ?_; rintro e w1 ⟨rfl, hb1⟩)
    | (go_at_call 10; refine (K.out.2.1 _).mono ?_; rintro e w2 ⟨rfl, hb2⟩)
    | (go_at_call 11; refine (K.out.2.2.1 _).mono ?_; rintro e w3 ⟨rfl, hb3⟩)
    | ((with_reducible refine gate_dst (N := 44) rfl ?_); refine box_event ?hg (N := 44) ?hd (cs := #[.int .i64 x, .int .i64 y, .slice none 0 0, .slice none 0 0]) (t := 34) ?hr ?_; (case hd => rfl); (case hg => rfl); (case hr => first | (go_simp; done) | (go_simp; rfl)); intro gs hgs w4 hbs hb4; have P4 := Aside0.mk (And.intro hb4 (And.intro hbs hgs)); clear hb4 hbs hgs))
  have hb14 : Below w.heap.size w w4 := (hb1.trans (hb2.mono hb1.size)).trans ((hb3.trans (P4.out.1.mono hb3.size)).mono (Nat.le_trans hb1.size hb2.size))
  have hS0 : SS gs x y w w4 (.slice none 0 0) (.slice none 0 0) [] [] := ⟨P4.out.2.1, own_nil _ _ _ _, own_nil _ _ _ _, hb14, by rw [P4.out.2.2]; exact Nat.le_trans hb1.size (Nat.le_trans hb2.size hb3.size)⟩
  have hcall := look_calls (gs := gs) K.out.2.2.2.1 w n [] a b w4 _ _ [] (by simp) ha hb K.out.2.2.2.2.1 hS0 (by simpa using K.out.2.2.2.2.2)
  clear hS0 hb14 hb1 hb2 hb3
  go_upto_region 8 with (go_at_call 12; (with_reducible refine hcall.mono ?_); rintro e w5 ⟨rfl, Vc, Vf, hS5⟩; rw [List.nil_append] at hS5; obtain ⟨Af, cf, rfl⟩ := own_slice hS5.of; have q3 : w5.cell? ⟨gs, 3, none⟩ = some (.slice Af (found (leafF n tx fit tp) n [] a b).length cf) := (blk_cell hS5.cs 3).trans rfl; have S5 := Aside0.mk hS5; clear hS5)
  go_wp2
  refine bodyPost_ret (results_tmp2 rfl _ _ _) rfl ?_
  exact ⟨_, rfl, S5.out.of, S5.out.below⟩
set_option maxRecDepth 100000 in
set_option maxHeartbeats 8000000 in
theorem listS_no {x y many cls za zb : Int} {asked ok : Bool} (w : World) (hno : asked = true → ok = true → ¬ many > 5000 → cls > 200)
    (HA : ∀ W, Calls Try.prog 9 #[.int .i64 x, .int .i64 y, .int .i64 za, .int .i64 zb] W fun e w' => e = .returned (.bool asked) ∧ Below W.heap.size W w')
    (HT : asked = true → ∀ W, Calls Try.prog 10 #[.int .i64 x, .int .i64 y, .int .i64 za, .int .i64 zb] W fun e w' => e = .returned (.tuple #[.int .i64 many, .bool ok]) ∧ Below W.heap.size W w')
    (HC : asked = true → ok = true → ¬ many > 5000 → ∀ W, Calls Try.prog 11 #[.int .i64 x, .int .i64 y, .int .i64 za, .int .i64 zb] W fun e w' => e = .returned (.int .i64 cls) ∧ Below W.heap.size W w') :
    Calls Try.prog 4 #[.int .i64 x, .int .i64 y, .int .i64 za, .int .i64 zb] w fun e w' => e = .returned (.tuple #[.slice none 0 0, .bool false]) ∧ Below w.heap.size w w' := by
  have K := Aside0.mk (And.intro HA (And.intro HT HC))
  clear HA HT HC
  cases asked with
  | false =>
    clear hno
    go_enter Try.func4, Try.ntmps4
    go_wp2_with (go_at_call 9; refine (K.out.1 _).mono ?_; rintro e w1 ⟨rfl, hb1⟩)
    refine bodyPost_ret (results_tmp2 rfl _ _ _) rfl ?_
    exact ⟨rfl, hb1⟩
  | true =>
    have HT2 := Aside0.mk (K.out.2.1 rfl)
    cases ok with
    | false =>
      clear hno
      go_enter Try.func4, Try.ntmps4
      go_wp2_with (first
        | (go_at_call 9; refine (K.out.1 _).mono ?_; rintro e w1 ⟨rfl, hb1⟩)
        | (go_at_call 10; refine (HT2.out _).mono ?_; rintro e w2 ⟨rfl, hb2⟩))
      refine bodyPost_ret (results_tmp2 rfl _ _ _) rfl ?_
      exact ⟨rfl, hb1.trans (hb2.mono hb1.size)⟩
    | true =>
      by_cases hm : many > 5000
      · have hm0 : decide (many > 5000) = true := decide_eq_true hm
        have hm1 : decide (5000 < many) = true := decide_eq_true (by omega)
        clear hno hm
        go_enter Try.func4, Try.ntmps4
        go_wp2_with (first
          | (go_at_call 9; refine (K.out.1 _).mono ?_; rintro e w1 ⟨rfl, hb1⟩)
          | (go_at_call 10; refine (HT2.out _).mono ?_; rintro e w2 ⟨rfl, hb2⟩))
        refine bodyPost_ret (results_tmp2 rfl _ _ _) rfl ?_
        exact ⟨rfl, hb1.trans (hb2.mono hb1.size)⟩
      · have hcl := hno rfl rfl hm
        have HC2 := Aside0.mk (K.out.2.2 rfl rfl hm)
        have hm0 : decide (many > 5000) = false := decide_eq_false hm
        have hm1 : decide (5000 < many) = false := decide_eq_false (by omega)
        have hc0 : decide (cls > 200) = true := decide_eq_true hcl
        have hc1 : decide (200 < cls) = true := decide_eq_true (by omega)
        clear hno hm hcl
        go_enter Try.func4, Try.ntmps4
        go_wp2_with (first
          | (go_at_call 9; refine (K.out.1 _).mono ?_; rintro e w1 ⟨rfl, hb1⟩)
          | (go_at_call 10; refine (HT2.out _).mono ?_; rintro e w2 ⟨rfl, hb2⟩)
          | (go_at_call 11; refine (HC2.out _).mono ?_; rintro e w3 ⟨rfl, hb3⟩))
        refine bodyPost_ret (results_tmp2 rfl _ _ _) rfl ?_
        exact ⟨rfl, hb1.trans ((hb2.trans (hb3.mono hb2.size)).mono hb1.size)⟩
set_option maxRecDepth 100000 in
set_option maxHeartbeats 8000000 in
theorem listI_no {x y many za zb : Int} {ok : Bool} (w : World) (hno : ok = true → many > 5000)
    (HT : ∀ W, Calls Try.prog 13 #[.int .i64 x, .int .i64 y, .int .i64 za, .int .i64 zb] W fun e w' => e = .returned (.tuple #[.int .i64 many, .bool ok]) ∧ Below W.heap.size W w') :
    Calls Try.prog 5 #[.int .i64 x, .int .i64 y, .int .i64 za, .int .i64 zb] w fun e w' => e = .returned (.tuple #[.slice none 0 0, .bool false]) ∧ Below w.heap.size w w' := by
  have K := Aside0.mk HT
  clear HT
  cases ok with
  | false =>
    clear hno
    go_enter Try.func5, Try.ntmps5
    go_wp2_with (first
      | ((with_reducible refine gate_dst (N := 4) rfl ?_); refine box_event ?hg (N := 4) ?hd (cs := #[.int .i64 x]) (t := 3) ?hr ?_; (case hd => rfl); (case hg => rfl); (case hr => first | (go_simp; done) | (go_simp; rfl)); intro bw hgw w1 hbw hb1; have cw1 : w1.cell? ⟨bw, 0, none⟩ = some (.int .i64 x) := (blk_cell hbw 0).trans rfl; have P1 := Aside0.mk (And.intro hb1 (And.intro hbw hgw)); clear hb1 hbw hgw)
      | ((with_reducible refine gate_dst (N := 5) rfl ?_); refine box_event ?hg (N := 5) ?hd (cs := #[.int .i64 y]) (t := 3) ?hr ?_; (case hd => rfl); (case hg => rfl); (case hr => first | (go_simp; done) | (go_simp; rfl)); intro bh hgh w2 hbh hb2; have ch2 : w2.cell? ⟨bh, 0, none⟩ = some (.int .i64 y) := (blk_cell hbh 0).trans rfl; have cw2 : w2.cell? ⟨bw, 0, none⟩ = some (.int .i64 x) := (hb2.cell (p := ⟨bw, 0, none⟩) (lt_of P1.out.2.1)).trans cw1; have P2 := Aside0.mk (And.intro hb2 (And.intro hbh hgh)); clear hb2 hbh hgh)
      | (go_at_call 13; refine (K.out _).mono ?_; rintro e w3 ⟨rfl, hb3⟩))
    refine bodyPost_ret (results_tmp2 rfl _ _ _) rfl ?_
    exact ⟨rfl, (P1.out.1.trans (P2.out.1.mono P1.out.1.size)).trans (hb3.mono (Nat.le_trans P1.out.1.size P2.out.1.size))⟩
  | true =>
    have hm := hno rfl
    have hm0 : decide (many > 5000) = true := decide_eq_true hm
    have hm1 : decide (5000 < many) = true := decide_eq_true (by omega)
    clear hno hm
    go_enter Try.func5, Try.ntmps5
    go_wp2_with (first
      | ((with_reducible refine gate_dst (N := 4) rfl ?_); refine box_event ?hg (N := 4) ?hd (cs := #[.int .i64 x]) (t := 3) ?hr ?_; (case hd => rfl); (case hg => rfl); (case hr => first | (go_simp; done) | (go_simp; rfl)); intro bw hgw w1 hbw hb1; have cw1 : w1.cell? ⟨bw, 0, none⟩ = some (.int .i64 x) := (blk_cell hbw 0).trans rfl; have P1 := Aside0.mk (And.intro hb1 (And.intro hbw hgw)); clear hb1 hbw hgw)
      | ((with_reducible refine gate_dst (N := 5) rfl ?_); refine box_event ?hg (N := 5) ?hd (cs := #[.int .i64 y]) (t := 3) ?hr ?_; (case hd => rfl); (case hg => rfl); (case hr => first | (go_simp; done) | (go_simp; rfl)); intro bh hgh w2 hbh hb2; have ch2 : w2.cell? ⟨bh, 0, none⟩ = some (.int .i64 y) := (blk_cell hbh 0).trans rfl; have cw2 : w2.cell? ⟨bw, 0, none⟩ = some (.int .i64 x) := (hb2.cell (p := ⟨bw, 0, none⟩) (lt_of P1.out.2.1)).trans cw1; have P2 := Aside0.mk (And.intro hb2 (And.intro hbh hgh)); clear hb2 hbh hgh)
      | (go_at_call 13; refine (K.out _).mono ?_; rintro e w3 ⟨rfl, hb3⟩))
    refine bodyPost_ret (results_tmp2 rfl _ _ _) rfl ?_
    exact ⟨rfl, (P1.out.1.trans (P2.out.1.mono P1.out.1.size)).trans (hb3.mono (Nat.le_trans P1.out.1.size P2.out.1.size))⟩
end LK
end Go.Proofs.YtoojemnocncafaaV
