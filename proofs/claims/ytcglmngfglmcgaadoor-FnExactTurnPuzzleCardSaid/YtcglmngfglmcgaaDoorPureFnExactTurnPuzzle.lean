/- The program's TurnPuzzle returns what the reference's returns: for every puzzle the law FnExactTurnPuzzle returns true. -/
import Derived.Test.YtcglmngfglmcgaaDoorLTurn
import Derived.Test.YtcglmngfglmcgaaDoorQx15
import Derived.Test.YtcglmngfglmcgaaDoorQx12
import Derived.Test.YtcglmngfglmcgaaDoorLPuz
import Derived.Test.YtcglmngfglmcgaaDoorQx6
import Derived.Test.YtcglmngfglmcgaaDoorQx14
import Derived.Test.YtcglmngfglmcgaaDoorQx1
set_option linter.unusedVariables false
set_option linter.unusedSimpArgs false
namespace Go.Proofs.YtcglmngfglmcgaaDoor.Pure
open Go.RowKit Go.Proofs.YtcglmngfglmcgaaDoor.Q Go.Proofs.YtcglmngfglmcgaaDoorW.PrintWords Go.Proofs.YtcglmngfglmcgaaDoorW.PrintLast Go.Proofs.YtcglmngfglmcgaaDoorM Go.Proofs.YtcglmngfglmcgaaDoorL Go.Proofs.YtcglmngfglmcgaaDoorV
theorem goal_same (W H : Nat) (g : Int) (hW : 0 < W) (hW7 : W ≤ 7) (hH7 : H ≤ 7) (g0 : 0 ≤ g) (g1 : g < 100) :
    wrap64 ((wrap64 ((wrap64 ((wrap64 ((Int.tmod g (W : Int)) * (H : Int))) + (H : Int))) - 1)) - (wrap64 (Int.tdiv g (W : Int)))) = wrap64 ((wrap64 ((Int.tmod g (W : Int)) * (H : Int))) + (wrap64 ((wrap64 ((H : Int) - 1)) - (wrap64 (Int.tdiv g (W : Int)))))) := by
  have e1 : Int.tmod g (W : Int) = g % (W : Int) := Int.tmod_eq_emod_of_nonneg g0
  have e2 : Int.tdiv g (W : Int) = g / (W : Int) := Int.tdiv_eq_ediv_of_nonneg g0
  rw [e1, e2]
  have y0 : 0 ≤ g % (W : Int) := Int.emod_nonneg _ (by omega)
  have y1 : g % (W : Int) < (W : Int) := Int.emod_lt_of_pos _ (by omega)
  have q0 : 0 ≤ g / (W : Int) := Int.ediv_nonneg g0 (by omega)
  have q1 : g / (W : Int) ≤ g := Int.ediv_le_self _ g0
  have p0 : 0 ≤ g % (W : Int) * (H : Int) := Int.mul_nonneg y0 (by omega)
  have p1 : g % (W : Int) * (H : Int) ≤ 7 * 7 := Int.mul_le_mul (by omega) (by omega) (by omega) (by omega)
  generalize g % (W : Int) * (H : Int) = p at p0 p1 ⊢
  generalize g / (W : Int) = q at q0 q1 ⊢
  clear e1 e2 y0 y1
  rw [wr (n := p) (by omega) (by omega), wr (n := q) (by omega) (by omega), wr (n := p + (H : Int)) (by omega) (by omega), wr (n := p + (H : Int) - 1) (by omega) (by omega), wr (n := p + (H : Int) - 1 - q) (by omega) (by omega), wr (n := (H : Int) - 1) (by omega) (by omega), wr (n := (H : Int) - 1 - q) (by omega) (by omega), wr (n := p + ((H : Int) - 1 - q)) (by omega) (by omega)]
  omega
theorem FnExactTurnPuzzle : ∀ (t s : ByteArray) (g : Int), t.size ≤ 140737488351232 → s.size ≤ 140737488351232 → (Lit.int .i64 g).wf = true → ∃ k, laws_FnExactTurnPuzzle.f k t s g = some true := by
  intro t s g h0 h1 _
  rcases sz_cases t s g h0 h1 with ⟨v, hv, c⟩ | ⟨v, hv, c, ht⟩
  · exact ⟨0, by rw [laws_FnExactTurnPuzzle.f, hv, Option.bind_some, if_pos c]⟩
  have same : ∃ r : ByteArray × ByteArray × Int × Bool, Ev (fun k => spec_TurnPuzzle.f k t s g) r ∧ Ev (fun k => impl_TurnPuzzle.f k t s g) r := by
    obtain ⟨b, S, I, hb⟩ := puz_same t s g ht
    cases b with
    | false => exact ⟨((⟨#[]⟩ : ByteArray), (⟨#[]⟩ : ByteArray), 0, false), Ev.congr (fun k => rfl) (Ev.bind S ⟨0, fun k _ => rfl⟩), Ev.congr (fun k => rfl) (Ev.bind I ⟨0, fun k _ => rfl⟩)⟩
    | true =>
      obtain ⟨ga, g0, g1⟩ := hb rfl
      have ra := tyRead_eq t
      rw [if_pos ga, B_CS] at ra
      obtain ⟨f1, f2, f3, f4, f5, f6, f7⟩ := good_facts ga
      have hl := B_len ga
      have hg2 : g < 100 := by omega
      have hl2 : (turnG (W t) (H t) (B t)).flatten.length = H t * W t := turnG_flat _ _ _
      have TS := tyTurn_eq hl (by omega) (by omega)
      have TI := turned_eq hl (by omega) (by omega) f2 f4 f5
      have XS := tyText_cs hl2 (by omega) (by omega) (by omega)
      have XI := trayText_eq hl2 (by omega) (by omega) (by omega) (by omega) (W t : Int)
      have hw0 : ¬ ((W t : Int) = 0) := by omega
      have rd := read_eq t ht
      rw [B_CS] at rd
      have gs := goal_same (W t) (H t) g (by omega) f2 f4 g0 hg2
      refine ⟨(T (H t) (turnG (W t) (H t) (B t)).flatten, s, wrap64 ((wrap64 ((wrap64 ((wrap64 ((Int.tmod g (W t : Int)) * (H t : Int))) + (H t : Int))) - 1)) - (wrap64 (Int.tdiv g (W t : Int)))), true), Ev.congr (fun k => rfl) (Ev.bind S ?_), Ev.congr (fun k => rfl) (Ev.bind I ?_)⟩
      · refine Ev.congr (g := _) (r := _) (fun k => if_pos rfl) (Ev.bind ra ?_)
        refine Ev.congr (g := _) (r := _) (fun k => if_neg hw0) (Ev.bind TS (Ev.bind XS (Ev.now _)))
      · refine Ev.congr (f := fun k => (impl_tray_turned.f k (W t : Int) (H t : Int) (ints (B t))).bind fun bt238 => ((impl_tray_text.f bt238.1 bt238.2.1 bt238.2.2).bind fun t244 => (if (W t : Int) = 0 then (none) else ((impl_tray_number.f bt238.1 bt238.2.1 bt238.2.2 (wrap64 ((wrap64 ((H t : Int) - 1)) - (wrap64 (Int.tdiv g (W t : Int))))) (Int.tmod g (W t : Int))).bind fun t245 => (some (t244, s, t245, true)))))) (g := _) (r := _) (fun k => ?_) (Ev.bind TI ⟨0, fun k _ => ?_⟩)
        · show ite _ _ _ = _
          rw [if_pos rfl, rd, Option.bind_some]
        · show (impl_tray_text.f (H t : Int) (W t : Int) (ints (turnG (W t) (H t) (B t)).flatten)).bind _ = _
          rw [XI, Option.bind_some, if_neg hw0, impl_tray_number.f, Option.bind_some, gs]
  obtain ⟨r, S, I⟩ := same
  refine Ev.rounds (Ev.congr (fun k => by rw [laws_FnExactTurnPuzzle.f, hv, Option.bind_some, if_neg c, laws_toPuzzle.f, Option.bind_some]) ?_)
  refine Ev.bind S (Ev.bind (Ev.now _) (Ev.bind I ⟨0, fun k _ => ?_⟩))
  have hb : ¬ (r.2.2.2 != r.2.2.2) = true := by cases r.2.2.2 <;> decide
  show (laws_eqPuzzle.f r.1 r.2.1 r.2.2.1 r.1 r.2.1 r.2.2.1).bind _ = _
  rw [laws_eqPuzzle.f, if_pos rfl, if_pos rfl, if_pos rfl, Option.bind_some, if_pos rfl, if_neg hb]
end Go.Proofs.YtcglmngfglmcgaaDoor.Pure
