/- The program's MirrorBoard returns what the reference's returns: for every board the law FnExactMirrorBoard returns true. -/
import Derived.Test.YtljnblcflngliaaLMarkB
import Derived.Test.YtljnblcflngliaaVMirB
import Derived.Test.YtljnblcflngliaaQx3
import Derived.Test.YtljnblcflngliaaQx4
import Derived.Test.YtljnblcflngliaaQx6
set_option linter.unusedVariables false
set_option linter.unusedSimpArgs false
namespace Go.Proofs.Ytljnblcflngliaa.Pure
open Go.RowKit Go.Proofs.Ytljnblcflngliaa.Q Go.Proofs.YtljnblcflngliaaW.PrintWords Go.Proofs.YtljnblcflngliaaW.PrintLast Go.Proofs.YtljnblcflngliaaV Go.Proofs.YtljnblcflngliaaL
theorem at_int (wd hd k : Nat) (hk : k ≤ 100) (hh : hd ≤ 100) : wrap64 ((wrap64 ((Int.tmod (k : Int) (wd : Int)) * (hd : Int))) + (wrap64 (Int.tdiv (k : Int) (wd : Int)))) = ((MB.mirAt wd hd k : Nat) : Int) := by
  have e1 : Int.tmod (k : Int) (wd : Int) = ((k % wd : Nat) : Int) := by rw [Int.tmod_eq_emod_of_nonneg (by omega)]; exact (Int.natCast_emod k wd).symm
  have e2 : Int.tdiv (k : Int) (wd : Int) = ((k / wd : Nat) : Int) := by rw [Int.tdiv_eq_ediv_of_nonneg (by omega)]; exact (Int.natCast_ediv k wd).symm
  have b1 : k % wd ≤ k := Nat.mod_le k wd
  have b2 : k / wd ≤ k := Nat.div_le_self k wd
  have b3 : k % wd * hd ≤ 100 * 100 := Nat.mul_le_mul (by omega) hh
  have e3 : ((k % wd : Nat) : Int) * (hd : Int) = ((k % wd * hd : Nat) : Int) := by rw [Int.natCast_mul]
  rw [e1, e2, e3, wb (n := k / wd) (by omega) rfl, wb (n := k % wd * hd) (by omega) rfl, ← Int.natCast_add, wb (n := k % wd * hd + k / wd) (by omega) rfl]
  rfl
theorem rd_getD (l : List Int) (i : Nat) : rd l (i : Int) = l.getD i 0 := by
  unfold rd
  rw [Int.toNat_natCast]
theorem spec_l0 (wd hd : Nat) (l : List Int) (w0 : 1 ≤ wd) (w1 : wd ≤ 3) (g0 : 1 ≤ hd) (g1 : hd ≤ 3) (hlen : l.length = wd * hd) (hv : ∀ x ∈ l, 0 ≤ x ∧ x < (l.length : Int)) : ∀ (d i : Nat), l.length - i = d → i ≤ l.length →
    Ev (fun k => spec_MirrorBoard.l0 k (wd : Int) (hd : Int) l (l.length : Int) (i : Int) (hd : Int) (MB.mirSt wd hd l i)) ((hd : Int), MB.mirSt wd hd l l.length, true) := by
  have h9 : l.length ≤ 9 := by have : wd * hd ≤ 3 * 3 := Nat.mul_le_mul w1 g1; omega
  intro d
  induction d with
  | zero =>
    intro i hd' hi
    have e : i = l.length := by omega
    subst e
    have g : ¬ ((l.length : Int) < (l.length : Int)) := by omega
    exact Ev.step (f := fun _ => some ((hd : Int), MB.mirSt wd hd l l.length, true)) (fun k => by rw [spec_MirrorBoard.l0, if_neg g]) (Ev.now _)
  | succ d ih =>
    intro i hd' hi
    have hlt : i < l.length := by omega
    have h1 := ih (i + 1) (by omega) (by omega)
    have g : (i : Int) < (l.length : Int) := by omega
    have gi : (0 : Int) ≤ (i : Int) := by omega
    have e : wrap64 ((i : Int) + 1) = ((i + 1 : Nat) : Int) := wb (by omega) rfl
    have hm := MB.mirAt_lt w0 hlen hlt
    have ea := at_int wd hd i (by omega) (by omega)
    have hw : ¬ (wd : Int) = 0 := by omega
    have ga : (0 : Int) ≤ ((MB.mirAt wd hd i : Nat) : Int) := by omega
    have gb : ((MB.mirAt wd hd i : Nat) : Int) < ((MB.mirSt wd hd l i).length : Int) := by rw [MB.mirSt_len]; omega
    have hx := hv (l.getD i 0) (by rw [List.getD_eq_getElem?_getD, List.getElem?_eq_getElem hlt]; exact List.getElem_mem hlt)
    have es : MB.mirSt wd hd l (i + 1) = (MB.mirSt wd hd l i).set (MB.mirAt wd hd i) (MB.mirV wd hd (l.getD i 0)) := rfl
    rw [es] at h1
    have hrd := rd_getD l i
    generalize l.getD i 0 = x at *
    by_cases hp : x > 0
    · obtain ⟨q, rfl⟩ : ∃ q : Nat, x = (q : Int) + 1 := ⟨(x - 1).toNat, by omega⟩
      have e2 : wrap64 ((q : Int) + 1 - 1) = (q : Int) := wb (by omega) (by omega)
      have eq := at_int wd hd q (by omega) (by omega)
      have hmq := MB.mirAt_lt (i := q) w0 hlen (by omega)
      have e3 : wrap64 (((MB.mirAt wd hd q : Nat) : Int) + 1) = ((MB.mirAt wd hd q + 1 : Nat) : Int) := wb (by omega) rfl
      have e4 : MB.mirV wd hd ((q : Int) + 1) = ((MB.mirAt wd hd q + 1 : Nat) : Int) := by
        unfold MB.mirV
        rw [if_pos hp, Int.add_sub_cancel, MB.mirAt_int]
        rfl
      rw [e4] at h1
      refine Ev.step (fun k => ?_) h1
      rw [spec_MirrorBoard.l0, if_pos g, if_pos gi, if_pos g, hrd, if_pos hp, if_neg hw, ea, if_pos ga, if_pos gb, e, e2, eq, e3, Int.toNat_natCast]
    · have e4 : MB.mirV wd hd x = 0 := by
        unfold MB.mirV
        rw [if_neg hp]
        omega
      rw [e4] at h1
      refine Ev.step (fun k => ?_) h1
      rw [spec_MirrorBoard.l0, if_pos g, if_pos gi, if_pos g, hrd, if_neg hp, if_neg hw, ea, if_pos ga, if_pos gb, e, Int.toNat_natCast]
theorem alike (a : Int) (l : List Int) (hl : l.length ≤ 1048576) : ∃ r : Int × List Int × Bool, Ev (fun k => spec_MirrorBoard.f k a l) r ∧ impl_MirrorBoard.f a l = some r ∧ r.2.1.length ≤ 1048576 := by
  have G := blGood_eq a l hl
  have hI : impl_MirrorBoard.f a l = some (mirF a l) := by rw [impl_MirrorBoard.f, if_pos (by omega)]
  refine ⟨mirF a l, ?_, hI, ?_⟩
  · unfold mirF
    rw [isBoard_isB]
    refine Ev.congr (fun k => rfl) (Ev.bind G ?_)
    cases hb : isB a l with
    | false => exact ⟨0, fun k _ => rfl⟩
    | true =>
      obtain ⟨wd, hd, rfl, w0, w1, g0, g1, hlen, hdv, hv⟩ := boardB_facts ((isBoard_isB a l).trans hb)
      have h9 : l.length ≤ 9 := by have : wd * hd ≤ 3 * 3 := Nat.mul_le_mul w1 g1; omega
      have hw : ¬ (wd : Int) = 0 := by omega
      have g2 : (0 : Int) ≤ (l.length : Int) := by omega
      have g3 : ((l.length : Int) : Int).toNat ≤ 35184372088832 := by rw [Int.toNat_natCast]; omega
      have ed : wrap64 ((l.length : Int) / (wd : Int)) = (hd : Int) := by rw [← Int.natCast_ediv, hdv]; exact wb (by omega) rfl
      have ew : ((wd : Nat) : Int).toNat = wd := Int.toNat_natCast wd
      rw [if_pos rfl, ew, hdv]
      refine Ev.congr (fun k => ?_) (spec_l0 wd hd l w0 w1 g0 g1 hlen hv l.length 0 rfl (Nat.zero_le _))
      rw [if_pos rfl, if_neg hw, if_pos g2, if_pos g3, ed, Int.toNat_natCast]
      rfl
  · unfold mirF
    by_cases hb : isBoardB a l = true
    · rw [if_pos hb]
      show (MB.mirSt _ _ l l.length).length ≤ _
      rw [MB.mirSt_len]
      exact hl
    · rw [if_neg hb]
      exact Nat.zero_le _
theorem FnExactMirrorBoard : ∀ (a : Int) (l : List Int), (Lit.int .i64 a).wf = true → l.length ≤ maxLen → (∀ x ∈ l, (Lit.int .i64 x).wf = true) → ∃ k, laws_FnExactMirrorBoard.f k a l = some true := by
  intro a l _ hm _
  by_cases hl : l.length ≤ 1048576
  · have g : ¬ ((1048576 : Int) - (l.length : Int)) < 0 := by omega
    refine Ev.rounds (Ev.congr (fun k => by rw [laws_FnExactMirrorBoard.f, szBoard_small a l hl, Option.bind_some, if_neg g]) ?_)
    have tb := toBoard_eq a l hl
    obtain ⟨⟨r1, r2, r3⟩, hS, hI, hr⟩ := alike a l hl
    have hb : (r3 != r3) = false := by cases r3 <;> rfl
    have hf : ¬ false = true := by decide
    have er := eqBoard_same r1 r2 hr
    have mr := markBoard_eq r1 r2 hr
    have hr2 := heldBoard_eq r1 r2.length hr
    have ma := markBoard_eq a l hl
    have n0 : ¬ ((l.length + 1 : Nat) : Int) < 0 := by omega
    have n1 : ¬ ((r2.length + 1 : Nat) : Int) < 0 := by omega
    have J2 : Ev (fun k => laws_FnExactMirrorBoard.j2 k ((r2.length + 1 : Nat) : Int) false r1 (marks r2.length)) true := by
      refine Ev.step (f := fun k => (laws_heldBoard.f k r1 (marks r2.length) 1).bind fun t316 => (if t316 < 0 then (some false) else (if t316 = ((r2.length + 1 : Nat) : Int) then (some true) else (some false)))) (fun k => by rw [laws_FnExactMirrorBoard.j2, if_neg hf]) (Ev.bind hr2 ⟨0, fun k _ => ?_⟩)
      rw [if_neg n1, if_pos rfl]
    have J1 : Ev (fun k => laws_FnExactMirrorBoard.j1 k r3 false a l r1 r2 r1 r2) true := by
      refine Ev.step (f := fun k => (laws_markBoard.f k r1 r2 1).bind fun bt302 => ((laws_heldBoard.f k r1 bt302.2 1).bind fun t304 => (if t304 < 0 then (some false) else (if t304 = bt302.1 then ((laws_toBoard.f k a l).bind fun bt305 => ((impl_MirrorBoard.f bt305.1 bt305.2).bind fun bt309 => ((laws_eqBoard.f k bt309.1 bt309.2.1 r1 r2).bind fun t315 => (if t315 = true then (laws_FnExactMirrorBoard.j2 k bt302.1 (bt309.2.2 != r3) r1 bt302.2) else (laws_FnExactMirrorBoard.j2 k bt302.1 true r1 bt302.2))))) else (some false))))) (fun k => by rw [laws_FnExactMirrorBoard.j1, if_neg hf]) ?_
      refine Ev.bind mr (Ev.bind hr2 ?_)
      refine Ev.congr (f := fun k => (laws_toBoard.f k a l).bind fun bt305 => ((impl_MirrorBoard.f bt305.1 bt305.2).bind fun bt309 => ((laws_eqBoard.f k bt309.1 bt309.2.1 r1 r2).bind fun t315 => (if t315 = true then (laws_FnExactMirrorBoard.j2 k ((r2.length + 1 : Nat) : Int) (bt309.2.2 != r3) r1 (marks r2.length)) else (laws_FnExactMirrorBoard.j2 k ((r2.length + 1 : Nat) : Int) true r1 (marks r2.length)))))) (g := _) (r := true) (fun k => (if_neg n1).trans (if_pos rfl)) ?_
      refine Ev.bind tb (Ev.congr (f := fun k => (laws_eqBoard.f k r1 r2 r1 r2).bind fun t315 => (if t315 = true then (laws_FnExactMirrorBoard.j2 k ((r2.length + 1 : Nat) : Int) (r3 != r3) r1 (marks r2.length)) else (laws_FnExactMirrorBoard.j2 k ((r2.length + 1 : Nat) : Int) true r1 (marks r2.length)))) (g := _) (r := true) (fun k => by rw [hI, Option.bind_some]) (Ev.bind er ?_))
      exact Ev.congr (f := fun k => laws_FnExactMirrorBoard.j2 k ((r2.length + 1 : Nat) : Int) false r1 (marks r2.length)) (g := _) (r := true) (fun k => (if_pos rfl).trans (by rw [hb])) J2
    have J0 : Ev (fun k => laws_FnExactMirrorBoard.j0 k r3 r3 false a l r1 r2 a l r1 r2) true := by
      refine Ev.step (f := fun k => (laws_toBoard.f k a l).bind fun bt294 => ((laws_eqBoard.f k a l bt294.1 bt294.2).bind fun t298 => (if t298 = true then ((laws_markBoard.f k a l 1).bind fun bt299 => (if bt299.1 < 0 then (laws_FnExactMirrorBoard.j1 k r3 true a l r1 r2 r1 r2) else ((laws_eqBoard.f k r1 r2 r1 r2).bind fun t301 => (if t301 = true then (laws_FnExactMirrorBoard.j1 k r3 (r3 != r3) a l r1 r2 r1 r2) else (laws_FnExactMirrorBoard.j1 k r3 true a l r1 r2 r1 r2))))) else (some false)))) (fun k => by rw [laws_FnExactMirrorBoard.j0, if_neg hf]) ?_
      refine Ev.bind tb (Ev.bind (eqBoard_same a l hl) ?_)
      refine Ev.congr (f := fun k => (laws_markBoard.f k a l 1).bind fun bt299 => (if bt299.1 < 0 then (laws_FnExactMirrorBoard.j1 k r3 true a l r1 r2 r1 r2) else ((laws_eqBoard.f k r1 r2 r1 r2).bind fun t301 => (if t301 = true then (laws_FnExactMirrorBoard.j1 k r3 (r3 != r3) a l r1 r2 r1 r2) else (laws_FnExactMirrorBoard.j1 k r3 true a l r1 r2 r1 r2))))) (g := _) (r := true) (fun k => if_pos rfl) ?_
      refine Ev.bind ma ?_
      refine Ev.congr (f := fun k => (laws_eqBoard.f k r1 r2 r1 r2).bind fun t301 => (if t301 = true then (laws_FnExactMirrorBoard.j1 k r3 (r3 != r3) a l r1 r2 r1 r2) else (laws_FnExactMirrorBoard.j1 k r3 true a l r1 r2 r1 r2))) (g := _) (r := true) (fun k => if_neg n0) (Ev.bind er ?_)
      exact Ev.congr (f := fun k => laws_FnExactMirrorBoard.j1 k r3 false a l r1 r2 r1 r2) (g := _) (r := true) (fun k => (if_pos rfl).trans (by rw [hb])) J1
    refine Ev.bind tb (Ev.bind hS (Ev.bind tb ?_))
    refine Ev.congr (f := fun k => (laws_eqBoard.f k r1 r2 r1 r2).bind fun t165 => (if t165 = true then (laws_FnExactMirrorBoard.j0 k r3 r3 (r3 != r3) a l r1 r2 a l r1 r2) else (laws_FnExactMirrorBoard.j0 k r3 r3 true a l r1 r2 a l r1 r2))) (g := _) (r := true) (fun k => by rw [hI, Option.bind_some]) (Ev.bind er ?_)
    exact Ev.congr (f := fun k => laws_FnExactMirrorBoard.j0 k r3 r3 false a l r1 r2 a l r1 r2) (g := _) (r := true) (fun k => (if_pos rfl).trans (by rw [hb])) J0
  · exact ⟨0, by rw [laws_FnExactMirrorBoard.f, szBoard_great a l hl hm]; rfl⟩
end Go.Proofs.Ytljnblcflngliaa.Pure
