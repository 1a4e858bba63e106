/- The program's JoinTrays returns what the reference's returns: for all arguments the law FnExactJoinTrays returns true. -/
import Derived.Test.YtghmjllfbaanoaaDoorLText
import Derived.Test.YtghmjllfbaanoaaDoorQx9
set_option linter.unusedVariables false
set_option linter.unusedSimpArgs false
namespace Go.Proofs.YtghmjllfbaanoaaDoor.Pure
open Go.RowKit Go.Proofs.YtghmjllfbaanoaaDoor.Q Go.Proofs.YtghmjllfbaanoaaDoorW.PrintWords Go.Proofs.YtghmjllfbaanoaaDoorW.PrintLast Go.Proofs.YtghmjllfbaanoaaDoorM Go.Proofs.YtghmjllfbaanoaaDoorL

theorem tell (g : Nat → Option (ByteArray × Bool)) (f : Nat → Option (ByteArray × Bool)) (r : ByteArray × Bool) (h1 : Ev g r) (h2 : Ev f r) :
    Ev (fun k => (g k).bind fun b1 => (f k).bind fun b2 => (if b2.1.toList = b1.1.toList then (if (b2.2 != b1.2) = true then (some false) else (some true)) else (some false))) true := by
  refine Ev.bind h1 (Ev.bind h2 ?_)
  refine ⟨0, fun k _ => ?_⟩
  simp
def nothing : ByteArray × Bool := ((⟨#[]⟩ : ByteArray), false)
theorem slashed (a b : ByteArray) : (a ++ (⟨#[47]⟩ : ByteArray)) ++ b = ⟨(a.data.toList ++ 47 :: b.data.toList).toArray⟩ := by
  have h47 : (⟨#[47]⟩ : ByteArray) = ⟨([47] : List UInt8).toArray⟩ := rfl
  have ha : a = ⟨a.data.toList.toArray⟩ := rfl
  have hb : b = ⟨b.data.toList.toArray⟩ := rfl
  conv => lhs; rw [h47, ha, hb, app_mk, app_mk]
  rw [List.append_assoc]
  rfl
theorem FnExactJoinTrays : laws_FnExactJoinTrays.Pure := by
  intro a b _ _
  by_cases hta : (a.size : Int) > 1048576
  · exact ⟨0, by rw [laws_FnExactJoinTrays.f, if_pos hta]⟩
  by_cases htb : (b.size : Int) > 1048576
  · exact ⟨0, by rw [laws_FnExactJoinTrays.f, if_neg hta, if_pos htb]⟩
  refine Ev.rounds (Ev.congr (fun k => by rw [laws_FnExactJoinTrays.f, if_neg hta, if_neg htb]) ?_)
  have ha' : a.size ≤ 1048576 := by omega
  have hb' : b.size ≤ 1048576 := by omega
  have ia := isTray_eq a ha'
  have ib := isTray_eq b hb'
  have ra := tyRead_eq a
  have rb := tyRead_eq b
  by_cases ga : good a = true
  · rw [ga] at ia
    rw [if_pos ga] at ra
    by_cases gb : good b = true
    · rw [gb] at ib
      rw [if_pos gb] at rb
      by_cases hw : W a = W b
      · obtain ⟨f1, f2, f3, f4, f5, f6, f7⟩ := good_facts ga
        obtain ⟨g1, g2, g3, g4, g5, g6, g7⟩ := good_facts gb
        have hrows : ∀ q ∈ rowsOf a ++ rowsOf b, q.length = W a := by
          intro q hq
          rcases List.mem_append.1 hq with h | h
          · exact good_rows ga q h
          · rw [hw]; exact good_rows gb q h
        have hlen : (rowsOf a ++ rowsOf b).length = H a + H b := List.length_append
        have hl14 : (rowsOf a ++ rowsOf b).length ≤ 100 := by omega
        have hw100 : W a ≤ 100 := by omega
        have T := tyIf_eq (W a) (rowsOf a ++ rowsOf b) hrows hw100 hl14
        have htx : txt (rowsOf a ++ rowsOf b) = a.data.toList ++ 47 :: b.data.toList := by
          rw [txt_append, txt_rows, txt_rows]
          · obtain ⟨r, rs, e⟩ := rows_form a
            rw [e]; simp
          · obtain ⟨r, rs, e⟩ := rows_form b
            rw [e]; simp
        rw [htx] at T
        have S := slashed a b
        have hz : ((a ++ (⟨#[47]⟩ : ByteArray)) ++ b).size ≤ 1048576 := by
          rw [S, size_mk, List.length_append, List.length_cons, ← Lib.size_eq, ← Lib.size_eq]
          omega
        have V := whole_eq _ hz
        rw [S] at V
        have z1 : a.size + 1 ≤ 9223372036854775807 := by omega
        have z2 : (a ++ (⟨#[47]⟩ : ByteArray)).size + b.size ≤ 9223372036854775807 := by
          rw [ByteArray.size_append]
          show a.size + 1 + b.size ≤ _
          omega
        have hH : wrap64 ((H a : Int) + (H b : Int)) = ((rowsOf a ++ rowsOf b).length : Int) := by
          rw [hlen]
          exact wn (by omega) (Int.natCast_add _ _).symm
        have hC : CS a ++ CS b = ints (rowsOf a ++ rowsOf b).flatten := by
          rw [List.flatten_append, ints_append]
          rfl
        have hWI : (W a : Int) = (W b : Int) := congrArg _ hw
        have c0 : ([] : List Int).length + (CS a).length < 140737488355328 := by rw [List.length_nil]; omega
        have c1 : (([] : List Int) ++ CS a).length + (CS b).length < 140737488355328 := by rw [List.nil_append]; omega
        obtain ⟨R, hR⟩ : ∃ R, (if good ⟨(a.data.toList ++ 47 :: b.data.toList).toArray⟩ = true then ((⟨(a.data.toList ++ 47 :: b.data.toList).toArray⟩ : ByteArray), true) else ((⟨#[]⟩ : ByteArray), false)) = R := ⟨_, rfl⟩
        rw [hR] at T V
        refine tell _ _ R (Ev.congr (fun k => rfl) (Ev.bind ra (Ev.bind rb ?_))) (Ev.congr (fun k => rfl) (Ev.bind ia ?_))
        · refine Ev.congr (f := fun k => (spec_tyIf.f k (W a : Int) ((rowsOf a ++ rowsOf b).length : Int) (ints (rowsOf a ++ rowsOf b).flatten)).bind fun bt => some (bt.1, bt.2)) (g := _) (r := R) (fun k => ?_) (Ev.bind T (Ev.now _))
          rw [if_pos rfl, if_pos rfl, if_pos hWI, Option.bind_some, if_pos c0, Option.bind_some, if_pos c1, List.nil_append, hH, hC]
        · refine Ev.congr (g := _) (r := R) (fun k => if_pos rfl) (Ev.bind ib ?_)
          refine Ev.congr (f := fun k => (impl_whole.f k ⟨(a.data.toList ++ 47 :: b.data.toList).toArray⟩).bind fun bt => some (bt.1, bt.2)) (g := _) (r := R) (fun k => ?_) (Ev.bind V (Ev.now _))
          rw [if_pos rfl, read_eq a ha', Option.bind_some, read_eq b hb', Option.bind_some, if_pos hWI, if_pos z1, if_pos z2, S]
      · have hWI : ¬ ((W a : Int) = (W b : Int)) := by omega
        refine tell _ _ nothing (Ev.congr (fun k => rfl) (Ev.bind ra (Ev.bind rb ?_))) (Ev.congr (fun k => rfl) (Ev.bind ia ?_))
        · refine ⟨0, fun k _ => ?_⟩
          show ite _ _ _ = _
          rw [if_pos rfl, if_pos rfl, if_neg hWI]
          rfl
        · refine Ev.congr (g := _) (r := nothing) (fun k => if_pos rfl) (Ev.bind ib ?_)
          refine ⟨0, fun k _ => ?_⟩
          show ite _ _ _ = _
          rw [if_pos rfl, read_eq a ha', Option.bind_some, read_eq b hb', Option.bind_some, if_neg hWI]
          rfl
    · rw [Bool.eq_false_iff.2 gb] at ib
      rw [if_neg gb] at rb
      refine tell _ _ nothing (Ev.congr (fun k => rfl) (Ev.bind ra (Ev.bind rb ?_))) (Ev.congr (fun k => rfl) (Ev.bind ia ?_))
      · exact ⟨0, fun k _ => rfl⟩
      · refine Ev.congr (g := _) (r := nothing) (fun k => if_pos rfl) (Ev.bind ib ?_)
        exact ⟨0, fun k _ => rfl⟩
  · rw [Bool.eq_false_iff.2 ga] at ia
    rw [if_neg ga] at ra
    refine tell _ _ nothing (Ev.congr (fun k => rfl) (Ev.bind ra (Ev.bind rb ?_))) (Ev.congr (fun k => rfl) (Ev.bind ia ?_))
    · exact ⟨0, fun k _ => rfl⟩
    · exact ⟨0, fun k _ => rfl⟩

end Go.Proofs.YtghmjllfbaanoaaDoor.Pure
