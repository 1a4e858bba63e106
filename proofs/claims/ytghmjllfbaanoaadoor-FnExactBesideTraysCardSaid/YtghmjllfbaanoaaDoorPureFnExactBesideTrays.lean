/- The program's BesideTrays returns what the reference's returns: for all arguments the law FnExactBesideTrays returns true. -/
import Derived.Test.YtghmjllfbaanoaaDoorLText
import Derived.Test.YtghmjllfbaanoaaDoorQx11
set_option linter.unusedVariables false
set_option linter.unusedSimpArgs false
namespace Go.Proofs.YtghmjllfbaanoaaDoor.Pure
open Go.RowKit Go.Proofs.YtghmjllfbaanoaaDoor.Q Go.Proofs.YtghmjllfbaanoaaDoorW.PrintWords Go.Proofs.YtghmjllfbaanoaaDoorW.PrintLast Go.Proofs.YtghmjllfbaanoaaDoorM Go.Proofs.YtghmjllfbaanoaaDoorL

theorem tell (g : Nat → Option (ByteArray × Bool)) (f : Nat → Option (ByteArray × Bool)) (r : ByteArray × Bool) (h1 : Ev g r) (h2 : Ev f r) :
    Ev (fun k => (g k).bind fun b1 => (f k).bind fun b2 => (if b2.1.toList = b1.1.toList then (if (b2.2 != b1.2) = true then (some false) else (some true)) else (some false))) true := by
  refine Ev.bind h1 (Ev.bind h2 ?_)
  refine ⟨0, fun k _ => ?_⟩
  simp
def nothing : ByteArray × Bool := ((⟨#[]⟩ : ByteArray), false)
def side (A B : List (List UInt8)) : List (List UInt8) := List.zipWith (· ++ ·) A B
theorem side_len {A B : List (List UInt8)} (h : A.length = B.length) : (side A B).length = A.length := by unfold side; rw [List.length_zipWith]; omega
theorem side_at {A B : List (List UInt8)} (h : A.length = B.length) (i : Nat) (hi : i < A.length) (hj : i < (side A B).length) : (side A B)[i] = A[i] ++ B[i] :=
  List.getElem_zipWith
theorem side_row {A B : List (List UInt8)} {m n : Nat} (ha : ∀ q ∈ A, q.length = m) (hb : ∀ q ∈ B, q.length = n) : ∀ q ∈ side A B, q.length = m + n := by
  intro q hq
  obtain ⟨i, hi, rfl⟩ := List.getElem_of_mem hq
  unfold side at hi ⊢
  rw [List.getElem_zipWith, List.length_append, ha _ (List.getElem_mem _), hb _ (List.getElem_mem _)]
/-- The reference's loop. -/
theorem spec_loop (m n h : Nat) (A B : List (List UInt8)) (ha : ∀ q ∈ A, q.length = m) (hb : ∀ q ∈ B, q.length = n) (hA : A.length = h) (hB : B.length = h) (hm : m ≤ 7) (hn : n ≤ 7) (hh : h ≤ 7) (r : ByteArray × Bool)
    (hr : Ev (fun k => spec_tyIf.f k ((m + n : Nat) : Int) (h : Int) (ints (side A B).flatten)) r) : ∀ (d i : Nat), h - i = d → i ≤ h →
    Ev (fun k => spec_BesideTrays.l0 k (i : Int) (m : Int) (h : Int) (ints A.flatten) (n : Int) (h : Int) (ints B.flatten) ((m + n : Nat) : Int) (h : Int) (ints ((side A B).take i).flatten)) r := by
  have hL : (side A B).length = h := by rw [side_len (by omega)]; exact hA
  intro d
  induction d with
  | zero =>
    intro i hd hi
    have e : i = (side A B).length := by omega
    subst e
    rw [List.take_length]
    refine Ev.step (f := fun k => (spec_tyIf.f k ((m + n : Nat) : Int) (h : Int) (ints (side A B).flatten)).bind fun bt => some (bt.1, bt.2)) (fun k => ?_) (Ev.bind hr (Ev.now _))
    rw [spec_BesideTrays.l0, if_neg (by omega)]
  | succ d ih =>
    intro i hd hi
    have hi2 : i < h := by omega
    have h1 := ih (i + 1) (by omega) (by omega)
    have hfa : A.flatten.length = m * A.length := flat_len ha
    have hfb : B.flatten.length = n * B.length := flat_len hb
    have g0 : (i : Int) < (h : Int) := by omega
    have m1 : i * m ≤ 7 * 7 := Nat.mul_le_mul (by omega) hm
    have m2 : (i + 1) * m ≤ 7 * 7 := Nat.mul_le_mul (by omega) hm
    have m3 : (i + 1) * m ≤ m * A.length := by rw [Nat.mul_comm m]; exact Nat.mul_le_mul_right _ (by omega)
    have m4 : i * m ≤ (i + 1) * m := Nat.mul_le_mul_right _ (by omega)
    have n1 : i * n ≤ 7 * 7 := Nat.mul_le_mul (by omega) hn
    have n2 : (i + 1) * n ≤ 7 * 7 := Nat.mul_le_mul (by omega) hn
    have n3 : (i + 1) * n ≤ n * B.length := by rw [Nat.mul_comm n]; exact Nat.mul_le_mul_right _ (by omega)
    have n4 : i * n ≤ (i + 1) * n := Nat.mul_le_mul_right _ (by omega)
    have p1 : (0 : Int) ≤ ((i * m : Nat) : Int) := by omega
    have p2 : ((i * m : Nat) : Int) ≤ (((i + 1) * m : Nat) : Int) := by omega
    have p3 : (((i + 1) * m : Nat) : Int) ≤ ((ints A.flatten).length : Int) := by rw [ints_length, hfa]; omega
    have q1 : (0 : Int) ≤ ((i * n : Nat) : Int) := by omega
    have q2 : ((i * n : Nat) : Int) ≤ (((i + 1) * n : Nat) : Int) := by omega
    have q3 : (((i + 1) * n : Nat) : Int) ≤ ((ints B.flatten).length : Int) := by rw [ints_length, hfb]; omega
    have la : i < A.length := by omega
    have lb : i < B.length := by omega
    have lA : (A[i]).length = m := ha _ (List.getElem_mem la)
    have lB : (B[i]).length = n := hb _ (List.getElem_mem lb)
    have ls : (ints ((side A B).take i).flatten).length = (m + n) * i := by
      rw [ints_length, flat_len (n := m + n) (fun q hq => side_row ha hb q (List.mem_of_mem_take hq)), List.length_take]
      congr 1
      omega
    have l1 : (m + n) * i ≤ 14 * 7 := Nat.mul_le_mul (by omega) (by omega)
    have c1 : (ints ((side A B).take i).flatten).length + (ints A[i]).length < 140737488355328 := by rw [ls, ints_length]; omega
    have c2 : (ints ((side A B).take i).flatten ++ ints A[i]).length + (ints B[i]).length < 140737488355328 := by rw [List.length_append, ls, ints_length, ints_length]; omega
    have cutA : ((ints A.flatten).take ((((i + 1) * m : Nat) : Int)).toNat).drop (((i * m : Nat) : Int)).toNat = ints A[i] := by
      rw [Int.toNat_natCast, Int.toNat_natCast, ints_cut, take_flat ha i la]
    have cutB : ((ints B.flatten).take ((((i + 1) * n : Nat) : Int)).toNat).drop (((i * n : Nat) : Int)).toNat = ints B[i] := by
      rw [Int.toNat_natCast, Int.toNat_natCast, ints_cut, take_flat hb i lb]
    have hst : ints ((side A B).take i).flatten ++ ints A[i] ++ ints B[i] = ints ((side A B).take (i + 1)).flatten := by
      have hj : i < (side A B).length := by omega
      rw [List.take_succ_eq_append_getElem hj, List.flatten_append, ints_append, side_at (by omega) i la hj, List.append_assoc, ← ints_append]
      simp
    have b1 : i * m < 1000000 := by omega
    have b2 : (i + 1) * m < 1000000 := by omega
    have b3 : i + 1 < 1000000 := by omega
    have b4 : i * n < 1000000 := by omega
    have b5 : (i + 1) * n < 1000000 := by omega
    have e0 : wrap64 ((i : Int) * (m : Int)) = ((i * m : Nat) : Int) := wn b1 (Int.natCast_mul _ _).symm
    have e1 : wrap64 ((i : Int) + 1) = ((i + 1 : Nat) : Int) := wn b3 rfl
    have e2 : wrap64 (((i + 1 : Nat) : Int) * (m : Int)) = (((i + 1) * m : Nat) : Int) := wn b2 (Int.natCast_mul _ _).symm
    have e3 : wrap64 ((i : Int) * (n : Int)) = ((i * n : Nat) : Int) := wn b4 (Int.natCast_mul _ _).symm
    have e4 : wrap64 (((i + 1 : Nat) : Int) * (n : Int)) = (((i + 1) * n : Nat) : Int) := wn b5 (Int.natCast_mul _ _).symm
    refine Ev.step (fun k => ?_) h1
    rw [spec_BesideTrays.l0, if_pos g0, e1, e2, e0, if_pos p1, if_pos p2, if_pos p3, cutA, Option.bind_some, if_pos c1, Option.bind_some, e4, e3, if_pos q1, if_pos q2, if_pos q3, cutB, Option.bind_some, if_pos c2, hst]
theorem rdOf_mk (t : ByteArray) (i : Nat) (hi : i < (rowsOf t).length) : rdOf ByteArray.empty (rowsB t) (i : Int) = ⟨((rowsOf t)[i]).toArray⟩ := by
  obtain ⟨b, q, h1, h2, h3, h4⟩ := rdOf_at t i hi
  rw [h1]
  rw [List.getElem?_eq_getElem hi] at h2
  rw [Option.some.inj h2, ← h3]
theorem maps (l : List (List UInt8)) : (l.map fun q => (⟨q.toArray⟩ : ByteArray)).map (·.data.toList) = l := by
  rw [List.map_map]
  conv => rhs; rw [← List.map_id l]
  rfl
/-- The program's loop. -/
theorem impl_loop (a b : ByteArray) (m n h : Nat) (ha : ∀ q ∈ rowsOf a, q.length = m) (hb : ∀ q ∈ rowsOf b, q.length = n) (hA : (rowsOf a).length = h) (hB : (rowsOf b).length = h) (hm : m ≤ 7) (hn : n ≤ 7) (hh : h ≤ 7) (r : ByteArray × Bool)
    (hr : Ev (fun k => impl_whole.f k ⟨(txt (side (rowsOf a) (rowsOf b))).toArray⟩) r) : ∀ (d i : Nat), h - i = d → i ≤ h →
    Ev (fun k => impl_BesideTrays.l0 k (rowsB a) (rowsB b) (((side (rowsOf a) (rowsOf b)).take i).map fun q => (⟨q.toArray⟩ : ByteArray)) (h : Int) (i : Int)) r := by
  have hL : (side (rowsOf a) (rowsOf b)).length = h := by rw [side_len (by omega)]; exact hA
  have hx : ∀ i ≤ h, (((side (rowsOf a) (rowsOf b)).take i).map fun q => (⟨q.toArray⟩ : ByteArray)).length = i := by
    intro i hi
    rw [List.length_map, List.length_take]
    omega
  have h2 := txt_length (n := m + n) (side_row ha hb)
  have h3 : (side (rowsOf a) (rowsOf b)).length * (m + n + 1) ≤ 7 * 15 := Nat.mul_le_mul (by omega) (by omega)
  intro d
  induction d with
  | zero =>
    intro i hd hi
    have e : i = (side (rowsOf a) (rowsOf b)).length := by omega
    have z1 : (((side (rowsOf a) (rowsOf b)).map fun q => (⟨q.toArray⟩ : ByteArray))).length ≤ 140737488355328 := by rw [List.length_map]; omega
    have z2 : (txt (side (rowsOf a) (rowsOf b))).length ≤ 140737488355328 := by omega
    have z3 : ¬ ((i : Int) < (h : Int)) := by omega
    have z4 : (⟨#[47]⟩ : ByteArray).data.toList = [47] := rfl
    subst e
    rw [List.take_length]
    refine Ev.step (f := fun k => (impl_whole.f k ⟨(txt (side (rowsOf a) (rowsOf b))).toArray⟩).bind fun bt => some (bt.1, bt.2)) (fun k => ?_) (Ev.bind hr (Ev.now _))
    rw [impl_BesideTrays.l0, if_neg z3, strings_Join.f, if_pos z1, maps, z4, txt_join, if_pos z2, Option.bind_some]
  | succ d ih =>
    intro i hd hi
    have hi2 : i < h := by omega
    have h1 := ih (i + 1) (by omega) (by omega)
    have g0 : (i : Int) < (h : Int) := by omega
    have g1 : (0 : Int) ≤ (i : Int) := by omega
    have g2 : (i : Int) < ((rowsB a).length : Int) := by rw [rowsB_len]; unfold H; omega
    have g3 : (i : Int) < ((rowsB b).length : Int) := by rw [rowsB_len]; unfold H; omega
    have la : i < (rowsOf a).length := by omega
    have lb : i < (rowsOf b).length := by omega
    have lA : ((rowsOf a)[i]).length = m := ha _ (List.getElem_mem la)
    have lB : ((rowsOf b)[i]).length = n := hb _ (List.getElem_mem lb)
    have g4 : (⟨((rowsOf a)[i]).toArray⟩ : ByteArray).size + (⟨((rowsOf b)[i]).toArray⟩ : ByteArray).size ≤ 9223372036854775807 := by rw [size_mk, size_mk]; omega
    have g5 : (((side (rowsOf a) (rowsOf b)).take i).map fun q => (⟨q.toArray⟩ : ByteArray)).length < 8796093022208 := by rw [hx i hi]; omega
    have b3 : i + 1 < 1000000 := by omega
    have hj : i < (side (rowsOf a) (rowsOf b)).length := by omega
    have hab : (rowsOf a).length = (rowsOf b).length := by omega
    have e1 : wrap64 ((i : Int) + 1) = ((i + 1 : Nat) : Int) := wn b3 rfl
    have hst : (((side (rowsOf a) (rowsOf b)).take i).map fun q => (⟨q.toArray⟩ : ByteArray)) ++ [(⟨((rowsOf a)[i]).toArray⟩ : ByteArray) ++ (⟨((rowsOf b)[i]).toArray⟩ : ByteArray)] = (((side (rowsOf a) (rowsOf b)).take (i + 1)).map fun q => (⟨q.toArray⟩ : ByteArray)) := by
      rw [List.take_succ_eq_append_getElem hj, List.map_append, app_mk, side_at hab i la hj]
      rfl
    refine Ev.step (fun k => ?_) h1
    rw [impl_BesideTrays.l0, if_pos g0, if_pos g1, if_pos g2, if_pos g3, rdOf_mk a i la, rdOf_mk b i lb, if_pos g4, if_pos g5, hst, e1]
theorem spec_j0_true (a b : Int) (c : List Int) (d e : Int) (f : List Int) : Ev (fun k => spec_BesideTrays.j0 k true a b c d e f) nothing :=
  Ev.step (f := fun _ => some nothing) (fun k => by rw [spec_BesideTrays.j0, if_pos rfl]; rfl) (Ev.now _)
theorem impl_j0_true (a b : ByteArray) : Ev (fun k => impl_BesideTrays.j0 k a b true) nothing :=
  Ev.step (f := fun _ => some nothing) (fun k => by rw [impl_BesideTrays.j0, if_pos rfl]; rfl) (Ev.now _)
theorem FnExactBesideTrays : laws_FnExactBesideTrays.Pure := by
  intro a b _ _
  by_cases hta : (a.size : Int) > 1048576
  · exact ⟨0, by rw [laws_FnExactBesideTrays.f, if_pos hta]⟩
  by_cases htb : (b.size : Int) > 1048576
  · exact ⟨0, by rw [laws_FnExactBesideTrays.f, if_neg hta, if_pos htb]⟩
  refine Ev.rounds (Ev.congr (fun k => by rw [laws_FnExactBesideTrays.f, if_neg hta, if_neg htb]) ?_)
  have ha' : a.size ≤ 1048576 := by omega
  have hb' : b.size ≤ 1048576 := by omega
  have sa : a.size < 4294967281 := by omega
  have sb : b.size < 4294967281 := by omega
  have ia := isTray_eq a ha'
  have ib := isTray_eq b hb'
  have ra := tyRead_eq a
  have rb := tyRead_eq b
  by_cases ga : good a = true
  · rw [ga] at ia
    rw [if_pos ga] at ra
    by_cases gb : good b = true
    · rw [gb] at ib
      rw [if_pos gb] at rb
      by_cases hh : H a = H b
      · obtain ⟨f1, f2, f3, f4, f5, f6, f7⟩ := good_facts ga
        obtain ⟨g1, g2, g3, g4, g5, g6, g7⟩ := good_facts gb
        have hab : (rowsOf a).length = (rowsOf b).length := hh
        have hrows := side_row (good_rows ga) (good_rows gb)
        have hlen : (side (rowsOf a) (rowsOf b)).length = H a := side_len hab
        have hl14 : (side (rowsOf a) (rowsOf b)).length ≤ 100 := by omega
        have hw100 : W a + W b ≤ 100 := by omega
        have T := tyIf_eq (W a + W b) (side (rowsOf a) (rowsOf b)) hrows hw100 hl14
        have hz : (⟨(txt (side (rowsOf a) (rowsOf b))).toArray⟩ : ByteArray).size ≤ 1048576 := by
          rw [size_mk]
          have h2 := txt_length (n := W a + W b) hrows
          have h3 : (side (rowsOf a) (rowsOf b)).length * (W a + W b + 1) ≤ 7 * 15 := Nat.mul_le_mul (by omega) (by omega)
          omega
        have V := whole_eq _ hz
        obtain ⟨R, hR⟩ : ∃ R, (if good ⟨(txt (side (rowsOf a) (rowsOf b))).toArray⟩ = true then ((⟨(txt (side (rowsOf a) (rowsOf b))).toArray⟩ : ByteArray), true) else ((⟨#[]⟩ : ByteArray), false)) = R := ⟨_, rfl⟩
        rw [hR] at T V
        rw [hlen] at T
        have hHH : (H b : Int) = (H a : Int) := congrArg _ hh.symm
        have hne : ((H a : Int) != (H b : Int)) = false := by rw [hHH]; simp
        have hW : wrap64 ((W a : Int) + (W b : Int)) = ((W a + W b : Nat) : Int) := wn (by omega) (Int.natCast_add _ _).symm
        have S := spec_loop (W a) (W b) (H a) (rowsOf a) (rowsOf b) (good_rows ga) (good_rows gb) rfl hh.symm f2 g2 f4 R T (H a) 0 rfl (Nat.zero_le _)
        have I := impl_loop a b (W a) (W b) (H a) (good_rows ga) (good_rows gb) rfl hh.symm f2 g2 f4 R V (H a) 0 rfl (Nat.zero_le _)
        refine tell _ _ R (Ev.congr (fun k => rfl) (Ev.bind ra (Ev.bind rb ?_))) (Ev.congr (fun k => rfl) (Ev.bind ia ?_))
        · refine Ev.congr (f := fun k => spec_BesideTrays.j0 k false (W a : Int) (H a : Int) (CS a) (W b : Int) (H b : Int) (CS b)) (g := _) (r := R) (fun k => ?_) (Ev.step (fun k => ?_) S)
          · rw [if_pos rfl, if_pos rfl, hne]
          · rw [spec_BesideTrays.j0, if_neg (by decide), hW, hHH]
            rfl
        · refine Ev.congr (g := _) (r := R) (fun k => if_pos rfl) (Ev.bind ib ?_)
          refine Ev.congr (f := fun k => impl_BesideTrays.j0 k a b false) (g := _) (r := R) (fun k => ?_) (Ev.step (fun k => ?_) I)
          · rw [if_pos rfl, read_eq a ha', Option.bind_some, read_eq b hb', Option.bind_some, hne]
          · rw [impl_BesideTrays.j0, if_neg (by decide), split_eq a sa, Option.bind_some, split_eq b sb, Option.bind_some, rowsB_len]
            rfl
      · have hne : ((H a : Int) != (H b : Int)) = true := by
          rw [bne_iff_ne]
          omega
        refine tell _ _ nothing (Ev.congr (fun k => rfl) (Ev.bind ra (Ev.bind rb ?_))) (Ev.congr (fun k => rfl) (Ev.bind ia ?_))
        · refine Ev.congr (g := _) (r := nothing) (fun k => ?_) (spec_j0_true (W a) (H a) (CS a) (W b) (H b) (CS b))
          rw [if_pos rfl, if_pos rfl, hne]
        · refine Ev.congr (g := _) (r := nothing) (fun k => if_pos rfl) (Ev.bind ib ?_)
          refine Ev.congr (g := _) (r := nothing) (fun k => ?_) (impl_j0_true a b)
          rw [if_pos rfl, read_eq a ha', Option.bind_some, read_eq b hb', Option.bind_some, hne]
    · rw [Bool.eq_false_iff.2 gb] at ib
      rw [if_neg gb] at rb
      refine tell _ _ nothing (Ev.congr (fun k => rfl) (Ev.bind ra (Ev.bind rb ?_))) (Ev.congr (fun k => rfl) (Ev.bind ia ?_))
      · exact spec_j0_true _ _ _ _ _ _
      · refine Ev.congr (g := _) (r := nothing) (fun k => if_pos rfl) (Ev.bind ib ?_)
        exact impl_j0_true a b
  · rw [Bool.eq_false_iff.2 ga] at ia
    rw [if_neg ga] at ra
    refine tell _ _ nothing (Ev.congr (fun k => rfl) (Ev.bind ra (Ev.bind rb ?_))) (Ev.congr (fun k => rfl) (Ev.bind ia ?_))
    · exact spec_j0_true _ _ _ _ _ _
    · exact impl_j0_true a b

end Go.Proofs.YtghmjllfbaanoaaDoor.Pure
