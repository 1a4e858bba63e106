/- The reference's tyText (rows of cells, written with slashes), tyIf and the program's whole: in the words of the plain laws of trays. -/
import Derived.Test.YtcglmngfglmcgaaDoorLTray
import Derived.Test.YtcglmngfglmcgaaDoorQx3
set_option linter.unusedVariables false
set_option linter.unusedSimpArgs false
namespace Go.Proofs.YtcglmngfglmcgaaDoorL
open Go.RowKit Go.Proofs.YtcglmngfglmcgaaDoor.Q Go.Proofs.YtcglmngfglmcgaaDoorW.PrintWords Go.Proofs.YtcglmngfglmcgaaDoorW.PrintLast Go.Proofs.YtcglmngfglmcgaaDoorM

/-! ### rows, written with slashes -/
def tl (rs : List (List UInt8)) : List UInt8 := (rs.map (47 :: ·)).flatten
def txt : List (List UInt8) → List UInt8
  | [] => []
  | r :: rs => r ++ tl rs
theorem tl_append (a b : List (List UInt8)) : tl (a ++ b) = tl a ++ tl b := by simp [tl]
theorem tl_cons (r : List UInt8) (rs : List (List UInt8)) : tl (r :: rs) = 47 :: r ++ tl rs := by simp [tl]
theorem txt_append {a b : List (List UInt8)} (ha : a ≠ []) (hb : b ≠ []) : txt (a ++ b) = txt a ++ 47 :: txt b := by
  match a, b, ha, hb with
  | r :: rs, s :: ss, _, _ => simp [txt, tl_append, tl_cons]
theorem txt_join (rs : List (List UInt8)) : Lib.join rs [47] = txt rs := by
  match rs with
  | [] => rfl
  | r :: rs =>
    rw [Lib.join_cons]
    rfl
theorem splitC_txt : ∀ l : List UInt8, txt (splitC 47 l) = l := by
  intro l
  induction l with
  | nil => rfl
  | cons b l ih =>
    obtain ⟨r, rs, e⟩ := splitC_form 47 l
    rw [e] at ih
    by_cases hb : b = 47
    · subst hb
      rw [splitC_at, e]
      show [] ++ tl (r :: rs) = _
      rw [tl_cons, List.nil_append, List.cons_append]
      exact congrArg _ ih
    · rw [splitC_ne hb e]
      show (b :: r) ++ tl rs = _
      rw [List.cons_append]
      exact congrArg _ ih
theorem txt_rows (t : ByteArray) : txt (rowsOf t) = t.data.toList := splitC_txt _
theorem strOf_ints (l : List UInt8) : strOfNums (ints l) = ⟨l.toArray⟩ := by
  unfold strOfNums ints
  congr 2
  rw [List.map_map]
  conv => rhs; rw [← List.map_id l]
  congr 1
  funext b
  simp
theorem take_flat {n : Nat} : ∀ {l : List (List UInt8)}, (∀ q ∈ l, q.length = n) → ∀ (i : Nat) (hi : i < l.length), (l.flatten.take ((i + 1) * n)).drop (i * n) = l[i]
  | [], _, i, hi => absurd hi (Nat.not_lt_zero _)
  | q :: l, h, i, hi => by
    have hq : q.length = n := h q (List.mem_cons_self ..)
    match i with
    | 0 =>
      rw [List.flatten_cons, Nat.zero_mul, List.drop_zero, Nat.zero_add, Nat.one_mul, List.take_append_of_le_length (by omega), List.take_of_length_le (by omega)]
      rfl
    | i + 1 =>
      have h1 := take_flat (l := l) (fun q hq => h q (List.mem_cons_of_mem _ hq)) i (by simpa using hi)
      have e1 : (i + 1 + 1) * n = q.length + (i + 1) * n := by rw [Nat.add_mul (i + 1), hq]; omega
      have e2 : (i + 1) * n = q.length + i * n := by rw [Nat.add_mul i, hq]; omega
      rw [List.flatten_cons, e1, List.take_length_add_append]
      conv => lhs; rw [e2]
      rw [List.drop_length_add_append, List.getElem_cons_succ, ← h1, ← e2]
theorem txt_take (rs : List (List UInt8)) (i : Nat) (hi : i < rs.length) (h0 : 0 < i) : txt (rs.take (i + 1)) = txt (rs.take i) ++ 47 :: rs[i] := by
  rw [List.take_succ_eq_append_getElem hi, txt_append]
  · simp [txt, tl]
  · intro h
    have := congrArg List.length h
    rw [List.length_take, List.length_nil] at this
    omega
  · simp
theorem tl_length (n : Nat) : ∀ {rs : List (List UInt8)}, (∀ q ∈ rs, q.length = n) → (tl rs).length = rs.length * (n + 1)
  | [], _ => by simp [tl]
  | q :: rs, h => by
    rw [tl_cons, List.length_append, tl_length n (fun q hq => h q (List.mem_cons_of_mem _ hq)), List.length_cons, List.length_cons, h q (List.mem_cons_self ..), Nat.add_mul, Nat.one_mul]
    omega
theorem txt_length {n : Nat} {rs : List (List UInt8)} (h : ∀ q ∈ rs, q.length = n) : (txt rs).length ≤ rs.length * (n + 1) := by
  match rs with
  | [] => simp [txt]
  | q :: rs =>
    have h1 := tl_length n (fun q hq => h q (List.mem_cons_of_mem _ hq))
    have h2 := h q (List.mem_cons_self ..)
    rw [txt, List.length_append, h1, h2, List.length_cons, Nat.add_mul, Nat.one_mul]
    omega
theorem wn {n : Nat} {z : Int} (h : n < 1000000) (hz : z = (n : Int)) : wrap64 z = (n : Int) := by
  rw [hz]
  exact wr (by omega) (by omega)
theorem ints_cut (l : List UInt8) (a b : Nat) : ((ints l).take b).drop a = ints ((l.take b).drop a) := by
  unfold ints
  rw [List.map_drop, List.map_take]
theorem app_mk (a b : List UInt8) : (⟨a.toArray⟩ : ByteArray) ++ (⟨b.toArray⟩ : ByteArray) = ⟨(a ++ b).toArray⟩ := by
  apply ByteArray.ext
  rw [ByteArray.data_append, List.append_toArray]
theorem size_mk (l : List UInt8) : (⟨l.toArray⟩ : ByteArray).size = l.length := by rw [Lib.size_eq]
theorem text_l0 (w : Nat) (rs : List (List UInt8)) (hr : ∀ q ∈ rs, q.length = w) (hw : w ≤ 100) (hh : rs.length ≤ 100) : ∀ (d i : Nat), rs.length - i = d → i ≤ rs.length →
    Ev (fun k => spec_tyText.l0 k ⟨(txt (rs.take i)).toArray⟩ (i : Int) (w : Int) (rs.length : Int) (ints rs.flatten)) ⟨(txt rs).toArray⟩ := by
  have hf : rs.flatten.length = w * rs.length := flat_len hr
  intro d
  induction d with
  | zero =>
    intro i hd hi
    have e : i = rs.length := by omega
    subst e
    rw [List.take_length]
    refine Ev.step (f := fun _ => some ⟨(txt rs).toArray⟩) (fun k => ?_) (Ev.now _)
    rw [spec_tyText.l0, if_neg (by omega)]
  | succ d ih =>
    intro i hd hi
    have hlt : i < rs.length := by omega
    have h1 := ih (i + 1) (by omega) (by omega)
    have g0 : (i : Int) < (rs.length : Int) := by omega
    have m1 : i * w ≤ 100 * 100 := Nat.mul_le_mul (by omega) hw
    have m2 : (i + 1) * w ≤ 100 * 100 := Nat.mul_le_mul (by omega) hw
    have m3 : (i + 1) * w ≤ w * rs.length := by rw [Nat.mul_comm w]; exact Nat.mul_le_mul_right _ (by omega)
    have m4 : i * w ≤ (i + 1) * w := Nat.mul_le_mul_right _ (by omega)
    have g1 : (0 : Int) ≤ ((i * w : Nat) : Int) := by omega
    have g2 : ((i * w : Nat) : Int) ≤ (((i + 1) * w : Nat) : Int) := by omega
    have g3 : (((i + 1) * w : Nat) : Int) ≤ ((ints rs.flatten).length : Int) := by rw [ints_length, hf]; omega
    have hq : (rs[i]).length = w := hr _ (List.getElem_mem hlt)
    have ht : (txt (rs.take i)).length ≤ 100 * 101 := by
      have z1 := txt_length (n := w) (rs := rs.take i) (fun q hq => hr q (List.mem_of_mem_take hq))
      have z2 : (rs.take i).length * (w + 1) ≤ 100 * 101 := Nat.mul_le_mul (by rw [List.length_take]; omega) (by omega)
      omega
    have s1 : (⟨(txt (rs.take i)).toArray⟩ : ByteArray).size + 1 ≤ 9223372036854775807 := by rw [size_mk]; omega
    have s2 : (⟨(txt (rs.take i)).toArray⟩ : ByteArray).size + (⟨(rs[i]).toArray⟩ : ByteArray).size ≤ 9223372036854775807 := by rw [size_mk, size_mk]; omega
    have s3 : (⟨(txt (rs.take i) ++ [47]).toArray⟩ : ByteArray).size + (⟨(rs[i]).toArray⟩ : ByteArray).size ≤ 9223372036854775807 := by rw [size_mk, size_mk, List.length_append, List.length_singleton]; omega
    have hcut : strOfNums (((ints rs.flatten).take ((((i + 1) * w : Nat) : Int)).toNat).drop (((i * w : Nat) : Int)).toNat) = ⟨(rs[i]).toArray⟩ := by
      rw [Int.toNat_natCast, Int.toNat_natCast, ints_cut, take_flat hr i hlt, strOf_ints]
    have b1 : i * w < 1000000 := by omega
    have b2 : (i + 1) * w < 1000000 := by omega
    have b3 : i + 1 < 1000000 := by omega
    have hi0 : 0 < i ↔ ((i : Int) > 0) := by omega
    have e0 : wrap64 ((i : Int) * (w : Int)) = ((i * w : Nat) : Int) := wn b1 (Int.natCast_mul _ _).symm
    have e1 : wrap64 ((i : Int) + 1) = ((i + 1 : Nat) : Int) := wn b3 rfl
    have e2 : wrap64 (((i + 1 : Nat) : Int) * (w : Int)) = (((i + 1) * w : Nat) : Int) := wn b2 (Int.natCast_mul _ _).symm
    have h47 : (⟨#[47]⟩ : ByteArray) = ⟨([47] : List UInt8).toArray⟩ := rfl
    refine Ev.step (fun k => ?_) h1
    rw [spec_tyText.l0, if_pos g0, e1, e2, e0, hcut]
    by_cases hi1 : 0 < i
    · rw [if_pos (hi0.1 hi1), if_pos s1, if_pos g1, if_pos g2, if_pos g3, h47, app_mk, if_pos s3, app_mk, txt_take rs i hlt hi1, List.append_assoc]
      rfl
    · have hz : i = 0 := Nat.eq_zero_of_not_pos hi1
      rw [if_neg (fun h => hi1 (hi0.2 h)), if_pos g1, if_pos g2, if_pos g3, if_pos s2, app_mk]
      subst hz
      rw [List.take_succ_eq_append_getElem hlt]
      simp [txt, tl]
/-- THE REFERENCE's WRITING. -/
theorem tyText_eq (w : Nat) (rs : List (List UInt8)) (hr : ∀ q ∈ rs, q.length = w) (hw : w ≤ 100) (hh : rs.length ≤ 100) :
    Ev (fun k => spec_tyText.f k (w : Int) (rs.length : Int) (ints rs.flatten)) ⟨(txt rs).toArray⟩ :=
  text_l0 w rs hr hw hh rs.length 0 rfl (Nat.zero_le _)
theorem good_rows {t : ByteArray} (h : good t = true) : ∀ q ∈ rowsOf t, q.length = W t := by
  obtain ⟨r, rs, e⟩ := rows_form t
  have hs : shaped (r :: rs) = true := by
    unfold good at h
    rw [e] at h
    simp only [Bool.and_eq_true] at h
    exact h.1
  obtain ⟨_, _, h5⟩ := shaped_iff.1 hs
  have hW : W t = r.length := by unfold W; rw [e]; rfl
  intro q hq
  rw [e] at hq
  rw [hW]
  exact (h5 q hq).2
end Go.Proofs.YtcglmngfglmcgaaDoorL
