/- A word turned by quarters: what the reference's tiTurn and the program's turnedWord say of a word of directions. -/
import Derived.Test.YtdjffbjljccmjaaDoorLWord
import Derived.Test.YtdjffbjljccmjaaDoorVTurnW
import Derived.Test.YtdjffbjljccmjaaDoorQx1
import Derived.Test.YtdjffbjljccmjaaDoorQx2
set_option linter.unusedVariables false
set_option linter.unusedSimpArgs false
namespace Go.Proofs.YtdjffbjljccmjaaDoorL
open Go.RowKit Go.Proofs.YtdjffbjljccmjaaDoor.Q Go.Proofs.YtdjffbjljccmjaaDoorW.PrintWords Go.Proofs.YtdjffbjljccmjaaDoorW.PrintLast Go.Proofs.YtdjffbjljccmjaaDoorV
def dirQB (d : Int) : UInt8 := if d = 0 then 117 else if d = 1 then 114 else if d = 2 then 100 else 108
def tB (q : Int) (b : UInt8) : UInt8 := dirQB ((dirI b + q) % 4)
def tW (q : Int) (t : ByteArray) : ByteArray := ⟨(t.data.toList.map (tB q)).toArray⟩
def DIRS : ByteArray := ⟨#[117, 114, 100, 108]⟩
theorem dir_cases {b : UInt8} (h : isDirB b = true) : b = 117 ∨ b = 114 ∨ b = 100 ∨ b = 108 := by
  unfold isDirB at h
  rw [List.contains_iff_mem] at h
  simpa using h
theorem dirI_range {b : UInt8} (h : isDirB b = true) : 0 ≤ dirI b ∧ dirI b < 4 := by
  rcases dir_cases h with rfl | rfl | rfl | rfl <;> decide
theorem tB_int (q : Int) (h0 : 0 ≤ q) (h1 : q < 4) {b : UInt8} (h : isDirB b = true) : UInt8.ofNat (TW.trnI q ((b.toNat : Nat) : Int)).toNat = tB q b := by
  have hq : q = 0 ∨ q = 1 ∨ q = 2 ∨ q = 3 := by omega
  rcases dir_cases h with rfl | rfl | rfl | rfl <;> rcases hq with rfl | rfl | rfl | rfl <;> rfl
theorem ok_int {b : UInt8} (h : isDirB b = true) : TW.okI ((b.toNat : Nat) : Int) = true := by
  rcases dir_cases h with rfl | rfl | rfl | rfl <;> rfl
theorem ext1 (m : Nat) (h : m < 4) : DIRS.extract m (m + 1) = ⟨#[dirQB (m : Int)]⟩ := by
  have : m = 0 ∨ m = 1 ∨ m = 2 ∨ m = 3 := by omega
  rcases this with rfl | rfl | rfl | rfl <;> rfl
theorem turned_eq (t : ByteArray) (q : Int) (h0 : 0 ≤ q) (h1 : q < 4) (hs : t.size ≤ 40) (hok : t.data.toList.all isDirB = true) : impl_turnedWord.f t q = some (tW q t) := by
  have h2 : (t.data.toList.map fun b => ((b.toNat : Nat) : Int)).all TW.okI = true := by
    rw [List.all_map, List.all_eq_true]
    intro b hb
    exact ok_int (List.all_eq_true.1 hok b hb)
  rw [impl_turnedWord.f, if_pos ⟨by omega, h0, h1, h2⟩]
  congr 1
  unfold strOfNums tW
  congr 2
  rw [List.map_map, List.map_map]
  refine List.map_congr_left fun b hb => ?_
  exact tB_int q h0 h1 (List.all_eq_true.1 hok b hb)
def accT (q : Int) (t : ByteArray) (i : Nat) : ByteArray := ⟨((t.data.toList.take i).map (tB q)).toArray⟩
theorem accT_size (q : Int) (t : ByteArray) (i : Nat) (h : i ≤ t.size) : (accT q t i).size = i := by
  show ((t.data.toList.take i).map (tB q)).toArray.size = i
  have : t.data.toList.length = t.size := by rw [Array.length_toList]; rfl
  simp
  omega
theorem accT_succ (q : Int) (t : ByteArray) (i : Nat) (h : i < t.size) : accT q t i ++ ⟨#[tB q (t.data[i]'h)]⟩ = accT q t (i + 1) := by
  have hl : i < t.data.toList.length := by rw [Array.length_toList]; exact h
  apply ByteArray.ext
  rw [ByteArray.data_append]
  unfold accT
  rw [List.take_succ_eq_append_getElem hl, List.map_append]
  simp
theorem tiTurn_l0 (t : ByteArray) (q : Int) (h0 : 0 ≤ q) (h1 : q < 4) (hs : t.size ≤ 40) (hok : t.data.toList.all isDirB = true) : ∀ (d i : Nat), t.size - i = d → i ≤ t.size → Ev (fun k => spec_tiTurn.l0 k t q (accT q t i) (i : Int)) (tW q t) := by
  intro d
  induction d with
  | zero =>
    intro i hd hi
    have e : i = t.size := by omega
    subst e
    have g : ¬ ((t.size : Int) < (t.size : Int)) := by omega
    have e2 : accT q t t.size = tW q t := by
      unfold accT tW
      rw [List.take_of_length_le (by rw [Array.length_toList]; exact Nat.le_refl _)]
    rw [e2]
    exact Ev.step (f := fun _ => some (tW q t)) (fun k => by rw [spec_tiTurn.l0, if_neg g]) (Ev.now _)
  | succ d ih =>
    intro i hd hi
    have hlt : i < t.size := by omega
    have hl : i < t.data.toList.length := by rw [Array.length_toList]; exact hlt
    have hI := ih (i + 1) (by omega) (by omega)
    have g : (i : Int) < (t.size : Int) := by omega
    have g0 : (0 : Int) ≤ (i : Int) := by omega
    have g1 : (i : Int) ≤ ((i + 1 : Nat) : Int) := by omega
    have g2 : ((i + 1 : Nat) : Int) ≤ (t.size : Int) := by omega
    have b : i + 1 < 1000000 := by omega
    have hb : isDirB (t.data[i]'hlt) = true := by
      have := List.all_eq_true.1 hok _ (List.getElem_mem hl)
      rwa [Array.getElem_toList] at this
    obtain ⟨r0, r1⟩ := dirI_range hb
    have D := tiDir_eq (t.data[i]'hlt)
    have hsz := accT_size q t i hi
    obtain ⟨z, hz⟩ : ∃ z, dirI (t.data[i]'hlt) = z := ⟨_, rfl⟩
    have hT : tB q (t.data[i]'hlt) = dirQB ((z + q) % 4) := by unfold tB; rw [hz]
    rw [hz] at D r0 r1
    obtain ⟨m, hm⟩ : ∃ m : Nat, (z + q) % 4 = (m : Int) := ⟨((z + q) % 4).toNat, by omega⟩
    have hm4 : m < 4 := by omega
    have m1 : m + 1 < 1000000 := by omega
    have hst : accT q t i ++ DIRS.extract m (m + 1) = accT q t (i + 1) := by
      rw [ext1 m hm4, ← accT_succ q t i hlt, hT, hm]
    have g3 : (0 : Int) ≤ (m : Int) := by omega
    have g4 : (m : Int) ≤ ((m + 1 : Nat) : Int) := by omega
    have g5 : ((m + 1 : Nat) : Int) ≤ (DIRS.size : Int) := by have : DIRS.size = 4 := rfl; omega
    have g6 : (accT q t i).size + (DIRS.extract m (m + 1)).size ≤ 9223372036854775807 := by
      rw [hsz, ByteArray.size_extract]
      omega
    have hD : spec_tiDirs.f = some DIRS := rfl
    have ew : wrap64 (z + q) = z + q := wrW (by omega) (by omega)
    have et : Int.tmod (z + q) 4 = (m : Int) := by rw [Int.tmod_eq_emod_of_nonneg (by omega)]; exact hm
    have em : wrap64 ((m : Int) + 1) = ((m + 1 : Nat) : Int) := wmW m1 rfl
    have e : wrap64 ((i : Int) + 1) = ((i + 1 : Nat) : Int) := wmW b rfl
    refine Ev.step (f := fun k => (spec_tiDir.f k ⟨#[t.data[i]'hlt]⟩).bind (fun t103 => ((spec_tiDirs.f).bind fun t104 => (if 0 ≤ (Int.tmod (wrap64 (t103 + q)) 4) then (if (Int.tmod (wrap64 (t103 + q)) 4) ≤ (wrap64 ((Int.tmod (wrap64 (t103 + q)) 4) + 1)) then (if (wrap64 ((Int.tmod (wrap64 (t103 + q)) 4) + 1)) ≤ (t104.size : Int) then (if (accT q t i).size + (t104.extract ((Int.tmod (wrap64 (t103 + q)) 4) : Int).toNat ((wrap64 ((Int.tmod (wrap64 (t103 + q)) 4) + 1)) : Int).toNat).size ≤ 9223372036854775807 then (spec_tiTurn.l0 k t q ((accT q t i) ++ (t104.extract ((Int.tmod (wrap64 (t103 + q)) 4) : Int).toNat ((wrap64 ((Int.tmod (wrap64 (t103 + q)) 4) + 1)) : Int).toNat)) ((i + 1 : Nat) : Int)) else (none)) else (none)) else (none)) else (none))))) (fun k => ?_) (Ev.bind D (Ev.congr (fun k => ?_) hI))
    · rw [spec_tiTurn.l0, if_pos g, if_pos g0, e, if_pos g1, if_pos g2, Int.toNat_natCast, Int.toNat_natCast, cut_one t i hlt]
    · rw [hD, Option.bind_some, ew, et, em, if_pos g3, if_pos g4, if_pos g5, Int.toNat_natCast, Int.toNat_natCast, if_pos g6, hst]
theorem tiTurn_eq (t : ByteArray) (q : Int) (h0 : 0 ≤ q) (h1 : q < 4) (hs : t.size ≤ 40) (hok : t.data.toList.all isDirB = true) : Ev (fun k => spec_tiTurn.f k t q) (tW q t) :=
  Ev.congr (fun k => rfl) (tiTurn_l0 t q h0 h1 hs hok t.size 0 rfl (Nat.zero_le _))
theorem wordOk_facts {t : ByteArray} (h : wordOk t = true) : t.size ≤ 40 ∧ t.data.toList.all isDirB = true := by
  unfold wordOk at h
  rw [Bool.and_eq_true, decide_eq_true_eq] at h
  exact h
end Go.Proofs.YtdjffbjljccmjaaDoorL
