/- The texts of trays by their cells: what the program's method text writes and what the reference's tyText writes are the same rows with slashes. -/
import Derived.Test.YtcglmngfglmcgaaDoorLText
import Derived.Test.YtcglmngfglmcgaaDoorMGrid
import Derived.Test.YtcglmngfglmcgaaDoorVText
import Derived.Test.YtcglmngfglmcgaaDoorQx7
set_option linter.unusedVariables false
set_option linter.unusedSimpArgs false
namespace Go.Proofs.YtcglmngfglmcgaaDoorL
open Go.RowKit Go.Proofs.YtcglmngfglmcgaaDoor.Q Go.Proofs.YtcglmngfglmcgaaDoorW.PrintWords Go.Proofs.YtcglmngfglmcgaaDoorW.PrintLast Go.Proofs.YtcglmngfglmcgaaDoorM Go.Proofs.YtcglmngfglmcgaaDoorV

/-- A tray's text, by its cells. -/
def T (w : Nat) (cs : List UInt8) : ByteArray := ⟨(txt (chunks w cs)).toArray⟩
theorem ints_drop (l : List UInt8) (a : Nat) : (ints l).drop a = ints (l.drop a) := by unfold ints; rw [List.map_drop]
theorem ints_take (l : List UInt8) (a : Nat) : (ints l).take a = ints (l.take a) := by unfold ints; rw [List.map_take]
theorem pieces_eq (w : Nat) (cs : List UInt8) : (pieces w (ints cs)).map (·.data.toList) = chunks w cs := by
  unfold pieces chunks nch
  rw [List.map_map, ints_length]
  apply List.map_congr_left
  intro i _
  show (piece w (ints cs) i).data.toList = _
  unfold piece
  rw [ints_drop, ints_take, strOf_ints]
theorem textOf_eq (w : Nat) (cs : List UInt8) : textOf w (ints cs) = T w cs := by
  unfold textOf T
  rw [pieces_eq, txt_join]
theorem T_size {w h : Nat} {cs : List UInt8} (hl : cs.length = w * h) (hw0 : 0 < w) (hw : w ≤ 100) (hh : h ≤ 100) : (T w cs).size ≤ 10100 := by
  unfold T
  rw [size_mk]
  have h1 := txt_length (chunks_each hw0 hl)
  rw [chunks_length hw0 hl] at h1
  have h2 : h * (w + 1) ≤ 100 * 101 := Nat.mul_le_mul hh (by omega)
  omega
theorem trayText_eq {w h : Nat} {cs : List UInt8} (hl : cs.length = w * h) (hw0 : 0 < w) (hw : w ≤ 100) (hh0 : 0 < h) (hh : h ≤ 100) (a : Int) : impl_tray_text.f (w : Int) a (ints cs) = some (T w cs) := by
  have h1 : w * h ≤ 100 * 100 := Nat.mul_le_mul hw hh
  have h2 : 0 < w * h := Nat.mul_pos hw0 hh0
  have h3 := T_size hl hw0 hw hh
  rw [← textOf_eq] at h3
  have g1 : (0 : Int) < (w : Int) := by omega
  have g2 : (w : Int) ≤ 1000000 := by omega
  have g3 : 0 < (ints cs).length := by rw [ints_length]; omega
  have g4 : (ints cs).length ≤ 1000000 := by rw [ints_length]; omega
  have g5 : (textOf (w : Int).toNat (ints cs)).size ≤ 140737488355328 := by rw [Int.toNat_natCast]; omega
  rw [impl_tray_text.f, if_pos g1, if_pos g2, if_pos g3, if_pos g4, if_pos g5, Int.toNat_natCast, textOf_eq]
theorem tyText_cs {w h : Nat} {cs : List UInt8} (hl : cs.length = w * h) (hw0 : 0 < w) (hw : w ≤ 100) (hh : h ≤ 100) : Ev (fun k => spec_tyText.f k (w : Int) (h : Int) (ints cs)) (T w cs) := by
  have h1 := chunks_length hw0 hl
  have h2 := tyText_eq w (chunks w cs) (chunks_each hw0 hl) hw (by omega)
  rw [h1, cut_flatten hw0 hl] at h2
  exact h2
/-- The cells of a good text, as bytes. -/
def B (t : ByteArray) : List UInt8 := (rowsOf t).flatten
theorem B_CS (t : ByteArray) : CS t = ints (B t) := rfl
theorem B_len {t : ByteArray} (h : good t = true) : (B t).length = W t * H t := by
  have := (good_facts h).2.2.2.2.2.1
  rw [B_CS, ints_length] at this
  exact this
theorem rd_ints {l : List UInt8} {i : Nat} (h : i < l.length) : rd (ints l) (i : Int) = ((l.getD i 0).toNat : Int) := by
  unfold rd ints
  rw [Int.toNat_natCast, List.getD_eq_getElem?_getD, List.getD_eq_getElem?_getD, List.getElem?_map, List.getElem?_eq_getElem h]
  rfl
end Go.Proofs.YtcglmngfglmcgaaDoorL
