/- The text of a board: what the program's boardText makes of the cells of a board. -/
import Derived.Test.YtljnblcflngliaaGreatDoorLBoardP
import Derived.Test.YtljnblcflngliaaGreatDoorVBText
import Derived.Test.YtljnblcflngliaaGreatDoorQx5
set_option linter.unusedVariables false
set_option linter.unusedSimpArgs false
namespace Go.Proofs.YtljnblcflngliaaGreatDoorL
open Go.RowKit Go.Proofs.YtljnblcflngliaaGreatDoor.Q Go.Proofs.YtljnblcflngliaaGreatDoorW.PrintWords Go.Proofs.YtljnblcflngliaaGreatDoorW.PrintLast Go.Proofs.YtljnblcflngliaaGreatDoorV
/-- A digit. -/
def dg (x : Int) : UInt8 := UInt8.ofNat (48 + x.toNat)
def one (b : UInt8) : ByteArray := ⟨#[b]⟩
/-- What stands before a cell. -/
def sepAt (w i : Nat) : List UInt8 := if i = 0 then [] else if i % w = 0 then [47] else [44]
def tx (w : Nat) (l : List Int) : Nat → List UInt8
  | 0 => []
  | i + 1 => tx w l i ++ sepAt w i ++ [dg (l.getD i 0)]
theorem tx_len (w : Nat) (l : List Int) : ∀ i, (tx w l i).length ≤ 2 * i
  | 0 => Nat.le_refl _
  | i + 1 => by
    have := tx_len w l i
    have hs : (sepAt w i).length ≤ 1 := by
      unfold sepAt
      split
      · exact Nat.zero_le _
      · split <;> exact Nat.le_refl _
    rw [tx, List.length_append, List.length_append, List.length_singleton]
    omega
def bts (l : List UInt8) : ByteArray := ⟨l.toArray⟩
theorem bytes_size (l : List UInt8) : (bts l).size = l.length := by
  show l.toArray.size = _
  simp
theorem bytes_app (a b : List UInt8) : bts a ++ bts b = bts (a ++ b) := by
  apply ByteArray.ext
  rw [ByteArray.data_append]
  simp [bts]
/-! ### the program's text -/
def lt (p : List Int) : List UInt8 := Lib.join (p.map fun x => [dg x]) [44]
theorem join_len (s : UInt8) : ∀ (xs : List (List UInt8)) (n : Nat), (∀ x ∈ xs, x.length ≤ n) → (Lib.join xs [s]).length ≤ (n + 1) * xs.length
  | [], n, _ => Nat.zero_le _
  | x :: r, n, h => by
    rw [Lib.join_cons]
    have h1 := h x (List.mem_cons_self ..)
    have : ∀ (r : List (List UInt8)), (∀ y ∈ r, y.length ≤ n) → (Lib.joinTail [s] r).length ≤ (n + 1) * r.length := by
      intro r
      induction r with
      | nil => exact fun _ => Nat.zero_le _
      | cons y r ih =>
        intro hr
        have h2 := hr y (List.mem_cons_self ..)
        have h3 := ih (fun z hz => hr z (List.mem_cons_of_mem _ hz))
        unfold Lib.joinTail at h3 ⊢
        simp only [List.map_cons, List.flatten_cons, List.length_append, List.length_cons, List.length_nil] at h3 ⊢
        rw [Nat.mul_add, Nat.mul_one]
        omega
    have h4 := this r (fun y hy => h y (List.mem_cons_of_mem _ hy))
    rw [List.length_append, List.length_cons, Nat.mul_add, Nat.mul_one]
    omega
theorem itoa_eq (x : Int) (h0 : 0 ≤ x) (h1 : x < 10) : strconv_Itoa_42.f x = some (bts [dg x]) := by
  rw [strconv_Itoa_42.f, if_pos h0, if_pos (by omega), Lib.decDigits, dif_pos (by omega)]
  rfl
theorem join_eq (rows : List (List UInt8)) (s : UInt8) (h1 : rows.length ≤ 100) (h2 : ∀ x ∈ rows, x.length ≤ 100) : strings_Join.f (rows.map bts) ⟨#[s]⟩ = some (bts (Lib.join rows [s])) := by
  have e : (rows.map bts).map (·.data.toList) = rows := by
    rw [List.map_map]
    conv => rhs; rw [← List.map_id rows]
    rfl
  have hlen := join_len s rows 100 h2
  have hb : (101) * rows.length ≤ 101 * 100 := Nat.mul_le_mul_left _ h1
  rw [strings_Join.f, e]
  have g1 : (rows.map bts).length ≤ 140737488355328 := by rw [List.length_map]; omega
  have g2 : (Lib.join rows (⟨#[s]⟩ : ByteArray).data.toList).length ≤ 140737488355328 := by
    show (Lib.join rows [s]).length ≤ _
    omega
  rw [if_pos g1, if_pos g2]
  rfl
theorem listText_eq (p : List Int) (hl : p.length ≤ 9) (hv : ∀ x ∈ p, 0 ≤ x ∧ x < 10) : Ev (fun k => impl_listText.f k p) (bts (lt p)) := by
  have key : ∀ (d i : Nat), p.length - i = d → i ≤ p.length → Ev (fun k => impl_listText.l0 k (((p.take i).map fun x => [dg x]).map bts) p (p.length : Int) (i : Int)) (bts (lt p)) := by
    intro d
    induction d with
    | zero =>
      intro i hd hi
      have e : i = p.length := by omega
      subst e
      have g : ¬ ((p.length : Int) < (p.length : Int)) := by omega
      have hj := join_eq (p.map fun x => [dg x]) 44 (by rw [List.length_map]; omega) (fun x hx => by obtain ⟨y, _, rfl⟩ := List.mem_map.1 hx; simp)
      rw [List.take_length]
      exact Ev.step (f := fun _ => some (bts (lt p))) (fun k => by rw [impl_listText.l0, if_neg g, hj]; rfl) (Ev.now _)
    | succ d ih =>
      intro i hd hi
      have hlt : i < p.length := by omega
      have h1 := ih (i + 1) (by omega) (by omega)
      have g : (i : Int) < (p.length : Int) := by omega
      have gi : (0 : Int) ≤ (i : Int) := by omega
      have e : wrap64 ((i : Int) + 1) = ((i + 1 : Nat) : Int) := wb (by omega) rfl
      have hx := hv p[i] (List.getElem_mem hlt)
      have gl : (((p.take i).map fun x => [dg x]).map bts).length < 8796093022208 := by rw [List.length_map, List.length_map, List.length_take]; omega
      rw [List.take_succ_eq_append_getElem hlt, List.map_append, List.map_append] at h1
      exact Ev.step (fun k => by rw [impl_listText.l0, if_pos g, if_pos gi, if_pos g, rd_at hlt, itoa_eq _ hx.1 hx.2, Option.bind_some, if_pos gl, e]; rfl) h1
  exact Ev.congr (fun k => rfl) (key p.length 0 rfl (Nat.zero_le _))
theorem mapO_ev {f : Nat → Nat → Option ByteArray} {T : Nat → ByteArray} : ∀ (n : Nat), (∀ j, j < n → Ev (fun k => f k j) (T j)) → Ev (fun k => mapO (f k) n) ((List.range n).map T)
  | 0, _ => Ev.now _
  | n + 1, h => by
    rw [List.range_succ, List.map_append]
    refine Ev.bind (f := fun k l => (f k n).bind fun x => some (l ++ [x])) (mapO_ev n (fun j hj => h j (by omega))) ?_
    exact Ev.bind (f := fun k x => some ((List.range n).map T ++ [x])) (h n (by omega)) (Ev.now _)
theorem rows_eq (W H : Nat) (l : List Int) (w0 : 1 ≤ W) (w1 : W ≤ 3) (h0 : 1 ≤ H) (h1 : H ≤ 3) (hlen : l.length = W * H) : nch W l.length = H ∧ Lib.join ((List.range H).map fun j => lt (btPiece W l j)) [47] = tx W l l.length := by
  have hW : W = 1 ∨ W = 2 ∨ W = 3 := by omega
  have hH : H = 1 ∨ H = 2 ∨ H = 3 := by omega
  rcases hW with rfl | rfl | rfl <;> rcases hH with rfl | rfl | rfl
  · match l, hlen with
    | [a], _ => exact ⟨by kernel_rfl, by kernel_rfl⟩
  · match l, hlen with
    | [a, b], _ => exact ⟨by kernel_rfl, by kernel_rfl⟩
  · match l, hlen with
    | [a, b, c], _ => exact ⟨by kernel_rfl, by kernel_rfl⟩
  · match l, hlen with
    | [a, b], _ => exact ⟨by kernel_rfl, by kernel_rfl⟩
  · match l, hlen with
    | [a, b, c, d], _ => exact ⟨by kernel_rfl, by kernel_rfl⟩
  · match l, hlen with
    | [a, b, c, d, e, f], _ => exact ⟨by kernel_rfl, by kernel_rfl⟩
  · match l, hlen with
    | [a, b, c], _ => exact ⟨by kernel_rfl, by kernel_rfl⟩
  · match l, hlen with
    | [a, b, c, d, e, f], _ => exact ⟨by kernel_rfl, by kernel_rfl⟩
  · match l, hlen with
    | [a, b, c, d, e, f, g, h, i], _ => exact ⟨by kernel_rfl, by kernel_rfl⟩
theorem boardText_eq (W H : Nat) (l : List Int) (w0 : 1 ≤ W) (w1 : W ≤ 3) (h0 : 1 ≤ H) (h1 : H ≤ 3) (hlen : l.length = W * H) (hv : ∀ x ∈ l, 0 ≤ x ∧ x < 10) : Ev (fun k => impl_boardText.f k (W : Int) l) (bts (tx W l l.length)) := by
  have h9 : W * H ≤ 3 * 3 := Nat.mul_le_mul w1 h1
  have hp : 0 < W * H := Nat.mul_pos w0 h0
  obtain ⟨hn, hr⟩ := rows_eq W H l w0 w1 h0 h1 hlen
  have g : (0 < (W : Int) ∧ (W : Int) ≤ 1000000) ∧ (0 < l.length ∧ l.length ≤ 1000000) := by omega
  have hT : Ev (fun k => mapO (fun j => impl_listText.f k (btPiece W l j)) H) ((List.range H).map fun j => bts (lt (btPiece W l j))) :=
    mapO_ev H (fun j _ => listText_eq _ (by rw [btPiece_len]; omega) (fun x hx => hv x (List.mem_of_mem_drop (List.mem_of_mem_take hx))))
  have hj := join_eq ((List.range H).map fun j => lt (btPiece W l j)) 47 (by rw [List.length_map, List.length_range]; omega) (fun x hx => by
    obtain ⟨j, _, rfl⟩ := List.mem_map.1 hx
    have := join_len 44 ((btPiece W l j).map fun x => [dg x]) 1 (fun y hy => by obtain ⟨z, _, rfl⟩ := List.mem_map.1 hy; simp)
    rw [List.length_map, btPiece_len] at this
    unfold lt
    omega)
  rw [List.map_map, hr] at hj
  refine Ev.congr (f := fun k => (mapO (fun j => impl_listText.f k (btPiece W l j)) H).bind fun rows => strings_Join.f rows ⟨#[47]⟩) (fun k => ?_) (Ev.bind hT ⟨0, fun k _ => hj⟩)
  rw [impl_boardText.f, if_pos g, Int.toNat_natCast, hn]
theorem ediv_small {w n : Int} (hw : 1 ≤ w) (h : n % w = 0) : ∃ q, n = w * q ∧ n / w = q := by
  refine ⟨n / w, ?_, rfl⟩
  have := Int.mul_ediv_add_emod n w
  omega
/-- What a board is: its size, and its values. -/
theorem isB_facts {w : Int} {l : List Int} (h : isB w l = true) : ∃ W H : Nat, w = (W : Int) ∧ l.length = W * H ∧ 0 < W ∧ W < 4 ∧ 0 < H ∧ H < 4 ∧ ∀ k, k < l.length → (k : Int) ∈ l := by
  unfold isB allIn at h
  simp only [Bool.and_eq_true, decide_eq_true_eq, List.all_eq_true, List.mem_range, List.contains_iff_mem] at h
  obtain ⟨⟨h1, h2⟩, ⟨h3, h4⟩, h5, h6⟩ := h
  have hw : w = 1 ∨ w = 2 ∨ w = 3 := by omega
  rcases hw with rfl | rfl | rfl
  · exact ⟨1, l.length, rfl, by omega, by omega, by omega, by omega, by omega, h6⟩
  · exact ⟨2, l.length / 2, rfl, by omega, by omega, by omega, by omega, by omega, h6⟩
  · exact ⟨3, l.length / 3, rfl, by omega, by omega, by omega, by omega, by omega, h6⟩
theorem vals {w : Int} {l : List Int} (h : isB w l = true) : ∀ x ∈ l, 0 ≤ x ∧ x < (l.length : Int) := by
  have h' : isBoardB w l = true := (isBoard_isB w l).trans h
  unfold isBoardB at h'
  simp only [Bool.and_eq_true, decide_eq_true_eq] at h'
  obtain ⟨_, _, _, h6⟩ := h'
  intro x hx
  have hp : (sortI l).Perm l := List.mergeSort_perm l _
  have hx2 := hp.symm.subset hx
  rw [h6] at hx2
  obtain ⟨k, hk, rfl⟩ := List.mem_map.1 hx2
  have := List.mem_range.1 hk
  omega
end Go.Proofs.YtljnblcflngliaaGreatDoorL
