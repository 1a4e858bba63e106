/- The program's ParseBoard returns what the reference's returns: for every text the law FnExactParseBoard returns true. -/
import Derived.Test.YtljnblcflngliaaGreatDoorLParse
import Derived.Test.YtljnblcflngliaaGreatDoorLMarkBP
import Derived.Test.YtljnblcflngliaaGreatDoorQx4
import Derived.Test.YtljnblcflngliaaGreatDoorQx5
import Derived.Test.YtljnblcflngliaaGreatDoorQx8
set_option linter.unusedVariables false
set_option linter.unusedSimpArgs false
namespace Go.Proofs.YtljnblcflngliaaGreatDoor.Pure
open Go.RowKit Go.Proofs.YtljnblcflngliaaGreatDoor.Q Go.Proofs.YtljnblcflngliaaGreatDoorW.PrintWords Go.Proofs.YtljnblcflngliaaGreatDoorW.PrintLast Go.Proofs.YtljnblcflngliaaGreatDoorV Go.Proofs.YtljnblcflngliaaGreatDoorL Go.Proofs.YtljnblcflngliaaGreatDoorM
def vals' (r : ByteArray) : List Int := (PB.cut 44 r).map fun x => rdV x.data.toList
def sbRows : List ByteArray → Nat → List Int → Option (Nat × List Int)
  | [], w, acc => some (w, acc)
  | r :: t, w, acc => if w > 0 ∧ (PB.cut 44 r).length ≠ w then none else sbRows t (PB.cut 44 r).length (acc ++ vals' r)
def fin (o : Option (Nat × List Int)) : Int × List Int × Bool := match o with
  | none => (0, [], false)
  | some p => if isB (p.1 : Int) p.2 = true then ((p.1 : Int), p.2, true) else (0, [], false)
theorem rdOf_at {rows : List ByteArray} {i : Nat} (h : i < rows.length) : rdOf ByteArray.empty rows (i : Int) = rows[i] := by
  unfold rdOf
  rw [Int.toNat_natCast, List.getD_eq_getElem?_getD, List.getElem?_eq_getElem h]
  rfl
theorem spec_l1 (rows words : List ByteArray) (i : Nat) (hi : i ≤ 100) (n : Nat) (acc : List Int) (hacc : acc.length ≤ 100000) (hw : words.length ≤ 100) (R : Int × List Int × Bool)
    (hR : Ev (fun k => spec_ParseBoard.l0 k rows (rows.length : Int) ((i + 1 : Nat) : Int) (n : Int) (acc ++ words.map fun x => rdV x.data.toList)) R) :
    ∀ (d j : Nat), words.length - j = d → j ≤ words.length → Ev (fun k => spec_ParseBoard.l1 k rows (rows.length : Int) (i : Int) words (words.length : Int) (j : Int) (n : Int) (acc ++ (words.take j).map fun x => rdV x.data.toList)) R := by
  intro d
  induction d with
  | zero =>
    intro j hd hj
    have e : j = words.length := by omega
    subst e
    have g : ¬ ((words.length : Int) < (words.length : Int)) := by omega
    have e1 : wrap64 ((i : Int) + 1) = ((i + 1 : Nat) : Int) := wb (by omega) rfl
    rw [List.take_length]
    exact Ev.step (fun k => by rw [spec_ParseBoard.l1, if_neg g, e1]) hR
  | succ d ih =>
    intro j hd hj
    have hlt : j < words.length := by omega
    have h1 := ih (j + 1) (by omega) (by omega)
    have g : (j : Int) < (words.length : Int) := by omega
    have gi : (0 : Int) ≤ (j : Int) := by omega
    have e1 : wrap64 ((j : Int) + 1) = ((j + 1 : Nat) : Int) := wb (by omega) rfl
    have gl : (acc ++ (words.take j).map fun x => rdV x.data.toList).length < 17592186044416 := by
      rw [List.length_append, List.length_map, List.length_take]
      omega
    rw [List.take_succ_eq_append_getElem hlt, List.map_append, ← List.append_assoc] at h1
    refine Ev.step (f := fun k => (spec_l1Read.f k words[j]).bind fun t124 => (if (acc ++ (words.take j).map fun x => rdV x.data.toList).length < 17592186044416 then (spec_ParseBoard.l1 k rows (rows.length : Int) (i : Int) words (words.length : Int) ((j + 1 : Nat) : Int) (n : Int) ((acc ++ (words.take j).map fun x => rdV x.data.toList) ++ [t124])) else (none))) (fun k => by rw [spec_ParseBoard.l1, if_pos g, if_pos gi, if_pos g, rdOf_at hlt, e1]) ?_
    refine Ev.bind (f := fun k t124 => (if (acc ++ (words.take j).map fun x => rdV x.data.toList).length < 17592186044416 then (spec_ParseBoard.l1 k rows (rows.length : Int) (i : Int) words (words.length : Int) ((j + 1 : Nat) : Int) (n : Int) ((acc ++ (words.take j).map fun x => rdV x.data.toList) ++ [t124])) else (none))) (read_eq words[j]) ?_
    exact Ev.congr (fun k => by rw [if_pos gl]; rfl) h1
theorem spec_l0 (rows : List ByteArray) (hr : ∀ r ∈ rows, r.size ≤ 40) (hl : rows.length ≤ 41) : ∀ (d i n : Nat) (acc : List Int), rows.length - i = d → i ≤ rows.length → acc.length ≤ 100 * i → n ≤ 100 →
    Ev (fun k => spec_ParseBoard.l0 k rows (rows.length : Int) (i : Int) (n : Int) acc) (fin (sbRows (rows.drop i) n acc)) := by
  intro d
  induction d with
  | zero =>
    intro i n acc hd hi ha hn
    have e : i = rows.length := by omega
    subst e
    have g : ¬ ((rows.length : Int) < (rows.length : Int)) := by omega
    have B := blGood_eq (n : Int) acc (by omega)
    rw [List.drop_length]
    refine Ev.step (f := fun k => (spec_blGood.f k (n : Int) acc).bind fun t118 => (if t118 = true then (some ((n : Int), acc, true)) else (some (0, ([] : List Int), false)))) (fun k => by rw [spec_ParseBoard.l0, if_neg g]) (Ev.bind B ?_)
    show Ev (fun _ => if isB (n : Int) acc = true then some ((n : Int), acc, true) else some (0, ([] : List Int), false)) (if isB (n : Int) acc = true then ((n : Int), acc, true) else (0, [], false))
    cases isB (n : Int) acc with
    | true => exact Ev.now _
    | false => exact Ev.now _
  | succ d ih =>
    intro i n acc hd hi ha hn
    have hlt : i < rows.length := by omega
    have g : (i : Int) < (rows.length : Int) := by omega
    have gi : (0 : Int) ≤ (i : Int) := by omega
    have hrow := hr rows[i] (List.getElem_mem hlt)
    have hwl := PB.cut_len 44 rows[i]
    have S := split_eq rows[i] 44 (by omega)
    rw [List.drop_eq_getElem_cons hlt, sbRows]
    generalize hrw : rows[i] = row at *
    refine Ev.step (f := fun k => (spec_l1Split.f k row 44).bind fun t120 => (if (n : Int) > 0 then (spec_ParseBoard.j1 k t120 rows (rows.length : Int) (i : Int) ((t120.length : Int) != (n : Int)) (n : Int) acc) else (spec_ParseBoard.j1 k t120 rows (rows.length : Int) (i : Int) false (n : Int) acc))) (fun k => by rw [spec_ParseBoard.l0, if_pos g, if_pos gi, if_pos g, rdOf_at hlt, hrw]) ?_
    refine Ev.bind (f := fun k t120 => (if (n : Int) > 0 then (spec_ParseBoard.j1 k t120 rows (rows.length : Int) (i : Int) ((t120.length : Int) != (n : Int)) (n : Int) acc) else (spec_ParseBoard.j1 k t120 rows (rows.length : Int) (i : Int) false (n : Int) acc))) S ?_
    have go : Ev (fun k => spec_ParseBoard.j1 k (PB.cut 44 row) rows (rows.length : Int) (i : Int) false (n : Int) acc) (fin (sbRows (rows.drop (i + 1)) (PB.cut 44 row).length (acc ++ vals' row))) := by
      have h2 := ih (i + 1) (PB.cut 44 row).length (acc ++ vals' row) (by omega) (by omega) (by unfold vals'; rw [List.length_append, List.length_map]; omega) (by omega)
      have h1 := spec_l1 rows (PB.cut 44 row) i (by omega) (PB.cut 44 row).length acc (by omega) (by omega) _ h2 (PB.cut 44 row).length 0 rfl (Nat.zero_le _)
      rw [List.take_zero, List.map_nil, List.append_nil] at h1
      exact Ev.step (fun k => by rw [spec_ParseBoard.j1, if_neg (by decide)]; rfl) h1
    by_cases hn0 : n > 0
    · have hn0' : (n : Int) > 0 := by omega
      by_cases hne : (PB.cut 44 row).length = n
      · rw [if_neg (fun h => h.2 hne)]
        have eb : (((PB.cut 44 row).length : Int) != (n : Int)) = false := by rw [hne]; simp
        exact Ev.congr (fun k => by rw [if_pos hn0', eb]) go
      · rw [if_pos ⟨hn0, hne⟩]
        have eb : (((PB.cut 44 row).length : Int) != (n : Int)) = true := by rw [bne_iff_ne]; omega
        refine Ev.congr (f := fun k => spec_ParseBoard.j1 k (PB.cut 44 row) rows (rows.length : Int) (i : Int) true (n : Int) acc) (fun k => by rw [if_pos hn0', eb]) ?_
        exact Ev.step (f := fun _ => some (0, [], false)) (fun k => by rw [spec_ParseBoard.j1, if_pos rfl]) (Ev.now _)
    · have hn0' : ¬ (n : Int) > 0 := by omega
      rw [if_neg (fun h => hn0 h.1)]
      exact Ev.congr (fun k => by rw [if_neg hn0']) go
theorem spec_eq (s : ByteArray) : Ev (fun k => spec_ParseBoard.f k s) (if s.size > 40 then (0, [], false) else fin (sbRows (PB.cut 47 s) 0 [])) := by
  by_cases h : s.size > 40
  · have h' : (s.size : Int) > 40 := by omega
    rw [if_pos h]
    refine ⟨0, fun k _ => ?_⟩
    show spec_ParseBoard.f k s = _
    rw [spec_ParseBoard.f, if_pos h']
  · have h' : ¬ (s.size : Int) > 40 := by omega
    rw [if_neg h]
    refine Ev.congr (f := fun k => (spec_l1Split.f k s 47).bind fun t115 => (spec_ParseBoard.l0 k t115 (t115.length : Int) 0 0 ([] : List Int))) (fun k => by rw [spec_ParseBoard.f, if_neg h']) ?_
    refine Ev.bind (f := fun k t115 => (spec_ParseBoard.l0 k t115 (t115.length : Int) 0 0 ([] : List Int))) (split_eq s 47 (by omega)) ?_
    have hl := PB.cut_len 47 s
    exact spec_l0 (PB.cut 47 s) (fun r hr => by have := PB.cut_mem hr; omega) (by omega) _ 0 0 [] rfl (Nat.zero_le _) (Nat.zero_le _) (Nat.zero_le _)
/-! ### what a text of a board is -/
theorem shape (W : Nat) (ps : List (List Int)) (w0 : 1 ≤ W) (w1 : W ≤ 3) (h0 : 1 ≤ ps.length) (h1 : ps.length ≤ 3) (hw : ∀ p ∈ ps, p.length = W) : Lib.join (ps.map lt) [47] = tx W ps.flatten ps.flatten.length := by
  have hW : W = 1 ∨ W = 2 ∨ W = 3 := by omega
  have hH : ps.length = 1 ∨ ps.length = 2 ∨ ps.length = 3 := by omega
  rcases hH with hH | hH | hH
  · match ps, hH, hw with
    | [p], _, hw =>
      have hp := hw p (by simp)
      rcases hW with rfl | rfl | rfl
      · match p, hp with
        | [a], _ => show _ = _; kernel_rfl
      · match p, hp with
        | [a, b], _ => show _ = _; kernel_rfl
      · match p, hp with
        | [a, b, c], _ => show _ = _; kernel_rfl
  · match ps, hH, hw with
    | [p, q], _, hw =>
      have hp := hw p (by simp)
      have hq := hw q (by simp)
      rcases hW with rfl | rfl | rfl
      · match p, hp, q, hq with
        | [a], _, [b], _ => show _ = _; kernel_rfl
      · match p, hp, q, hq with
        | [a, b], _, [c, d], _ => show _ = _; kernel_rfl
      · match p, hp, q, hq with
        | [a, b, c], _, [d, e, f], _ => show _ = _; kernel_rfl
  · match ps, hH, hw with
    | [p, q, r], _, hw =>
      have hp := hw p (by simp)
      have hq := hw q (by simp)
      have hr := hw r (by simp)
      rcases hW with rfl | rfl | rfl
      · match p, hp, q, hq, r, hr with
        | [a], _, [b], _, [c], _ => show _ = _; kernel_rfl
      · match p, hp, q, hq, r, hr with
        | [a, b], _, [c, d], _, [e, f], _ => show _ = _; kernel_rfl
      · match p, hp, q, hq, r, hr with
        | [a, b, c], _, [d, e, f], _, [g, h, i], _ => show _ = _; kernel_rfl
def digs (p : List Int) : Prop := ∀ x ∈ p, 0 ≤ x ∧ x < 10
theorem dg_ne (x : Int) (h0 : 0 ≤ x) (h1 : x < 10) : dg x ≠ 44 ∧ dg x ≠ 47 := by
  have e := dg_toNat x h0 h1
  constructor
  · intro h
    have : (dg x).toNat = 44 := by rw [h]; rfl
    omega
  · intro h
    have : (dg x).toNat = 47 := by rw [h]; rfl
    omega
theorem cut_lt (p : List Int) (hp : p ≠ []) (hd : digs p) : PB.cut 44 (bts (lt p)) = p.map fun x => bts [dg x] := by
  rw [cut_eq, bts_data]
  unfold lt
  rw [join_split 44 (p.map fun x => [dg x]) (by simpa using hp) (fun x hx => by
    obtain ⟨y, hy, rfl⟩ := List.mem_map.1 hx
    have := dg_ne y (hd y hy).1 (hd y hy).2
    simp only [List.mem_singleton]
    exact fun h => this.1 h.symm), List.map_map]
  rfl
theorem vals_lt (p : List Int) (hp : p ≠ []) (hd : digs p) : vals' (bts (lt p)) = p := by
  unfold vals'
  rw [cut_lt p hp hd, List.map_map]
  conv => rhs; rw [← List.map_id p]
  apply List.map_congr_left
  intro x hx
  show rdV (bts [dg x]).data.toList = x
  rw [bts_data]
  exact rdV_dg x (hd x hx).1 (hd x hx).2
theorem words_lt : ∀ (p : List Int) (acc : List Int), digs p → PB.pbWords (p.map fun x => bts [dg x]) acc = some (acc ++ p)
  | [], acc, _ => by rw [List.append_nil]; rfl
  | x :: p, acc, hd => by
    have h := hd x (List.mem_cons_self ..)
    show (PB.atoiV (bts [dg x])).bind _ = _
    rw [atoi_dg x h.1 h.2, Option.bind_some, words_lt p (acc ++ [x]) (fun y hy => hd y (List.mem_cons_of_mem _ hy)), List.append_assoc]
    rfl
theorem forward (W : Nat) (w0 : 1 ≤ W) : ∀ (ps : List (List Int)) (w : Nat) (acc : List Int), (w = 0 ∨ w = W) → (∀ p ∈ ps, p.length = W ∧ digs p) →
    sbRows (ps.map fun p => bts (lt p)) w acc = some (if ps = [] then w else W, acc ++ ps.flatten) ∧ PB.pbRows (ps.map fun p => bts (lt p)) (w : Int) acc = some ((if ps = [] then (w : Int) else (W : Int)), acc ++ ps.flatten)
  | [], w, acc, _, _ => by
    constructor
    · show some (w, acc) = _
      simp
    · show some ((w : Int), acc) = _
      simp
  | p :: ps, w, acc, hw, hp => by
    obtain ⟨h1, h2⟩ := hp p (List.mem_cons_self ..)
    have hne : p ≠ [] := by rintro rfl; simp at h1; omega
    have hc := cut_lt p hne h2
    have hl : (PB.cut 44 (bts (lt p))).length = W := by rw [hc, List.length_map, h1]
    obtain ⟨i1, i2⟩ := forward W w0 ps W (acc ++ p) (.inr rfl) (fun q hq => hp q (List.mem_cons_of_mem _ hq))
    have e1 : (if ps = [] then W else W) = W := by split <;> rfl
    have e2 : (if ps = [] then (W : Int) else (W : Int)) = (W : Int) := by split <;> rfl
    rw [e1] at i1
    rw [e2] at i2
    rw [if_neg (by simp), if_neg (by simp), List.flatten_cons, ← List.append_assoc]
    constructor
    · show (if w > 0 ∧ (PB.cut 44 (bts (lt p))).length ≠ w then none else sbRows (ps.map fun p => bts (lt p)) (PB.cut 44 (bts (lt p))).length (acc ++ vals' (bts (lt p)))) = _
      rw [if_neg (by rw [hl]; omega), hl, vals_lt p hne h2, i1]
    · show (PB.pbWords (PB.cut 44 (bts (lt p))) acc).bind _ = _
      rw [hl, hc, words_lt p acc h2, Option.bind_some, i2]
theorem back_w : ∀ (rows : List ByteArray) (w : Nat) (acc : List Int) (n : Nat) (l : List Int), sbRows rows w acc = some (n, l) → l = acc ++ (rows.map vals').flatten ∧ (w > 0 → n = w ∧ ∀ r ∈ rows, (PB.cut 44 r).length = w)
  | [], w, acc, n, l, h => by
    obtain ⟨rfl, rfl⟩ := Prod.mk.inj (Option.some.inj h)
    exact ⟨by simp, fun _ => ⟨rfl, fun r hr => by cases hr⟩⟩
  | r :: t, w, acc, n, l, h => by
    rw [sbRows] at h
    by_cases hc : w > 0 ∧ (PB.cut 44 r).length ≠ w
    · rw [if_pos hc] at h
      cases h
    · rw [if_neg hc] at h
      obtain ⟨h1, h2⟩ := back_w t _ _ n l h
      refine ⟨by rw [h1, List.map_cons, List.flatten_cons, List.append_assoc], fun hw => ?_⟩
      have hl : (PB.cut 44 r).length = w := Classical.byContradiction fun h => hc ⟨hw, h⟩
      rw [hl] at h2
      obtain ⟨h3, h4⟩ := h2 hw
      refine ⟨h3, fun x hx => ?_⟩
      rcases List.mem_cons.1 hx with rfl | hx
      · exact hl
      · exact h4 x hx
theorem cut_pos (c : UInt8) (s : ByteArray) : 0 < (PB.cut c s).length := by
  obtain ⟨r, rs, h⟩ := splitC_form c s.data.toList
  rw [cut_eq, h]
  simp
theorem row_lt (r : ByteArray) (hd : digs (vals' r)) : r = bts (lt (vals' r)) := by
  have h1 : splitC 44 r.data.toList = (vals' r).map fun x => [dg x] := by
    unfold vals' at hd ⊢
    rw [cut_eq, List.map_map] at hd ⊢
    rw [List.map_map]
    conv => lhs; rw [← List.map_id (splitC 44 r.data.toList)]
    apply List.map_congr_left
    intro x hx
    have h2 := hd (rdV x) (List.mem_map.2 ⟨x, hx, by show rdV (bts x).data.toList = _; rw [bts_data]⟩)
    show x = [dg (rdV (bts x).data.toList)]
    rw [bts_data]
    exact rdV_digit h2.1 h2.2
  have h3 := splitC_join 44 r.data.toList
  rw [h1] at h3
  exact (bts_of r).symm.trans (congrArg bts h3.symm)
/-- The text of a board. -/
def textOf (W : Nat) (l : List Int) : ByteArray := bts (tx W l l.length)
theorem split_list {W H : Nat} {l : List Int} (w1 : W ≤ 3) (w0 : 1 ≤ W) (h0 : 1 ≤ H) (h1 : H ≤ 3) (hl : l.length = W * H) : ∃ ps : List (List Int), ps.length = H ∧ (∀ p ∈ ps, p.length = W) ∧ ps.flatten = l := by
  refine ⟨(List.range H).map (btPiece W l), by simp, fun p hp => ?_, ?_⟩
  · obtain ⟨j, hj, rfl⟩ := List.mem_map.1 hp
    have := List.mem_range.1 hj
    rw [btPiece_len, hl]
    have e : W * (j + 1) ≤ W * H := Nat.mul_le_mul_left _ (by omega)
    rw [Nat.mul_add, Nat.mul_one] at e
    rw [Nat.mul_comm j W]
    omega
  · have hW : W = 1 ∨ W = 2 ∨ W = 3 := by omega
    have hH : H = 1 ∨ H = 2 ∨ H = 3 := by omega
    rcases hW with rfl | rfl | rfl <;> rcases hH with rfl | rfl | rfl
    · match l, hl with
      | [a], _ => show _ = _; kernel_rfl
    · match l, hl with
      | [a, b], _ => show _ = _; kernel_rfl
    · match l, hl with
      | [a, b, c], _ => show _ = _; kernel_rfl
    · match l, hl with
      | [a, b], _ => show _ = _; kernel_rfl
    · match l, hl with
      | [a, b, c, d], _ => show _ = _; kernel_rfl
    · match l, hl with
      | [a, b, c, d, e, f], _ => show _ = _; kernel_rfl
    · match l, hl with
      | [a, b, c], _ => show _ = _; kernel_rfl
    · match l, hl with
      | [a, b, c, d, e, f], _ => show _ = _; kernel_rfl
    · match l, hl with
      | [a, b, c, d, e, f, g, h, i], _ => show _ = _; kernel_rfl
/-- What both sides read of the text of a board. -/
theorem read_text {w : Int} {l : List Int} (hb : isB w l = true) : ∃ W H : Nat, w = (W : Int) ∧ 1 ≤ W ∧ W ≤ 3 ∧ 1 ≤ H ∧ H ≤ 3 ∧ l.length = W * H ∧ digs l ∧ sbRows (PB.cut 47 (textOf W l)) 0 [] = some (W, l) ∧ PB.pbRows (PB.cut 47 (textOf W l)) 0 [] = some ((W : Int), l) := by
  obtain ⟨W, H, rfl, h2, h3, h4, h5, h6, _⟩ := isB_facts hb
  have h9 : W * H ≤ 3 * 3 := Nat.mul_le_mul (by omega) (by omega)
  have hd : digs l := fun x hx => by
    have := vals hb x hx
    omega
  obtain ⟨ps, p1, p2, p3⟩ := split_list (W := W) (H := H) (by omega) h3 h5 (by omega) h2
  have hne : ps ≠ [] := by rintro rfl; simp at p1; omega
  have hpd : ∀ p ∈ ps, p.length = W ∧ digs p := fun p hp => ⟨p2 p hp, fun x hx => hd x (by rw [← p3]; exact List.mem_flatten.2 ⟨p, hp, hx⟩)⟩
  have hs := shape W ps h3 (by omega) (by omega) (by omega) p2
  rw [p3] at hs
  have hcut : PB.cut 47 (textOf W l) = ps.map fun p => bts (lt p) := by
    unfold textOf
    rw [cut_eq, bts_data, ← hs, join_split 47 (ps.map lt) (by simpa using hne) (fun x hx => ?_), List.map_map]
    · rfl
    · obtain ⟨p, hp, rfl⟩ := List.mem_map.1 hx
      have key : ∀ q : List Int, digs q → (47 : UInt8) ∉ lt q := by
        intro q hq hm
        unfold lt at hm
        have gen : ∀ (xs : List (List UInt8)), (∀ y ∈ xs, (47 : UInt8) ∉ y) → (47 : UInt8) ∉ Lib.join xs [44] := by
          intro xs hxs
          cases xs with
          | nil => simp [Lib.join_nil]
          | cons y ys =>
            rw [Lib.join_cons]
            unfold Lib.joinTail
            simp only [List.mem_append, List.mem_flatten, List.mem_map, not_or, not_exists, not_and]
            refine ⟨hxs y (List.mem_cons_self ..), fun z hz => ?_⟩
            obtain ⟨u, hu, rfl⟩ := hz
            simp only [List.mem_append, List.mem_singleton, not_or]
            exact ⟨by decide, hxs u (List.mem_cons_of_mem _ hu)⟩
        refine gen _ (fun y hy => ?_) hm
        obtain ⟨x, hx, rfl⟩ := List.mem_map.1 hy
        simp only [List.mem_singleton]
        exact fun h => (dg_ne x (hq x hx).1 (hq x hx).2).2 h.symm
      exact key p (hpd p hp).2
  obtain ⟨f1, f2⟩ := forward W h3 ps 0 [] (.inl rfl) hpd
  rw [if_neg hne, List.nil_append, p3] at f1 f2
  rw [← hcut] at f1 f2
  exact ⟨W, H, rfl, h3, by omega, h5, by omega, h2, hd, f1, f2⟩
/-- A text that the reference reads as a board is that board's text. -/
theorem text_of_spec {s : ByteArray} {n : Nat} {l : List Int} (h : sbRows (PB.cut 47 s) 0 [] = some (n, l)) (hb : isB (n : Int) l = true) : s = textOf n l := by
  obtain ⟨W, H, hW, h2, h3, h4, h5, h6, _⟩ := isB_facts hb
  obtain rfl : n = W := by omega
  have h9 : n * H ≤ 3 * 3 := Nat.mul_le_mul (by omega) (by omega)
  have hd : digs l := fun x hx => by
    have := vals hb x hx
    omega
  obtain ⟨r, rs, hrs⟩ : ∃ r rs, PB.cut 47 s = r :: rs := by
    have := cut_pos 47 s
    cases hc : PB.cut 47 s with
    | nil => rw [hc] at this; simp at this
    | cons r rs => exact ⟨r, rs, rfl⟩
  have h' := h
  rw [hrs, sbRows, if_neg (fun z => absurd z.1 (by omega))] at h'
  obtain ⟨b1, b2⟩ := back_w rs _ _ n l h'
  obtain ⟨b3, b4⟩ := b2 (cut_pos 44 r)
  obtain ⟨c1, _⟩ := back_w (PB.cut 47 s) 0 [] n l h
  rw [List.nil_append] at c1
  have hall : ∀ x ∈ PB.cut 47 s, (PB.cut 44 x).length = n := by
    intro x hx
    rw [hrs] at hx
    rcases List.mem_cons.1 hx with rfl | hx
    · exact b3.symm
    · rw [b4 x hx, b3]
  have hdr : ∀ x ∈ PB.cut 47 s, digs (vals' x) := fun x hx y hy => hd y (by rw [c1]; exact List.mem_flatten.2 ⟨_, List.mem_map.2 ⟨x, hx, rfl⟩, hy⟩)
  have hlen : ∀ p ∈ (PB.cut 47 s).map vals', p.length = n := fun p hp => by
    obtain ⟨x, hx, rfl⟩ := List.mem_map.1 hp
    unfold vals'
    rw [List.length_map]
    exact hall x hx
  have hfl : ∀ (ps : List (List Int)), (∀ p ∈ ps, p.length = n) → ps.flatten.length = n * ps.length := by
    intro ps
    induction ps with
    | nil => exact fun _ => rfl
    | cons p ps ih =>
      intro hp
      rw [List.flatten_cons, List.length_append, hp p (List.mem_cons_self ..), ih (fun q hq => hp q (List.mem_cons_of_mem _ hq)), List.length_cons, Nat.mul_add, Nat.mul_one]
      omega
  have hH : ((PB.cut 47 s).map vals').length = H := by
    have e1 := hfl _ hlen
    rw [← c1, h2] at e1
    exact (Nat.eq_of_mul_eq_mul_left h3 e1).symm
  have hs := shape n ((PB.cut 47 s).map vals') h3 (by omega) (by omega) (by omega) hlen
  rw [← c1, List.map_map] at hs
  have e2 : (PB.cut 47 s).map (lt ∘ vals') = splitC 47 s.data.toList := by
    have e3 : (PB.cut 47 s).map (lt ∘ vals') = (PB.cut 47 s).map (·.data.toList) := by
      apply List.map_congr_left
      intro x hx
      have := row_lt x (hdr x hx)
      show lt (vals' x) = x.data.toList
      conv => rhs; rw [this]
      rw [bts_data]
    rw [e3, cut_eq, List.map_map]
    conv => rhs; rw [← List.map_id (splitC 47 s.data.toList)]
    apply List.map_congr_left
    intro x _
    exact bts_data x
  rw [e2, splitC_join] at hs
  unfold textOf
  rw [← hs, bts_of]
theorem alike (s : ByteArray) (hs : s.size ≤ 1048576) : ∃ r : Int × List Int × Bool, Ev (fun k => spec_ParseBoard.f k s) r ∧ Ev (fun k => impl_ParseBoard.f k s) r ∧ r.2.1.length ≤ 1048576 := by
  have S := spec_eq s
  by_cases hx : ∃ (n : Nat) (l : List Int), isB (n : Int) l = true ∧ s = textOf n l
  · obtain ⟨n, l, hb, rfl⟩ := hx
    obtain ⟨W, H, hW, w0, w1, h0, h1, hl, hd, e1, e2⟩ := read_text hb
    obtain rfl : n = W := by omega
    have h9 : n * H ≤ 3 * 3 := Nat.mul_le_mul w1 h1
    have hz : ¬ (textOf n l).size > 40 := by
      unfold textOf
      rw [bytes_size]
      have := tx_len n l l.length
      omega
    have I := boardText_eq n H l w0 w1 h0 h1 hl hd
    refine ⟨((n : Int), l, true), ?_, ?_, by show l.length ≤ _; omega⟩
    · rw [if_neg hz, e1] at S
      have ef : fin (some (n, l)) = ((n : Int), l, true) := if_pos hb
      rw [ef] at S
      exact S
    · have hib : isBoardB (n : Int) l = true := (isBoard_isB _ _).trans hb
      refine Ev.congr (f := fun k => (impl_boardText.f k (n : Int) l).bind fun t => if t = textOf n l then some ((n : Int), l, true) else some (0, [], false)) (fun k => ?_) (Ev.bind I ⟨0, fun k _ => if_pos rfl⟩)
      rw [impl_ParseBoard.f, if_pos hs, e2]
      exact if_pos hib
  · refine ⟨(0, [], false), ?_, ?_, Nat.zero_le _⟩
    · by_cases hz : s.size > 40
      · rw [if_pos hz] at S
        exact S
      · rw [if_neg hz] at S
        cases hr : sbRows (PB.cut 47 s) 0 [] with
        | none => rw [hr] at S; exact S
        | some p =>
          rw [hr] at S
          have hnb : ¬ isB (p.1 : Int) p.2 = true := fun hb => hx ⟨p.1, p.2, hb, text_of_spec hr hb⟩
          have ef : fin (some p) = (0, [], false) := if_neg hnb
          rw [ef] at S
          exact S
    · cases hp : PB.pbRows (PB.cut 47 s) 0 [] with
      | none => exact ⟨0, fun k _ => by show impl_ParseBoard.f k s = _; rw [impl_ParseBoard.f, if_pos hs, hp]⟩
      | some p =>
        by_cases hib : isBoardB p.1 p.2 = true
        · have hb : isB p.1 p.2 = true := (isBoard_isB _ _).symm.trans hib
          obtain ⟨W, H, hW, w0, w1, h0, h1, hl, hd, _, _⟩ := read_text hb
          have I := boardText_eq W H p.2 w0 w1 h0 h1 hl hd
          rw [← hW] at I
          have hne : ¬ bts (tx W p.2 p.2.length) = s := fun h => hx ⟨W, p.2, by rw [← hW]; exact hb, h.symm⟩
          refine Ev.congr (f := fun k => (impl_boardText.f k p.1 p.2).bind fun t => if t = s then some (p.1, p.2, true) else some (0, [], false)) (fun k => ?_) (Ev.bind I ⟨0, fun k _ => if_neg hne⟩)
          rw [impl_ParseBoard.f, if_pos hs, hp]
          exact if_pos hib
        · refine ⟨0, fun k _ => ?_⟩
          show impl_ParseBoard.f k s = _
          rw [impl_ParseBoard.f, if_pos hs, hp]
          exact if_neg hib
theorem FnExactParseBoard : laws_FnExactParseBoard.Pure := by
  intro s _
  by_cases hts : (s.size : Int) > 1048576
  · exact ⟨0, by rw [laws_FnExactParseBoard.f, if_pos hts]⟩
  refine Ev.rounds ?_
  obtain ⟨⟨r1, r2, r3⟩, hS, hI, hr⟩ := alike s (by omega)
  have hb : (r3 != r3) = false := by cases r3 <;> rfl
  have hf : ¬ false = true := by decide
  have er := eqBoard_same r1 r2 hr
  have mr := markBoard_eq r1 r2 hr
  have hr2 := heldBoard_eq r1 r2.length hr
  have n1 : ¬ ((r2.length + 1 : Nat) : Int) < 0 := by omega
  have J1 : Ev (fun k => laws_FnExactParseBoard.j1 k ((r2.length + 1 : Nat) : Int) false r1 (marks r2.length)) true := by
    refine Ev.step (f := fun k => (laws_heldBoard.f k r1 (marks r2.length) 1).bind fun t316 => (if t316 < 0 then (some false) else (if t316 = ((r2.length + 1 : Nat) : Int) then (some true) else (some false)))) (fun k => by rw [laws_FnExactParseBoard.j1, if_neg hf]) (Ev.bind hr2 ⟨0, fun k _ => ?_⟩)
    rw [if_neg n1, if_pos rfl]
  have J0 : Ev (fun k => laws_FnExactParseBoard.j0 k s r3 false r1 r2 r1 r2) true := by
    refine Ev.step (f := fun k => (laws_markBoard.f k r1 r2 1).bind fun bt162 => ((laws_heldBoard.f k r1 bt162.2 1).bind fun t164 => (if t164 < 0 then (some false) else (if t164 = bt162.1 then ((impl_ParseBoard.f k s).bind fun bt165 => ((laws_eqBoard.f k bt165.1 bt165.2.1 r1 r2).bind fun t171 => (if t171 = true then (laws_FnExactParseBoard.j1 k bt162.1 (bt165.2.2 != r3) r1 bt162.2) else (laws_FnExactParseBoard.j1 k bt162.1 true r1 bt162.2)))) else (some false))))) (fun k => by rw [laws_FnExactParseBoard.j0, if_neg hf]) ?_
    refine Ev.bind mr (Ev.bind hr2 ?_)
    refine Ev.congr (f := fun k => (impl_ParseBoard.f k s).bind fun bt165 => ((laws_eqBoard.f k bt165.1 bt165.2.1 r1 r2).bind fun t171 => (if t171 = true then (laws_FnExactParseBoard.j1 k ((r2.length + 1 : Nat) : Int) (bt165.2.2 != r3) r1 (marks r2.length)) else (laws_FnExactParseBoard.j1 k ((r2.length + 1 : Nat) : Int) true r1 (marks r2.length))))) (g := _) (r := true) (fun k => (if_neg n1).trans (if_pos rfl)) ?_
    refine Ev.bind hI (Ev.bind er ?_)
    exact Ev.congr (f := fun k => laws_FnExactParseBoard.j1 k ((r2.length + 1 : Nat) : Int) false r1 (marks r2.length)) (g := _) (r := true) (fun k => (if_pos rfl).trans (by rw [hb])) J1
  refine Ev.congr (f := fun k => (spec_ParseBoard.f k s).bind fun bt149 => ((impl_ParseBoard.f k s).bind fun bt155 => ((laws_eqBoard.f k bt155.1 bt155.2.1 bt149.1 bt149.2.1).bind fun t161 => (if t161 = true then (laws_FnExactParseBoard.j0 k s bt149.2.2 (bt155.2.2 != bt149.2.2) bt149.1 bt149.2.1 bt155.1 bt155.2.1) else (laws_FnExactParseBoard.j0 k s bt149.2.2 true bt149.1 bt149.2.1 bt155.1 bt155.2.1))))) (fun k => by rw [laws_FnExactParseBoard.f, if_neg hts]) ?_
  refine Ev.bind hS (Ev.bind hI (Ev.bind er ?_))
  exact Ev.congr (f := fun k => laws_FnExactParseBoard.j0 k s r3 false r1 r2 r1 r2) (g := _) (r := true) (fun k => (if_pos rfl).trans (by rw [hb])) J0
end Go.Proofs.YtljnblcflngliaaGreatDoor.Pure
