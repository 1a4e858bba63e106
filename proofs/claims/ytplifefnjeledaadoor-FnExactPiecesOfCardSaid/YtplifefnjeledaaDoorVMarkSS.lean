/- The laws' own looks at lists of lists: eqIntSS (alike), markIntS with any start, heldIntSS (the numbers still lie there). -/
import Derived.Test.YtplifefnjeledaaDoorLWm
import Derived.Test.YtplifefnjeledaaDoorQx18
import Derived.Test.YtplifefnjeledaaDoorQx19
import Derived.WalkKit
import Derived.Shelf.Abstract
import Derived.Deep.LoopGhost
import Derived.Deep.CutBlock
import Derived.Lib.Walk
import Derived.Test.YtplifefnjeledaaDoorProg
import Derived.Test.YtplifefnjeledaaDoorWLast
import Derived.Test.YtplifefnjeledaaDoorWMore
set_option linter.unusedVariables false
set_option linter.unusedSimpArgs false
namespace Go.Proofs.YtplifefnjeledaaDoorL
open Go.RowKit Go.Proofs.YtplifefnjeledaaDoor.Q Go.Proofs.YtplifefnjeledaaDoorW.PrintWords Go.Proofs.YtplifefnjeledaaDoorW.PrintLast
namespace MS
theorem rdL_in {l : List (List Int)} {i : Nat} (h : i < l.length) : rd_L3 l (i : Int) = l[i] := by
  unfold rd_L3
  rw [Int.toNat_natCast, List.getD_eq_getElem?_getD, List.getElem?_eq_getElem h]
  rfl
theorem rdI_in {l : List Int} {i : Nat} (h : i < l.length) : rd l (i : Int) = l[i] := by
  unfold rd
  rw [Int.toNat_natCast, List.getD_eq_getElem?_getD, List.getElem?_eq_getElem h]
  rfl
theorem eqInts_self (l : List Int) (hl : l.length < 1000) : Ev (fun k => laws_eqIntS.f k l l) true := by
  have key : ∀ (d i : Nat), l.length - i = d → i ≤ l.length → Ev (fun k => laws_eqIntS.l0 k l l (i : Int)) true := by
    intro d
    induction d with
    | zero =>
      intro i hd hi
      have g : ¬ ((i : Int) < (l.length : Int)) := by omega
      exact Ev.step (f := fun _ => some true) (fun k => by rw [laws_eqIntS.l0, if_neg g]) (Ev.now _)
    | succ d ih =>
      intro i hd hi
      have h1 := ih (i + 1) (by omega) (by omega)
      have g : (i : Int) < (l.length : Int) := by omega
      have g0 : (0 : Int) ≤ (i : Int) := by omega
      have b : i + 1 < 1000000 := by omega
      have e : wrap64 ((i : Int) + 1) = ((i + 1 : Nat) : Int) := wm b rfl
      exact Ev.step (fun k => by rw [laws_eqIntS.l0, if_pos g, if_pos g0, if_pos g, if_pos rfl, e]) h1
  refine Ev.congr (g := _) (r := true) (fun k => ?_) (key l.length 0 rfl (Nat.zero_le _))
  show laws_eqIntS.f k l l = _
  rw [laws_eqIntS.f, if_pos rfl]
  rfl
theorem eqSS_self (l : List (List Int)) (hl : l.length < 1000) (hr : ∀ r ∈ l, r.length < 1000) : Ev (fun k => laws_eqIntSS.f k l l) true := by
  have key : ∀ (d i : Nat), l.length - i = d → i ≤ l.length → Ev (fun k => laws_eqIntSS.l0 k l l (i : Int)) true := by
    intro d
    induction d with
    | zero =>
      intro i hd hi
      have g : ¬ ((i : Int) < (l.length : Int)) := by omega
      exact Ev.step (f := fun _ => some true) (fun k => by rw [laws_eqIntSS.l0, if_neg g]) (Ev.now _)
    | succ d ih =>
      intro i hd hi
      have h1 := ih (i + 1) (by omega) (by omega)
      have hlt : i < l.length := by omega
      have g : (i : Int) < (l.length : Int) := by omega
      have g0 : (0 : Int) ≤ (i : Int) := by omega
      have b : i + 1 < 1000000 := by omega
      have e : wrap64 ((i : Int) + 1) = ((i + 1 : Nat) : Int) := wm b rfl
      have hE := eqInts_self l[i] (hr _ (List.getElem_mem hlt))
      refine Ev.step (f := fun k => (laws_eqIntS.f k l[i] l[i]).bind fun t394 => (if t394 = true then (laws_eqIntSS.l0 k l l ((i + 1 : Nat) : Int)) else (some false))) (fun k => by rw [laws_eqIntSS.l0, if_pos g, if_pos g0, if_pos g, rdL_in hlt, e]) ?_
      refine Ev.bind (f := fun k t394 => (if t394 = true then (laws_eqIntSS.l0 k l l ((i + 1 : Nat) : Int)) else (some false))) hE ?_
      exact h1
  refine Ev.congr (g := _) (r := true) (fun k => ?_) (key l.length 0 rfl (Nat.zero_le _))
  show laws_eqIntSS.f k l l = _
  rw [laws_eqIntSS.f, if_pos rfl]
  rfl
end MS
def mk (a n : Nat) : List Int := (List.range n).map fun j => ((a + j : Nat) : Int)
theorem mk_len (a n : Nat) : (mk a n).length = n := by simp [mk]
theorem mk_succ (a n : Nat) : mk a (n + 1) = mk a n ++ [((a + n : Nat) : Int)] := by
  unfold mk
  rw [List.range_succ, List.map_append]
  rfl
theorem mk_at {a n i : Nat} (h : i < (mk a n).length) : (mk a n)[i] = ((a + i : Nat) : Int) := by
  unfold mk at h ⊢
  rw [List.getElem_map, List.getElem_range]
theorem markInts_gen (l : List Int) (a : Nat) (hl : l.length < 1000) (ha : a < 10000) : Ev (fun k => laws_markIntS.f k l (a : Int)) (((a + l.length : Nat) : Int), mk a l.length) := by
  have key : ∀ (d i : Nat), l.length - i = d → i ≤ l.length → Ev (fun k => laws_markIntS.l0 k (mk a i ++ l.drop i) ((a + i : Nat) : Int) (i : Int)) (((a + l.length : Nat) : Int), mk a l.length) := by
    intro d
    induction d with
    | zero =>
      intro i hd hi
      have e : i = l.length := by omega
      subst e
      rw [List.drop_length, List.append_nil]
      have g : ¬ ((l.length : Int) < ((mk a l.length).length : Int)) := by rw [mk_len]; omega
      exact Ev.step (f := fun _ => some (((a + l.length : Nat) : Int), mk a l.length)) (fun k => by rw [laws_markIntS.l0, if_neg g]) (Ev.now _)
    | succ d ih =>
      intro i hd hi
      have hlt : i < l.length := by omega
      have h1 := ih (i + 1) (by omega) (by omega)
      have g : (i : Int) < ((mk a i ++ l.drop i).length : Int) := by rw [List.length_append, mk_len, List.length_drop]; omega
      have g0 : (0 : Int) ≤ (i : Int) := by omega
      have b : i + 1 < 1000000 := by omega
      have b2 : a + (i + 1) < 1000000 := by omega
      have hset : (mk a i ++ l.drop i).set (i : Int).toNat ((a + i : Nat) : Int) = mk a (i + 1) ++ l.drop (i + 1) := by
        rw [Int.toNat_natCast, List.set_append_right _ _ (by rw [mk_len]; omega), mk_len, Nat.sub_self, List.drop_eq_getElem_cons hlt, List.set_cons_zero, mk_succ, List.append_assoc]
        rfl
      have e : wrap64 ((i : Int) + 1) = ((i + 1 : Nat) : Int) := wm b rfl
      have e2 : wrap64 (((a + i : Nat) : Int) + 1) = ((a + (i + 1) : Nat) : Int) := wm b2 rfl
      exact Ev.step (fun k => by rw [laws_markIntS.l0, if_pos g, if_pos g0, hset, e, e2]) h1
  exact key l.length 0 rfl (Nat.zero_le _)
theorem heldInts_gen (a n : Nat) (hn : n < 1000) (ha : a < 10000) : Ev (fun k => laws_heldIntS.f k (mk a n) (a : Int)) ((a + n : Nat) : Int) := by
  have key : ∀ (d i : Nat), n - i = d → i ≤ n → Ev (fun k => laws_heldIntS.l0 k (mk a n) ((a + i : Nat) : Int) (i : Int)) ((a + n : Nat) : Int) := by
    intro d
    induction d with
    | zero =>
      intro i hd hi
      have e : i = n := by omega
      subst e
      have g : ¬ ((i : Int) < ((mk a i).length : Int)) := by rw [mk_len]; omega
      exact Ev.step (f := fun _ => some ((a + i : Nat) : Int)) (fun k => by rw [laws_heldIntS.l0, if_neg g]) (Ev.now _)
    | succ d ih =>
      intro i hd hi
      have h1 := ih (i + 1) (by omega) (by omega)
      have hlt : i < (mk a n).length := by rw [mk_len]; omega
      have g : (i : Int) < ((mk a n).length : Int) := by omega
      have g0 : (0 : Int) ≤ (i : Int) := by omega
      have b : i + 1 < 1000000 := by omega
      have b2 : a + (i + 1) < 1000000 := by omega
      have hrd : rd (mk a n) (i : Int) = ((a + i : Nat) : Int) := by rw [MS.rdI_in hlt, mk_at hlt]
      have e : wrap64 ((i : Int) + 1) = ((i + 1 : Nat) : Int) := wm b rfl
      have e2 : wrap64 (((a + i : Nat) : Int) + 1) = ((a + (i + 1) : Nat) : Int) := wm b2 rfl
      exact Ev.step (fun k => by rw [laws_heldIntS.l0, if_pos g, if_pos g0, hrd, if_pos rfl, e, e2]) h1
  exact key n 0 rfl (Nat.zero_le _)
/-- How many numbers lie in the first i lists. -/
def tot (rows : List (List Int)) (i : Nat) : Nat := ((rows.take i).map List.length).sum
theorem tot_succ {rows : List (List Int)} {i : Nat} (h : i < rows.length) : tot rows (i + 1) = tot rows i + rows[i].length := by
  unfold tot
  rw [List.take_succ_eq_append_getElem h, List.map_append, List.sum_append]
  simp
theorem tot_le (rows : List (List Int)) (hr : ∀ r ∈ rows, r.length ≤ 36) : ∀ i, tot rows i ≤ 36 * i := by
  intro i
  induction i with
  | zero => exact Nat.zero_le _
  | succ i ih =>
    by_cases h : i < rows.length
    · rw [tot_succ h]
      have := hr _ (List.getElem_mem h)
      omega
    · have : tot rows (i + 1) = tot rows i := by unfold tot; rw [List.take_of_length_le (by omega), List.take_of_length_le (by omega)]
      omega
/-- The lists when the first i of them are marked. -/
def mkd (a : Nat) (rows : List (List Int)) (i : Nat) : List (List Int) := (List.range rows.length).map fun j => if j < i then mk (a + tot rows j) (rows[j]?.getD []).length else rows[j]?.getD []
theorem mkd_len (a : Nat) (rows : List (List Int)) (i : Nat) : (mkd a rows i).length = rows.length := by simp [mkd]
theorem mkd_at {a : Nat} {rows : List (List Int)} {i j : Nat} (h : j < rows.length) : (mkd a rows i)[j]'(by rw [mkd_len]; exact h) = if j < i then mk (a + tot rows j) rows[j].length else rows[j] := by
  unfold mkd
  rw [List.getElem_map, List.getElem_range, List.getElem?_eq_getElem h]
  rfl
theorem mkd_zero (a : Nat) (rows : List (List Int)) : mkd a rows 0 = rows := by
  apply List.ext_getElem
  · rw [mkd_len]
  · intro j h1 h2
    rw [mkd_at h2, if_neg (Nat.not_lt_zero _)]
theorem mkd_succ {a : Nat} {rows : List (List Int)} {i : Nat} (h : i < rows.length) : mkd a rows (i + 1) = (mkd a rows i).set i (mk (a + tot rows i) rows[i].length) := by
  apply List.ext_getElem
  · rw [mkd_len, List.length_set, mkd_len]
  · intro j h1 h2
    rw [mkd_len] at h1
    rw [mkd_at h1, List.getElem_set]
    by_cases e : i = j
    · subst e
      rw [if_pos rfl, if_pos (Nat.lt_succ_self _)]
    · rw [if_neg e, mkd_at h1]
      by_cases hj : j < i
      · rw [if_pos hj, if_pos (by omega)]
      · rw [if_neg hj, if_neg (by omega)]
theorem heldSS_eq (a : Nat) (rows : List (List Int)) (hl : rows.length ≤ 36) (hr : ∀ r ∈ rows, r.length ≤ 36) (ha : a ≤ 10) : Ev (fun k => laws_heldIntSS.f k (mkd a rows rows.length) (a : Int)) ((a + tot rows rows.length : Nat) : Int) := by
  have key : ∀ (d i : Nat), rows.length - i = d → i ≤ rows.length → Ev (fun k => laws_heldIntSS.l0 k (mkd a rows rows.length) ((a + tot rows i : Nat) : Int) (i : Int)) ((a + tot rows rows.length : Nat) : Int) := by
    intro d
    induction d with
    | zero =>
      intro i hd hi
      have e : i = rows.length := by omega
      subst e
      have g : ¬ ((rows.length : Int) < ((mkd a rows rows.length).length : Int)) := by rw [mkd_len]; omega
      exact Ev.step (f := fun _ => some ((a + tot rows rows.length : Nat) : Int)) (fun k => by rw [laws_heldIntSS.l0, if_neg g]) (Ev.now _)
    | succ d ih =>
      intro i hd hi
      have h1 := ih (i + 1) (by omega) (by omega)
      have hlt : i < rows.length := by omega
      have hlt2 : i < (mkd a rows rows.length).length := by rw [mkd_len]; exact hlt
      have g : (i : Int) < ((mkd a rows rows.length).length : Int) := by omega
      have g0 : (0 : Int) ≤ (i : Int) := by omega
      have b : i + 1 < 1000000 := by omega
      have e : wrap64 ((i : Int) + 1) = ((i + 1 : Nat) : Int) := wm b rfl
      have ht := tot_le rows hr i
      have hri := hr _ (List.getElem_mem hlt)
      have hE := heldInts_gen (a + tot rows i) rows[i].length (by omega) (by omega)
      have hrd : rd_L3 (mkd a rows rows.length) (i : Int) = mk (a + tot rows i) rows[i].length := by rw [MS.rdL_in hlt2, mkd_at hlt, if_pos hlt]
      have en : ¬ ((a + tot rows i + rows[i].length : Nat) : Int) < 0 := by omega
      have ets : a + tot rows (i + 1) = a + tot rows i + rows[i].length := by rw [tot_succ hlt, Nat.add_assoc]
      rw [ets] at h1
      refine Ev.step (f := fun k => (laws_heldIntS.f k (mk (a + tot rows i) rows[i].length) ((a + tot rows i : Nat) : Int)).bind fun t399 => (if t399 < 0 then (some (-1)) else (laws_heldIntSS.l0 k (mkd a rows rows.length) t399 ((i + 1 : Nat) : Int)))) (fun k => by rw [laws_heldIntSS.l0, if_pos g, if_pos g0, hrd, e]) ?_
      refine Ev.bind (f := fun k t399 => (if t399 < 0 then (some (-1)) else (laws_heldIntSS.l0 k (mkd a rows rows.length) t399 ((i + 1 : Nat) : Int)))) hE ?_
      refine Ev.congr (g := _) (r := _) (fun k => ?_) h1
      rw [if_neg en]
  refine Ev.congr (g := _) (r := _) (fun k => ?_) (key rows.length 0 rfl (Nat.zero_le _))
  rw [laws_heldIntSS.f]
  rfl
end Go.Proofs.YtplifefnjeledaaDoorL
namespace Go.Proofs.YtplifefnjeledaaDoorV
open Go.RowKit Go.Proofs.YtplifefnjeledaaDoorW.PrintWords Go.Proofs.YtplifefnjeledaaDoorW.PrintLast Go.Proofs.YtplifefnjeledaaDoorL
abbrev KS : Kd (List Int) := Kd.slice 3 (Kd.int .i64)
set_option maxRecDepth 100000 in
set_option maxHeartbeats 4000000 in
theorem markSS_calls (HMark : ∀ (w0 : World) (P : Nat → Prop) (u : Value) (l : List Int) (a : Nat) (W : World), l.length ≤ 36 → a ≤ 2000 → Below w0.heap.size w0 W → Kd.R (Kd.int .i64) 3 W w0.heap.size P u l →
      Calls Tryd.prog 32 #[u, .int .i64 (a : Int)] W fun e w' => e = .returned (.int .i64 ((a + l.length : Nat) : Int)) ∧ Kd.R (Kd.int .i64) 3 w' w0.heap.size (fun k_ => P k_ ∨ W.heap.size ≤ k_) u (mk a l.length) ∧ Below w0.heap.size w0 w' ∧ Kept W w' P)
    (w0 : World) (v : Value) (rows : List (List Int)) (w : World) (hB : Below w0.heap.size w0 w) (hS : Kd.S KS 38 w w0.heap.size (fun k => w0.heap.size ≤ k) v rows) (hl : rows.length ≤ 36) (hr : ∀ r ∈ rows, r.length ≤ 36) :
    Calls Tryd.prog 15 #[v, .int .i64 1] w fun e w' => e = .returned (.int .i64 ((1 + tot rows rows.length : Nat) : Int)) ∧ Kd.S KS 38 w' w0.heap.size (fun k => w0.heap.size ≤ k) v (mkd 1 rows rows.length) ∧ Below w0.heap.size w0 w' := by
  obtain ⟨A, c, rfl⟩ := Kd.S_slice hS
  have HM := Aside0.mk HMark
  have HR := Aside0.mk hr
  clear HMark hr
  have HS := Aside0.mk hS
  have HB := Aside0.mk hB
  clear hS hB
  obtain ⟨B0, hB0⟩ : ∃ B0, w0.heap.size = B0 := ⟨_, rfl⟩
  go_enter Tryd.func15, Tryd.ntmps15
  go_wp2
  go_loopw [1, 5] (fun s1 s5 wr => ∃ i : Nat, i ≤ rows.length ∧ s5 = .int .i64 (i : Int) ∧ s1 = .int .i64 ((1 + tot rows i : Nat) : Int) ∧ Aside0 (Kd.S KS 38 wr w0.heap.size (fun k => w0.heap.size ≤ k) (.slice A rows.length c) (mkd 1 rows i)) ∧ Aside0 (Below w0.heap.size w0 wr))
    (fun _ s5 _ => rows.length - (intOf s5).toNat)
  case atStart => exact ⟨0, Nat.zero_le _, rfl, rfl, Aside0.mk (by rw [mkd_zero]; exact HS.out), HB⟩
  case round =>
    obtain ⟨i, hi, rfl, rfl, HSr, HBr⟩ := hrel
    by_cases hlt : i < rows.length
    · have hlti : (i : Int) < (rows.length : Int) := by omega
      obtain ⟨g, cap, eA, hg1, hg2, cells, hg3⟩ := Kd.S_form HSr.out (by rw [mkd_len]; omega)
      obtain ⟨rfl, eLen, rfl⟩ := Value.slice.inj eA
      clear eLen
      obtain ⟨oki, cc, hcl, hM, hcc, hoki, hH⟩ := Kd.S_lend HSr.out ([] : List Int) (i : Int) (by omega) hlti
      obtain ⟨vr, rfl, hRr⟩ := hM
      have hcell : wr.cell? ⟨g, i, none⟩ = some vr := by
        have := hcc 0 vr rfl
        rw [Int.toNat_natCast, show i * KS.sz + 0 = i from by show i * 1 + 0 = i; omega] at this
        exact this
      have erow : (mkd 1 rows i).getD (i : Int).toNat [] = rows[i] := by
        rw [Int.toNat_natCast, List.getD_eq_getElem?_getD, List.getElem?_eq_getElem (by rw [mkd_len]; exact hlt), mkd_at hlt, if_neg (Nat.lt_irrefl _)]
        rfl
      rw [erow] at hRr
      have ht := tot_le rows HR.out i
      have hri := HR.out _ (List.getElem_mem hlt)
      have hcall := HM.out w0 oki vr rows[i] (1 + tot rows i) wr hri (by omega) HBr.out hRr
      have hW := Kd.H_widen hH
      have hset := mkd_succ (a := 1) hlt
      have hts := tot_succ hlt
      have HW := Aside0.mk (And.intro hW (And.intro hset (And.intro hts HBr.out.size)))
      clear hW hset hts hH hRr hcc hoki erow hg3 eA hcl ht
      obtain ⟨T, hT⟩ : ∃ T : Nat, 1 + tot rows i = T := ⟨_, rfl⟩
      obtain ⟨ln, hln⟩ : ∃ ln : Nat, rows[i].length = ln := ⟨_, rfl⟩
      rw [hT, hln] at hcall
      rw [hT]
      have HT := Aside0.mk (And.intro hT hln)
      clear hT hln hri
      go_wp2_with (go_at_call 32; (with_reducible refine hcall.mono ?_); rintro e w1 ⟨rfl, hR1, hB1, hK1⟩)
      refine ⟨⟨i + 1, by omega, by simp, ?_, Aside0.mk ?_, Aside0.mk hB1⟩, by simp [intOf]; omega⟩
      · have e : ((1 + tot rows (i + 1) : Nat) : Int) = ((T + ln : Nat) : Int) := by
          rw [HW.out.2.2.1, ← HT.out.1, ← HT.out.2, Nat.add_assoc]
        rw [e]
        first | rfl | simp
      · rw [HW.out.2.1, HT.out.1, HT.out.2]
        have hH2 := Kd.H_kept HW.out.1 hK1 (fun k _ hn hs => hn (.inl hs))
        have := Kd.H_back (okp := fun k_ => oki k_ ∨ wr.heap.size ≤ k_) hH2 (x' := mk T ln) ⟨vr, rfl, hR1⟩ (fun k hk => hk.imp id (fun h => ⟨Nat.le_trans HW.out.2.2.2 h, h⟩))
        rw [Int.toNat_natCast] at this
        exact this
    · have e : i = rows.length := by omega
      subst e
      go_wp2
      go_ret
      exact ⟨rfl, HSr.out, HBr.out⟩
end Go.Proofs.YtplifefnjeledaaDoorV
