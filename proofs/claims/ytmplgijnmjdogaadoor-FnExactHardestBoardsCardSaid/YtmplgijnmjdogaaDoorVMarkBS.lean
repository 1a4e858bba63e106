/- The laws' own looks at lists of boards: eqBoardS (alike), markIntS with any start, heldBoardS (the numbers still lie there), markBoardS. -/
import Derived.Test.YtmplgijnmjdogaaDoorQx9
import Derived.Test.YtmplgijnmjdogaaDoorQx10
import Derived.Test.YtmplgijnmjdogaaDoorQx11
import Derived.WalkKit
import Derived.Shelf.Abstract
import Derived.Deep.LoopGhost
import Derived.Deep.CutBlock
import Derived.Lib.Walk
import Derived.Test.YtmplgijnmjdogaaDoorProg
import Derived.Test.YtmplgijnmjdogaaDoorWLast
import Derived.Test.YtmplgijnmjdogaaDoorWMore
set_option linter.unusedVariables false
set_option linter.unusedSimpArgs false
namespace Go.Proofs.YtmplgijnmjdogaaDoorL
open Go.RowKit Go.Proofs.YtmplgijnmjdogaaDoor.Q Go.Proofs.YtmplgijnmjdogaaDoorW.PrintWords Go.Proofs.YtmplgijnmjdogaaDoorW.PrintLast
/-- A board: its width and its cells. -/
abbrev Bd := S28
abbrev KB : Kd Bd := k28
instance : Inhabited Bd := ⟨z28⟩
namespace MS
theorem wm {n : Nat} {z : Int} (h : n < 1000000) (hz : z = (n : Int)) : wrap64 z = (n : Int) := by
  rw [hz]
  unfold wrap64
  omega
theorem rdB_in {l : List Bd} {i : Nat} (h : i < l.length) : rd_T28 l (i : Int) = l[i] := by
  unfold rd_T28
  rw [Int.toNat_natCast, List.getD_eq_getElem?_getD, List.getElem?_eq_getElem h]
  rfl
theorem rdI_in {l : List Int} {i : Nat} (h : i < l.length) : rd l (i : Int) = l[i] := by
  unfold rd
  rw [Int.toNat_natCast, List.getD_eq_getElem?_getD, List.getElem?_eq_getElem h]
  rfl
theorem eqInts_self (l : List Int) (hl : l.length < 1000) : Ev (fun k => laws_eqIntS.f k l l) true := by
  have key : ∀ (d i : Nat), l.length - i = d → i ≤ l.length → Ev (fun k => laws_eqIntS.l0 k l l (i : Int)) true := by
    intro d
    induction d with
    | zero =>
      intro i hd hi
      have g : ¬ ((i : Int) < (l.length : Int)) := by omega
      exact Ev.step (f := fun _ => some true) (fun k => by rw [laws_eqIntS.l0, if_neg g]) (Ev.now _)
    | succ d ih =>
      intro i hd hi
      have h1 := ih (i + 1) (by omega) (by omega)
      have g : (i : Int) < (l.length : Int) := by omega
      have g0 : (0 : Int) ≤ (i : Int) := by omega
      have b : i + 1 < 1000000 := by omega
      have e : wrap64 ((i : Int) + 1) = ((i + 1 : Nat) : Int) := wm b rfl
      exact Ev.step (fun k => by rw [laws_eqIntS.l0, if_pos g, if_pos g0, if_pos g, if_pos rfl, e]) h1
  refine Ev.congr (g := _) (r := true) (fun k => ?_) (key l.length 0 rfl (Nat.zero_le _))
  show laws_eqIntS.f k l l = _
  rw [laws_eqIntS.f, if_pos rfl]
  rfl
theorem eqB_self (x : Bd) (hl : x.f1.length < 1000) : Ev (fun k => laws_eqBoard.f k x.f0 x.f1 x.f0 x.f1) true := by
  have hE := eqInts_self x.f1 hl
  refine Ev.congr (f := fun k => (laws_eqIntS.f k x.f1 x.f1).bind fun t => (some (if t = true then true else false))) (r := true) (fun k => ?_) ?_
  · show laws_eqBoard.f k x.f0 x.f1 x.f0 x.f1 = _
    unfold laws_eqBoard.f
    cases laws_eqIntS.f k x.f1 x.f1 with
    | none => simp
    | some t => cases t <;> simp
  · exact Ev.bind hE (Ev.now _)
theorem eqBS_self (l : List Bd) (hl : l.length < 10000) (hr : ∀ r ∈ l, r.f1.length < 1000) : Ev (fun k => laws_eqBoardS.f k l l) true := by
  have key : ∀ (d i : Nat), l.length - i = d → i ≤ l.length → Ev (fun k => laws_eqBoardS.l0 k l l (i : Int)) true := by
    intro d
    induction d with
    | zero =>
      intro i hd hi
      have g : ¬ ((i : Int) < (l.length : Int)) := by omega
      exact Ev.step (f := fun _ => some true) (fun k => by rw [laws_eqBoardS.l0, if_neg g]) (Ev.now _)
    | succ d ih =>
      intro i hd hi
      have h1 := ih (i + 1) (by omega) (by omega)
      have hlt : i < l.length := by omega
      have g : (i : Int) < (l.length : Int) := by omega
      have g0 : (0 : Int) ≤ (i : Int) := by omega
      have b : i + 1 < 1000000 := by omega
      have e : wrap64 ((i : Int) + 1) = ((i + 1 : Nat) : Int) := wm b rfl
      have hE := eqB_self l[i] (hr _ (List.getElem_mem hlt))
      refine Ev.step (f := fun k => (laws_eqBoard.f k l[i].f0 l[i].f1 l[i].f0 l[i].f1).bind fun t394 => (if t394 = true then (laws_eqBoardS.l0 k l l ((i + 1 : Nat) : Int)) else (some false))) (fun k => by rw [laws_eqBoardS.l0, if_pos g, if_pos g0, if_pos g, rdB_in hlt, e]) ?_
      refine Ev.bind (f := fun k t394 => (if t394 = true then (laws_eqBoardS.l0 k l l ((i + 1 : Nat) : Int)) else (some false))) hE ?_
      exact h1
  refine Ev.congr (g := _) (r := true) (fun k => ?_) (key l.length 0 rfl (Nat.zero_le _))
  show laws_eqBoardS.f k l l = _
  rw [laws_eqBoardS.f, if_pos rfl]
  rfl
end MS
def mk (a n : Nat) : List Int := (List.range n).map fun j => ((a + j : Nat) : Int)
theorem mk_len (a n : Nat) : (mk a n).length = n := by simp [mk]
theorem mk_succ (a n : Nat) : mk a (n + 1) = mk a n ++ [((a + n : Nat) : Int)] := by
  unfold mk
  rw [List.range_succ, List.map_append]
  rfl
theorem mk_at {a n i : Nat} (h : i < (mk a n).length) : (mk a n)[i] = ((a + i : Nat) : Int) := by
  unfold mk at h ⊢
  rw [List.getElem_map, List.getElem_range]
theorem markInts_gen (l : List Int) (a : Nat) (hl : l.length < 1000) (ha : a < 100000) : Ev (fun k => laws_markIntS.f k l (a : Int)) (((a + l.length : Nat) : Int), mk a l.length) := by
  have key : ∀ (d i : Nat), l.length - i = d → i ≤ l.length → Ev (fun k => laws_markIntS.l0 k (mk a i ++ l.drop i) ((a + i : Nat) : Int) (i : Int)) (((a + l.length : Nat) : Int), mk a l.length) := by
    intro d
    induction d with
    | zero =>
      intro i hd hi
      have e : i = l.length := by omega
      subst e
      rw [List.drop_length, List.append_nil]
      have g : ¬ ((l.length : Int) < ((mk a l.length).length : Int)) := by rw [mk_len]; omega
      exact Ev.step (f := fun _ => some (((a + l.length : Nat) : Int), mk a l.length)) (fun k => by rw [laws_markIntS.l0, if_neg g]) (Ev.now _)
    | succ d ih =>
      intro i hd hi
      have hlt : i < l.length := by omega
      have h1 := ih (i + 1) (by omega) (by omega)
      have g : (i : Int) < ((mk a i ++ l.drop i).length : Int) := by rw [List.length_append, mk_len, List.length_drop]; omega
      have g0 : (0 : Int) ≤ (i : Int) := by omega
      have b : i + 1 < 1000000 := by omega
      have b2 : a + (i + 1) < 1000000 := by omega
      have hset : (mk a i ++ l.drop i).set (i : Int).toNat ((a + i : Nat) : Int) = mk a (i + 1) ++ l.drop (i + 1) := by
        rw [Int.toNat_natCast, List.set_append_right _ _ (by rw [mk_len]; omega), mk_len, Nat.sub_self, List.drop_eq_getElem_cons hlt, List.set_cons_zero, mk_succ, List.append_assoc]
        rfl
      have e : wrap64 ((i : Int) + 1) = ((i + 1 : Nat) : Int) := MS.wm b rfl
      have e2 : wrap64 (((a + i : Nat) : Int) + 1) = ((a + (i + 1) : Nat) : Int) := MS.wm b2 rfl
      exact Ev.step (fun k => by rw [laws_markIntS.l0, if_pos g, if_pos g0, hset, e, e2]) h1
  exact key l.length 0 rfl (Nat.zero_le _)
theorem heldInts_gen (a n : Nat) (hn : n < 1000) (ha : a < 100000) : Ev (fun k => laws_heldIntS.f k (mk a n) (a : Int)) ((a + n : Nat) : Int) := by
  have key : ∀ (d i : Nat), n - i = d → i ≤ n → Ev (fun k => laws_heldIntS.l0 k (mk a n) ((a + i : Nat) : Int) (i : Int)) ((a + n : Nat) : Int) := by
    intro d
    induction d with
    | zero =>
      intro i hd hi
      have e : i = n := by omega
      subst e
      have g : ¬ ((i : Int) < ((mk a i).length : Int)) := by rw [mk_len]; omega
      exact Ev.step (f := fun _ => some ((a + i : Nat) : Int)) (fun k => by rw [laws_heldIntS.l0, if_neg g]) (Ev.now _)
    | succ d ih =>
      intro i hd hi
      have h1 := ih (i + 1) (by omega) (by omega)
      have hlt : i < (mk a n).length := by rw [mk_len]; omega
      have g : (i : Int) < ((mk a n).length : Int) := by omega
      have g0 : (0 : Int) ≤ (i : Int) := by omega
      have b : i + 1 < 1000000 := by omega
      have b2 : a + (i + 1) < 1000000 := by omega
      have hrd : rd (mk a n) (i : Int) = ((a + i : Nat) : Int) := by rw [MS.rdI_in hlt, mk_at hlt]
      have e : wrap64 ((i : Int) + 1) = ((i + 1 : Nat) : Int) := MS.wm b rfl
      have e2 : wrap64 (((a + i : Nat) : Int) + 1) = ((a + (i + 1) : Nat) : Int) := MS.wm b2 rfl
      exact Ev.step (fun k => by rw [laws_heldIntS.l0, if_pos g, if_pos g0, hrd, if_pos rfl, e, e2]) h1
  exact key n 0 rfl (Nat.zero_le _)
/-- How many numbers lie in the first i boards. -/
def tot (rows : List Bd) (i : Nat) : Nat := ((rows.take i).map fun r => 1 + r.f1.length).sum
theorem tot_succ {rows : List Bd} {i : Nat} (h : i < rows.length) : tot rows (i + 1) = tot rows i + 1 + rows[i].f1.length := by
  unfold tot
  rw [List.take_succ_eq_append_getElem h, List.map_append, List.sum_append]
  simp
  omega
theorem tot_le (rows : List Bd) (hr : ∀ r ∈ rows, r.f1.length ≤ 36) : ∀ i, tot rows i ≤ 37 * i := by
  intro i
  induction i with
  | zero => exact Nat.zero_le _
  | succ i ih =>
    by_cases h : i < rows.length
    · rw [tot_succ h]
      have := hr _ (List.getElem_mem h)
      omega
    · have : tot rows (i + 1) = tot rows i := by unfold tot; rw [List.take_of_length_le (by omega), List.take_of_length_le (by omega)]
      omega
def mkB (a : Nat) (r : Bd) : Bd := ⟨(a : Int), mk (a + 1) r.f1.length⟩
/-- The boards when the first i of them are marked. -/
def mkd (a : Nat) (rows : List Bd) (i : Nat) : List Bd := (List.range rows.length).map fun j => if j < i then mkB (a + tot rows j) (rows[j]?.getD default) else rows[j]?.getD default
theorem mkd_len (a : Nat) (rows : List Bd) (i : Nat) : (mkd a rows i).length = rows.length := by simp [mkd]
theorem mkd_at {a : Nat} {rows : List Bd} {i j : Nat} (h : j < rows.length) : (mkd a rows i)[j]'(by rw [mkd_len]; exact h) = if j < i then mkB (a + tot rows j) rows[j] else rows[j] := by
  unfold mkd
  rw [List.getElem_map, List.getElem_range, List.getElem?_eq_getElem h]
  rfl
theorem mkd_zero (a : Nat) (rows : List Bd) : mkd a rows 0 = rows := by
  apply List.ext_getElem
  · rw [mkd_len]
  · intro j h1 h2
    rw [mkd_at h2, if_neg (Nat.not_lt_zero _)]
theorem mkd_succ {a : Nat} {rows : List Bd} {i : Nat} (h : i < rows.length) : mkd a rows (i + 1) = (mkd a rows i).set i (mkB (a + tot rows i) rows[i]) := by
  apply List.ext_getElem
  · rw [mkd_len, List.length_set, mkd_len]
  · intro j h1 h2
    rw [mkd_len] at h1
    rw [mkd_at h1, List.getElem_set]
    by_cases e : i = j
    · subst e
      rw [if_pos rfl, if_pos (Nat.lt_succ_self _)]
    · rw [if_neg e, mkd_at h1]
      by_cases hj : j < i
      · rw [if_pos hj, if_pos (by omega)]
      · rw [if_neg hj, if_neg (by omega)]
theorem heldBS_eq (a : Nat) (rows : List Bd) (hl : rows.length ≤ 1000) (hr : ∀ r ∈ rows, r.f1.length ≤ 36) (ha : a ≤ 10) : Ev (fun k => laws_heldBoardS.f k (mkd a rows rows.length) (a : Int)) ((a + tot rows rows.length : Nat) : Int) := by
  have key : ∀ (d i : Nat), rows.length - i = d → i ≤ rows.length → Ev (fun k => laws_heldBoardS.l0 k (mkd a rows rows.length) ((a + tot rows i : Nat) : Int) (i : Int)) ((a + tot rows rows.length : Nat) : Int) := by
    intro d
    induction d with
    | zero =>
      intro i hd hi
      have e : i = rows.length := by omega
      subst e
      have g : ¬ ((rows.length : Int) < ((mkd a rows rows.length).length : Int)) := by rw [mkd_len]; omega
      exact Ev.step (f := fun _ => some ((a + tot rows rows.length : Nat) : Int)) (fun k => by rw [laws_heldBoardS.l0, if_neg g]) (Ev.now _)
    | succ d ih =>
      intro i hd hi
      have h1 := ih (i + 1) (by omega) (by omega)
      have hlt : i < rows.length := by omega
      have hlt2 : i < (mkd a rows rows.length).length := by rw [mkd_len]; exact hlt
      have g : (i : Int) < ((mkd a rows rows.length).length : Int) := by omega
      have g0 : (0 : Int) ≤ (i : Int) := by omega
      have b : i + 1 < 1000000 := by omega
      have e : wrap64 ((i : Int) + 1) = ((i + 1 : Nat) : Int) := MS.wm b rfl
      have ht := tot_le rows hr i
      have hri := hr _ (List.getElem_mem hlt)
      have hE := heldInts_gen (a + tot rows i + 1) rows[i].f1.length (by omega) (by omega)
      have hrd : rd_T28 (mkd a rows rows.length) (i : Int) = mkB (a + tot rows i) rows[i] := by rw [MS.rdB_in hlt2, mkd_at hlt, if_pos hlt]
      have en : ¬ ((a + tot rows i + 1 + rows[i].f1.length : Nat) : Int) < 0 := by omega
      have ets : a + tot rows (i + 1) = a + tot rows i + 1 + rows[i].f1.length := by rw [tot_succ hlt]; omega
      have b3 : a + tot rows i + 1 < 1000000 := by omega
      have e3 : wrap64 (((a + tot rows i : Nat) : Int) + 1) = ((a + tot rows i + 1 : Nat) : Int) := MS.wm b3 rfl
      rw [ets] at h1
      refine Ev.step (f := fun k => (laws_heldIntS.f k (mk (a + tot rows i + 1) rows[i].f1.length) ((a + tot rows i + 1 : Nat) : Int)).bind fun t399 => (if t399 < 0 then (some (-1)) else (laws_heldBoardS.l0 k (mkd a rows rows.length) t399 ((i + 1 : Nat) : Int)))) (fun k => by rw [laws_heldBoardS.l0, if_pos g, if_pos g0, hrd, e]; unfold mkB; rw [if_pos rfl, e3]) ?_
      refine Ev.bind (f := fun k t399 => (if t399 < 0 then (some (-1)) else (laws_heldBoardS.l0 k (mkd a rows rows.length) t399 ((i + 1 : Nat) : Int)))) hE ?_
      refine Ev.congr (g := _) (r := _) (fun k => ?_) h1
      rw [if_neg en]
  refine Ev.congr (g := _) (r := _) (fun k => ?_) (key rows.length 0 rfl (Nat.zero_le _))
  rw [laws_heldBoardS.f]
  rfl
end Go.Proofs.YtmplgijnmjdogaaDoorL
namespace Go.Proofs.YtmplgijnmjdogaaDoorV
open Go.RowKit Go.Proofs.YtmplgijnmjdogaaDoor.Q Go.Proofs.YtmplgijnmjdogaaDoorW.PrintWords Go.Proofs.YtmplgijnmjdogaaDoorW.PrintLast Go.Proofs.YtmplgijnmjdogaaDoorL
set_option maxRecDepth 100000 in
set_option maxHeartbeats 4000000 in
theorem markBS_calls (HMark : ∀ (w0 : World) (P : Nat → Prop) (u : Value) (l : List Int) (a : Nat) (W : World), l.length ≤ 36 → a ≤ 50000 → Below w0.heap.size w0 W → Kd.R (Kd.int .i64) 3 W w0.heap.size P u l →
      Calls Tryd.prog 38 #[u, .int .i64 (a : Int)] W fun e w' => e = .returned (.int .i64 ((a + l.length : Nat) : Int)) ∧ Kd.R (Kd.int .i64) 3 w' w0.heap.size (fun k_ => P k_ ∨ W.heap.size ≤ k_) u (mk a l.length) ∧ Below w0.heap.size w0 w' ∧ Kept W w' P)
    (w0 : World) (v : Value) (rows : List Bd) (w : World) (hB : Below w0.heap.size w0 w) (hS : Kd.S KB 28 w w0.heap.size (fun k => w0.heap.size ≤ k) v rows) (hl : rows.length ≤ 1000) (hr : ∀ r ∈ rows, r.f1.length ≤ 36) :
    Calls Tryd.prog 13 #[v, .int .i64 1] w fun e w' => e = .returned (.int .i64 ((1 + tot rows rows.length : Nat) : Int)) ∧ Kd.S KB 28 w' w0.heap.size (fun k => w0.heap.size ≤ k) v (mkd 1 rows rows.length) ∧ Below w0.heap.size w0 w' := by
  obtain ⟨A, c, rfl⟩ := Kd.S_slice hS
  have HM := Aside0.mk HMark
  have HR := Aside0.mk hr
  clear HMark hr
  have HS := Aside0.mk hS
  have HB := Aside0.mk hB
  clear hS hB
  obtain ⟨B0, hB0⟩ : ∃ B0, w0.heap.size = B0 := ⟨_, rfl⟩
  go_enter Tryd.func13, Tryd.ntmps13
  go_wp2
  go_loopw [1, 5] (fun s1 s5 wr => ∃ i : Nat, i ≤ rows.length ∧ s5 = .int .i64 (i : Int) ∧ s1 = .int .i64 ((1 + tot rows i : Nat) : Int) ∧ Aside0 (Kd.S KB 28 wr w0.heap.size (fun k => w0.heap.size ≤ k) (.slice A rows.length c) (mkd 1 rows i)) ∧ Aside0 (Below w0.heap.size w0 wr))
    (fun _ s5 _ => rows.length - (intOf s5).toNat)
  case atStart => exact ⟨0, Nat.zero_le _, rfl, rfl, Aside0.mk (by rw [mkd_zero]; exact HS.out), HB⟩
  case round =>
    obtain ⟨i, hi, rfl, rfl, HSr, HBr⟩ := hrel
    by_cases hlt : i < rows.length
    · have hlti : (i : Int) < (rows.length : Int) := by omega
      obtain ⟨g, cap, eA, hg1, hg2, cells, hg3⟩ := Kd.S_form HSr.out (by rw [mkd_len]; omega)
      obtain ⟨rfl, eLen, rfl⟩ := Value.slice.inj eA
      clear eLen
      have erow : (mkd 1 rows i).getD (i : Int).toNat default = rows[i] := by
        rw [Int.toNat_natCast, List.getD_eq_getElem?_getD, List.getElem?_eq_getElem (by rw [mkd_len]; exact hlt), mkd_at hlt, if_neg (Nat.lt_irrefl _)]
        rfl
      obtain ⟨oki, cc, hcl, hM, hcc, hoki, hH⟩ := Kd.S_lend HSr.out default (i : Int) (by omega) hlti
      rw [erow] at hM
      obtain ⟨hat1, hat2⟩ := Kd.H_at hH (by omega) hlti
      obtain ⟨vr, rfl, hRr⟩ := k28_openM hM
      have hc0 : wr.cell? ⟨g, i * 2, none⟩ = some (.int .i64 rows[i].f0) := by
        have := hat1 0 _ rfl
        rwa [Int.toNat_natCast] at this
      have hc1 : wr.cell? ⟨g, i * 2 + 1, none⟩ = some vr := by
        have := hat1 1 _ rfl
        rwa [Int.toNat_natCast] at this
      have hf0 : wr.frozen? ⟨g, i * 2, none⟩ = false := by
        have := hat2 0
        rwa [Int.toNat_natCast] at this
      have ht := tot_le rows HR.out i
      have hri := HR.out _ (List.getElem_mem hlt)
      have hset := mkd_succ (a := 1) hlt
      have hts := tot_succ hlt
      have hset1 := Kd.S_seg0 (seg := [.int .i64 ((1 + tot rows i : Nat) : Int)]) (j := 0) (okp := oki) (x' := ⟨((1 + tot rows i : Nat) : Int), rows[i].f1⟩) hH (by omega) hlti (by show 0 + 1 ≤ 2; omega) (by exact k28_mkM _ _ _ ⟨((1 + tot rows i : Nat) : Int), rows[i].f1⟩ hRr) (fun k h => h)
      obtain ⟨T, hT⟩ : ∃ T : Nat, 1 + tot rows i = T := ⟨_, rfl⟩
      obtain ⟨ln, hln⟩ : ∃ ln : Nat, rows[i].f1.length = ln := ⟨_, rfl⟩
      rw [hT] at hset1
      rw [hT]
      have HP := Aside0.mk (And.intro hset1 (And.intro hset (And.intro hts (And.intro hT (And.intro hln (And.intro hri ht))))))
      clear hset1 hset hts hM hcc hoki erow hat1 hat2 hg3 eA hcl hH hT hln hri ht hRr
      have HS1 : Aside0 (Kd.S KB 28 (wr.setCell ⟨g, i * 2, none⟩ (.int .i64 (T : Int))) w0.heap.size (fun k => w0.heap.size ≤ k) (.slice (some ⟨g, 0, none⟩) rows.length c) ((mkd 1 rows i).set i ⟨(T : Int), rows[i].f1⟩)) := by
        have := HP.out.1.1
        rw [Int.toNat_natCast] at this
        exact Aside0.mk this
      have HG1 : Aside0 (wr.grownBy (wr.setCell ⟨g, i * 2, none⟩ (.int .i64 (T : Int))) (some g)) := by
        have := HP.out.1.2
        rw [Int.toNat_natCast] at this
        exact Aside0.mk this
      go_upto_region 6 with (first | ((with_reducible refine gate_store (t := 3) (p := 16) rfl ?_); refine store_event (t := 3) (p := 16) (v := ?vo_w11) (w1 := (wr.setCell ⟨g, i * 2, none⟩ (.int .i64 (T : Int)))) ?hg ?ho ?hn ?hr ?_; (case ho => rfl); (case hg => rfl); (case hn => rfl); (case hr => first | (go_simp; done) | (go_simp; rfl)); intro w11 hw; have hp := (And.intro (hw ▸ HS1.out : Kd.S KB 28 w11 w0.heap.size (fun k => w0.heap.size ≤ k) (.slice (some ⟨g, 0, none⟩) rows.length c) ((mkd 1 rows i).set i ⟨(T : Int), rows[i].f1⟩)) (hw ▸ HG1.out : wr.grownBy w11 (some g))); clear hw; have HQ := Aside0.mk hp; clear hp))
      obtain ⟨hS11, hg11⟩ := HQ.out
      clear HQ
      have hB11 : Below w0.heap.size w0 w11 := HBr.out.trans ⟨hg11.os, hg11.tape, hg11.output, hg11.size, fun k hk => hg11.block k (Nat.lt_of_lt_of_le hk HBr.out.size) (fun e => by have := Option.some.inj e; omega)⟩
      clear hc0 hc1 hf0 HS1 HG1
      have erow2 : ((mkd 1 rows i).set i ⟨(T : Int), rows[i].f1⟩).getD (i : Int).toNat default = ⟨(T : Int), rows[i].f1⟩ := by
        rw [Int.toNat_natCast, List.getD_eq_getElem?_getD, List.getElem?_set_self (by rw [mkd_len]; exact hlt)]
        rfl
      obtain ⟨oki2, cc2, hcl2, hM2, hcc2, hoki2, hH2⟩ := Kd.S_lend hS11 default (i : Int) (by omega) hlti
      rw [erow2] at hM2
      obtain ⟨hat1, hat2⟩ := Kd.H_at hH2 (by omega) hlti
      obtain ⟨v2, rfl, hR2⟩ := k28_openM hM2
      have hc1 : w11.cell? ⟨g, i * 2 + 1, none⟩ = some v2 := by
        have := hat1 1 _ rfl
        rwa [Int.toNat_natCast] at this
      have hcall := HM.out w0 oki2 v2 rows[i].f1 (T + 1) w11 HP.out.2.2.2.2.2.1 (by have := HP.out.2.2.2.1; have := HP.out.2.2.2.2.2.2; omega) hB11 hR2
      have hW2 := Kd.H_widen hH2
      have hts1 : wrap64 ((T : Int) + 1) = ((T + 1 : Nat) : Int) := MS.wm (n := T + 1) (by have := HP.out.2.2.2.1; have := HP.out.2.2.2.2.2.2; omega) rfl
      have HW := Aside0.mk (And.intro hW2 hB11.size)
      clear hH2 hW2 hM2 hcc2 hcl2 hat1 hat2 hS11 hg11 erow2 hR2
      rw [HP.out.2.2.2.2.1, show ((T + 1 : Nat) : Int) = (T : Int) + 1 from rfl] at hcall
      go_wp2_with (go_at_call 38; (with_reducible refine hcall.mono ?_); rintro e w1 ⟨rfl, hR1, hB1, hK1⟩)
      refine ⟨⟨i + 1, by omega, by simp, ?_, Aside0.mk ?_, Aside0.mk hB1⟩, by simp [intOf]; omega⟩
      · have e : ((1 + tot rows (i + 1) : Nat) : Int) = ((T + 1 + ln : Nat) : Int) := by
          rw [HP.out.2.2.1, ← HP.out.2.2.2.1, ← HP.out.2.2.2.2.1, ← Nat.add_assoc, ← Nat.add_assoc]
        rw [e]
        first | rfl | simp
      · rw [HP.out.2.1, HP.out.2.2.2.1]
        have hH3 := Kd.H_kept HW.out.1 hK1 (fun k _ hn hs => hn (.inl hs))
        have := Kd.H_back (okp := fun k_ => oki2 k_ ∨ w11.heap.size ≤ k_) hH3 (x' := mkB T rows[i]) (by unfold mkB; rw [HP.out.2.2.2.2.1]; exact k28_mkM _ _ _ ⟨(T : Int), mk (T + 1) ln⟩ hR1) (fun k hk => hk.imp id (fun h => ⟨Nat.le_trans HW.out.2 h, h⟩))
        rw [Int.toNat_natCast, List.set_set] at this
        exact this
    · have e : i = rows.length := by omega
      subst e
      go_wp2
      go_ret
      exact ⟨rfl, HSr.out, HBr.out⟩
end Go.Proofs.YtmplgijnmjdogaaDoorV
