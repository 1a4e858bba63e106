/- Contracts of the reference's tyWalls and of the program's method (tray).emptied: a copy of the cells, each ball turned into a free cell. -/
import Derived.WalkKit
import Derived.Deep.LoopGhost
import Derived.Lib.Walk
import Derived.RangeFuncBox
import Derived.Test.YtghmjllfbaanoaaDoorProg
import Derived.Test.YtghmjllfbaanoaaDoorWLast
import Derived.Test.YtghmjllfbaanoaaDoorWMore
set_option linter.unusedVariables false
set_option linter.unusedSimpArgs false
namespace Go.Proofs.YtghmjllfbaanoaaDoorV
open Go.RowKit Go.Proofs.YtghmjllfbaanoaaDoorW.PrintWords Go.Proofs.YtghmjllfbaanoaaDoorW.PrintLast
def ballI (c : Int) : Bool := decide (c = 111) || (decide (c ≥ 97) && decide (c ≤ 102))
def clrI (c : Int) : Int := if ballI c = true then 46 else c
def wallL (l : List Int) (k : Nat) : List Int := (l.take k).map clrI ++ l.drop k
theorem wallL_len (l : List Int) (k : Nat) : (wallL l k).length = l.length := by
  unfold wallL
  rw [List.length_append, List.length_map, List.length_take, List.length_drop]
  omega
theorem wallL_at {l : List Int} {k : Nat} (h : k < l.length) : (wallL l k)[k]? = some l[k] := by
  unfold wallL
  rw [List.getElem?_append_right (by rw [List.length_map, List.length_take]; omega), List.length_map, List.length_take, List.getElem?_drop]
  have e : k + (k - min k l.length) = k := by omega
  rw [e, List.getElem?_eq_getElem h]
theorem wallL_succ {l : List Int} {k : Nat} (h : k < l.length) : wallL l (k + 1) = (wallL l k).set k (clrI l[k]) := by
  unfold wallL
  rw [List.take_succ_eq_append_getElem h, List.map_append, List.set_append_right _ _ (by rw [List.length_map, List.length_take]; omega), List.length_map, List.length_take, List.drop_eq_getElem_cons h]
  have e : k - min k l.length = 0 := by omega
  rw [e, List.set_cons_zero, List.append_assoc]
  rfl
theorem wallL_keep {l : List Int} {k : Nat} (h : k < l.length) (hb : ballI l[k] = false) : wallL l (k + 1) = wallL l k := by
  rw [wallL_succ h]
  have e : clrI l[k] = l[k] := by unfold clrI; rw [hb]; rfl
  rw [e]
  apply List.ext_getElem?
  intro j
  rw [List.getElem?_set]
  by_cases hj : k = j
  · subst hj
    rw [if_pos rfl, wallL_at h, if_pos (by rw [wallL_len]; exact h)]
  · rw [if_neg hj]
theorem wallL_all (l : List Int) : wallL l l.length = l.map clrI := by unfold wallL; rw [List.take_length, List.drop_length, List.append_nil]
theorem cell_heap {W : World} {B j : Nat} {cur : Array Value} {t : TypeId} {fr : Nat × Nat} {v : Value} (h : W.heap[B]? = some (.cells cur t fr)) (hj : cur[j]? = some v) : W.cell? ⟨B, j, none⟩ = some v := by
  simp [World.cell?, h, hj]
theorem set_heap1 {W : World} {B j : Nat} {cur : Array Value} {t : TypeId} {fr : Nat × Nat} {v : Value} (h : W.heap[B]? = some (.cells cur t fr)) : (W.setCell ⟨B, j, none⟩ v).heap[B]? = some (.cells (cur.setIfInBounds j v) t fr) := by
  obtain ⟨hlt, hk⟩ := Array.getElem?_eq_some_iff.1 h
  show (W.heap.modify B _)[B]? = _
  rw [Array.getElem?_eq_getElem (by rw [Array.size_modify]; exact hlt), Array.getElem_modify_self, hk]
  rfl
theorem take_set {cur : Array Value} {st : List Int} {k : Nat} {v : Int} (ht : cur.toList.take st.length = st.map (Value.int .u8)) (h : k < st.length) : (cur.setIfInBounds k (.int .u8 v)).toList.take st.length = (st.set k v).map (Value.int .u8) := by
  rw [Array.toList_setIfInBounds, List.take_set, ht, List.map_set]

set_option maxRecDepth 100000 in
set_option maxHeartbeats 2000000 in
theorem tyWalls_calls (HOwn : ∀ (a0 a1 : Int) (A : Option Addr) (c : Nat) (l : List Int) (w : World), Kd.C (Kd.int .u8) w A l.length l → l.length ≤ c → l.length ≤ 1000000 →
      Calls Tryd.prog 93 #[.agg #[.int .i64 a0, .int .i64 a1, .slice A l.length c]] w fun e w' => ∃ v2_ : Value, e = .returned (.agg #[.int .i64 a0, .int .i64 a1, v2_]) ∧ Kd.R (Kd.int .u8) 5 w' w.heap.size (fun _ => True) v2_ l ∧ Below w.heap.size w w')
    (HBall : ∀ (c : Int) (w : World), Calls Tryd.prog 88 #[.int .u8 c] w fun e w' => e = .returned (.bool (ballI c)) ∧ Drawn0 w w')
    (a0 a1 : Int) (A : Option Addr) (c : Nat) (l : List Int) (w : World) (hr : Kd.C (Kd.int .u8) w A l.length l) (hc : l.length ≤ c) (h2 : 0 < l.length) (h3 : l.length ≤ 1000000) :
    Calls Tryd.prog 67 #[.agg #[.int .i64 a0, .int .i64 a1, .slice A l.length c]] w fun e w' => ∃ v2_ : Value, e = .returned (.agg #[.int .i64 a0, .int .i64 a1, v2_]) ∧ Kd.R (Kd.int .u8) 5 w' w.heap.size (fun _ => True) v2_ (l.map clrI) ∧ Below w.heap.size w w' := by
  have HO : ∀ (W : World), Below w.heap.size w W → Calls Tryd.prog 93 #[.agg #[.int .i64 a0, .int .i64 a1, .slice A l.length c]] W fun e w' => ∃ g cap cur, e = .returned (.agg #[.int .i64 a0, .int .i64 a1, .slice (some ⟨g, 0, none⟩) l.length cap]) ∧ W.heap.size ≤ g ∧ w'.heap[g]? = some (.cells cur 5 (0, 0)) ∧ l.length ≤ cap ∧ cap ≤ maxLen ∧ cur.size = cap ∧ cur.toList.take l.length = l.map (Value.int .u8) ∧ Below W.heap.size W w' := fun W hW => (HOwn a0 a1 A c l W (Kd.C_below hr hW) hc h3).mono (by
    rintro e w' ⟨v2, rfl, hR, hB⟩
    have ho := Kd.own_of_R hR
    rcases ho.2 with ⟨_, hz⟩ | ⟨g, cap, cur, rfl, hbase, hgb, r1, r2, r3, r4⟩
    · omega
    · exact ⟨g, cap, cur, rfl, hbase, hgb, r1, r2, by simpa using r3, by simpa [encs] using r4, hB⟩)
  have HO' := Aside0.mk HO
  have HB' := Aside0.mk HBall
  clear HO HOwn HBall hr
  go_enter Tryd.func67, Tryd.ntmps67
  go_wp2_with (go_at_call 93; refine (HO'.out _ (((Below.refl _ w).alloc (Nat.le_refl _) _).alloc (by simp) _)).mono ?_; rintro e w1 ⟨g, cap, cur, rfl, hg1, hg2, hg3, hg4, hg5, hg6, hg7⟩; have hA := (hg7.block w.heap.size (by simp; omega)).trans ((Below.heap_alloc _ _ _ (by simp)).trans (World.alloc_heap_new w _)))
  have gl : g < w1.heap.size := (Array.getElem?_eq_some_iff.1 hg2).1
  have ge : w.heap.size + 1 + 1 ≤ g := by simpa using hg1
  have hRw : w1.heap[w.heap.size + 1]? = some (.cells #[.int .i64 0, .int .i64 0, .slice none 0 0] 48 (0, 0)) := by
    refine (hg7.block (w.heap.size + 1) (by simp)).trans ?_
    have := World.alloc_heap_new (w.alloc (.cells #[.int .i64 a0, .int .i64 a1, .slice A l.length c] 48)) (.cells #[.int .i64 0, .int .i64 0, .slice none 0 0] 48)
    rwa [World.size_alloc] at this
  have B1 : Below w.heap.size w w1 := (((Below.refl _ w).alloc (Nat.le_refl _) _).alloc (by simp) _).trans (hg7.mono (by simp; omega))
  have s1 := B1.size
  obtain ⟨O, hO⟩ : ∃ O, w1.heap.size = O := ⟨_, rfl⟩
  have hO3 := World.alloc_heap_new w1 (.cells #[.int .i64 a0, .int .i64 a1, .slice (some ⟨g, 0, none⟩) l.length cap] 48)
  have hg3' := (Below.heap_alloc w1 (.cells #[.int .i64 a0, .int .i64 a1, .slice (some ⟨g, 0, none⟩) l.length cap] 48) g gl).trans hg2
  have hR3 := (Below.heap_alloc w1 (.cells #[.int .i64 a0, .int .i64 a1, .slice (some ⟨g, 0, none⟩) l.length cap] 48) (w.heap.size + 1) (by omega)).trans hRw
  have B3 := B1.alloc s1 (.cells #[.int .i64 a0, .int .i64 a1, .slice (some ⟨g, 0, none⟩) l.length cap] 48)
  obtain ⟨w3, hw3⟩ : ∃ w3, w1.alloc (.cells #[.int .i64 a0, .int .i64 a1, .slice (some ⟨g, 0, none⟩) l.length cap] 48) = w3 := ⟨_, rfl⟩
  rw [hO] at hO3
  rw [hw3] at hO3 hg3' hR3 B3 ⊢
  rw [hO]
  clear hw3 hA hg7 hg1 hRw B1 hg2
  obtain ⟨R, hR⟩ : ∃ R, w.heap.size + 1 = R := ⟨_, rfl⟩
  rw [hR] at hR3 ⊢
  go_loopw [11] (fun s wr => ∃ (k : Nat) (cu : Array Value), k ≤ l.length ∧ s = .int .i64 (k : Int) ∧ wr.heap[g]? = some (.cells cu 5 (0, 0)) ∧ cu.size = cap ∧ cu.toList.take l.length = (wallL l k).map (Value.int .u8) ∧
      wr.heap[O]? = some (.cells #[.int .i64 a0, .int .i64 a1, .slice (some ⟨g, 0, none⟩) l.length cap] 48 (0, 0)) ∧ wr.heap[R]? = some (.cells #[.int .i64 0, .int .i64 0, .slice none 0 0] 48 (0, 0)) ∧ Below w.heap.size w wr)
    (fun s _ => l.length - (intOf s).toNat)
  case atStart => exact ⟨0, _, Nat.zero_le _, rfl, hg3', hg5, by simpa [wallL] using hg6, hO3, hR3, B3⟩
  case round =>
    obtain ⟨k, cu, hk, rfl, hcu, hcs, hct, hOW, hRW, hB⟩ := hrel
    by_cases hlt : k < l.length
    · have hcl : wr.cell? ⟨g, k, none⟩ = some (.int .u8 l[k]) := by
        refine cell_heap hcu ?_
        have h1 : (cu.toList.take l.length)[k]? = ((wallL l k).map (Value.int .u8))[k]? := by rw [hct]
        rw [List.getElem?_take_of_lt hlt, Array.getElem?_toList, List.getElem?_map, wallL_at hlt] at h1
        exact h1
      have c2 : wr.cell? ⟨O, 2, none⟩ = some (.slice (some ⟨g, 0, none⟩) l.length cap) := cell_heap (j := 2) hOW rfl
      have hfz : wr.frozen? ⟨g, k, none⟩ = false := by simp [World.frozen?, hcu]
      have A1 := Aside0.mk hct
      clear hct
      go_wp2_with (go_at_call 88; refine (HB'.out _ _).mono ?_; rintro e w' ⟨rfl, ⟨nd, rfl⟩⟩; have c2' : (wr.drewN nd).cell? ⟨O, 2, none⟩ = some (.slice (some ⟨g, 0, none⟩) l.length cap) := c2; have hcl' : (wr.drewN nd).cell? ⟨g, k, none⟩ = some (.int .u8 l[k]) := hcl; have hfz' : (wr.drewN nd).frozen? ⟨g, k, none⟩ = false := hfz)
      · have hb : ballI l[k] = true := by assumption
        have hgs := set_heap1 (j := k) (v := .int .u8 46) (show (wr.drewN nd).heap[g]? = _ from hcu)
        have hts := take_set (k := k) (v := 46) (by rw [wallL_len]; exact A1.out) (by rw [wallL_len]; exact hlt)
        have hcl46 : clrI l[k] = 46 := by unfold clrI; rw [if_pos hb]
        rw [wallL_len] at hts
        refine ⟨⟨k + 1, _, by omega, by simp, hgs, by simp [hcs], by rw [wallL_succ hlt, hcl46]; exact hts, (Below.heap_setCell _ ⟨g, k, none⟩ _ O (by show O ≠ g; omega)).trans hOW, (Below.heap_setCell _ ⟨g, k, none⟩ _ R (by show R ≠ g; omega)).trans hRW, ?_⟩, by simp [intOf]; omega⟩
        exact (pw_below_drewN hB nd).setCell (p := ⟨g, k, none⟩) (by show w.heap.size ≤ g; omega) _
      · have hb : ballI l[k] = false := by assumption
        exact ⟨⟨k + 1, cu, by omega, by simp, hcu, hcs, by rw [wallL_keep hlt hb]; exact A1.out, hOW, hRW, pw_below_drewN hB nd⟩, by simp [intOf]; omega⟩
    · have e : k = l.length := by omega
      subst e
      have c0 : wr.cell? ⟨O, 0, none⟩ = some (.int .i64 a0) := cell_heap (j := 0) hOW rfl
      have c1 : wr.cell? ⟨O, 1, none⟩ = some (.int .i64 a1) := cell_heap (j := 1) hOW rfl
      have c2 : wr.cell? ⟨O, 2, none⟩ = some (.slice (some ⟨g, 0, none⟩) l.length cap) := cell_heap (j := 2) hOW rfl
      have r0 : wr.cell? ⟨R, 0, none⟩ = some (.int .i64 0) := cell_heap (j := 0) hRW rfl
      have r1 : wr.cell? ⟨R, 1, none⟩ = some (.int .i64 0) := cell_heap (j := 1) hRW rfl
      have r2 : wr.cell? ⟨R, 2, none⟩ = some (.slice none 0 0) := cell_heap (j := 2) hRW rfl
      have f0 : wr.frozen? ⟨R, 0, none⟩ = false := by simp [World.frozen?, hRW]
      have f1 : wr.frozen? ⟨R, 1, none⟩ = false := by simp [World.frozen?, hRW]
      have f2 : wr.frozen? ⟨R, 2, none⟩ = false := by simp [World.frozen?, hRW]
      have A1 := Aside0.mk hct
      clear hct
      go_wp2
      have hgR : g ≠ R := by omega
      have hg2 := (Below.heap_setCell ((wr.setCell ⟨R, 0, none⟩ (.int .i64 a0)).setCell ⟨R, 1, none⟩ (.int .i64 a1)) ⟨R, 2, none⟩ (.slice (some ⟨g, 0, none⟩) l.length cap) g hgR).trans ((Below.heap_setCell (wr.setCell ⟨R, 0, none⟩ (.int .i64 a0)) ⟨R, 1, none⟩ (.int .i64 a1) g hgR).trans ((Below.heap_setCell wr ⟨R, 0, none⟩ (.int .i64 a0) g hgR).trans hcu))
      have hR2 := set_heap1 (j := 2) (v := .slice (some ⟨g, 0, none⟩) l.length cap) (set_heap1 (j := 1) (v := .int .i64 a1) (set_heap1 (j := 0) (v := .int .i64 a0) hRW))
      have hB2 := ((hB.setCell (p := ⟨R, 0, none⟩) (by show w.heap.size ≤ R; omega) (.int .i64 a0)).setCell (p := ⟨R, 1, none⟩) (by show w.heap.size ≤ R; omega) (.int .i64 a1)).setCell (p := ⟨R, 2, none⟩) (by show w.heap.size ≤ R; omega) (.slice (some ⟨g, 0, none⟩) l.length cap)
      obtain ⟨W3, hW3⟩ : ∃ W3, ((wr.setCell ⟨R, 0, none⟩ (.int .i64 a0)).setCell ⟨R, 1, none⟩ (.int .i64 a1)).setCell ⟨R, 2, none⟩ (.slice (some ⟨g, 0, none⟩) l.length cap) = W3 := ⟨_, rfl⟩
      rw [hW3] at hg2 hR2 hB2 ⊢
      have q0 : W3.cell? ⟨R, 0, none⟩ = some (.int .i64 a0) := cell_heap (j := 0) hR2 rfl
      have q1 : W3.cell? ⟨R, 1, none⟩ = some (.int .i64 a1) := cell_heap (j := 1) hR2 rfl
      have q2 : W3.cell? ⟨R, 2, none⟩ = some (.slice (some ⟨g, 0, none⟩) l.length cap) := cell_heap (j := 2) hR2 rfl
      clear hW3 c0 c1 c2 r0 r1 r2 f0 f1 f2
      refine bodyPost_ret (v := .agg #[.int .i64 a0, .int .i64 a1, .slice (some ⟨g, 0, none⟩) l.length cap]) (by simp [results, Tryd.f67, go_sem, q0, q1, q2]) rfl ?_
      have hlen : (l.map clrI).length = l.length := List.length_map _
      refine ⟨_, rfl, ?_, hB2⟩
      have hA1 := A1.out
      rw [wallL_all] at hA1
      have := Kd.R_of_own (enc := Value.int .u8) (h1 := fun _ => rfl) (e := 5) (w := W3) (base := w.heap.size) (ok := fun _ => True) (v := .slice (some ⟨g, 0, none⟩) l.length cap) (xs := l.map clrI)
        (by rw [hlen]; exact ⟨by simp [encs], .inr ⟨g, cap, cu, rfl, by omega, hg2, hg3, hg4, by simpa using hcs, by simpa [encs] using hA1⟩⟩) (fun _ _ => trivial)
      exact this

set_option maxRecDepth 100000 in
set_option maxHeartbeats 2000000 in
theorem emptied_calls (HOwn : ∀ (a0 a1 : Int) (A : Option Addr) (c : Nat) (l : List Int) (w : World), Kd.C (Kd.int .u8) w A l.length l → l.length ≤ c → l.length ≤ 1000000 →
      Calls Tryd.prog 91 #[.agg #[.int .i64 a0, .int .i64 a1, .slice A l.length c]] w fun e w' => ∃ v2_ : Value, e = .returned (.agg #[.int .i64 a0, .int .i64 a1, v2_]) ∧ Kd.R (Kd.int .u8) 5 w' w.heap.size (fun _ => True) v2_ l ∧ Below w.heap.size w w')
    (HBall : ∀ (c : Int) (w : World), Calls Tryd.prog 59 #[.int .u8 c] w fun e w' => e = .returned (.bool (ballI c)) ∧ Drawn0 w w')
    (a0 a1 : Int) (A : Option Addr) (c : Nat) (l : List Int) (w : World) (hr : Kd.C (Kd.int .u8) w A l.length l) (hc : l.length ≤ c) (h2 : 0 < l.length) (h3 : l.length ≤ 1000000) :
    Calls Tryd.prog 68 #[.agg #[.int .i64 a0, .int .i64 a1, .slice A l.length c]] w fun e w' => ∃ v2_ : Value, e = .returned (.agg #[.int .i64 a0, .int .i64 a1, v2_]) ∧ Kd.R (Kd.int .u8) 5 w' w.heap.size (fun _ => True) v2_ (l.map clrI) ∧ Below w.heap.size w w' := by
  have HO : ∀ (W : World), Below w.heap.size w W → Calls Tryd.prog 91 #[.agg #[.int .i64 a0, .int .i64 a1, .slice A l.length c]] W fun e w' => ∃ g cap cur, e = .returned (.agg #[.int .i64 a0, .int .i64 a1, .slice (some ⟨g, 0, none⟩) l.length cap]) ∧ W.heap.size ≤ g ∧ w'.heap[g]? = some (.cells cur 5 (0, 0)) ∧ l.length ≤ cap ∧ cap ≤ maxLen ∧ cur.size = cap ∧ cur.toList.take l.length = l.map (Value.int .u8) ∧ Below W.heap.size W w' := fun W hW => (HOwn a0 a1 A c l W (Kd.C_below hr hW) hc h3).mono (by
    rintro e w' ⟨v2, rfl, hR, hB⟩
    have ho := Kd.own_of_R hR
    rcases ho.2 with ⟨_, hz⟩ | ⟨g, cap, cur, rfl, hbase, hgb, r1, r2, r3, r4⟩
    · omega
    · exact ⟨g, cap, cur, rfl, hbase, hgb, r1, r2, by simpa using r3, by simpa [encs] using r4, hB⟩)
  have HO' := Aside0.mk HO
  have HB' := Aside0.mk HBall
  clear HO HOwn HBall hr
  go_enter Tryd.func68, Tryd.ntmps68
  go_wp2_with (go_at_call 91; refine (HO'.out _ (((Below.refl _ w).alloc (Nat.le_refl _) _).alloc (by simp) _)).mono ?_; rintro e w1 ⟨g, cap, cur, rfl, hg1, hg2, hg3, hg4, hg5, hg6, hg7⟩; have hA := (hg7.block w.heap.size (by simp; omega)).trans ((Below.heap_alloc _ _ _ (by simp)).trans (World.alloc_heap_new w _)))
  have gl : g < w1.heap.size := (Array.getElem?_eq_some_iff.1 hg2).1
  have ge : w.heap.size + 1 + 1 ≤ g := by simpa using hg1
  have hRw : w1.heap[w.heap.size + 1]? = some (.cells #[.int .i64 0, .int .i64 0, .slice none 0 0] 52 (0, 0)) := by
    refine (hg7.block (w.heap.size + 1) (by simp)).trans ?_
    have := World.alloc_heap_new (w.alloc (.cells #[.int .i64 a0, .int .i64 a1, .slice A l.length c] 52)) (.cells #[.int .i64 0, .int .i64 0, .slice none 0 0] 52)
    rwa [World.size_alloc] at this
  have B1 : Below w.heap.size w w1 := (((Below.refl _ w).alloc (Nat.le_refl _) _).alloc (by simp) _).trans (hg7.mono (by simp; omega))
  have s1 := B1.size
  obtain ⟨O, hO⟩ : ∃ O, w1.heap.size = O := ⟨_, rfl⟩
  have hO3 := World.alloc_heap_new w1 (.cells #[.int .i64 a0, .int .i64 a1, .slice (some ⟨g, 0, none⟩) l.length cap] 52)
  have hg3' := (Below.heap_alloc w1 (.cells #[.int .i64 a0, .int .i64 a1, .slice (some ⟨g, 0, none⟩) l.length cap] 52) g gl).trans hg2
  have hR3 := (Below.heap_alloc w1 (.cells #[.int .i64 a0, .int .i64 a1, .slice (some ⟨g, 0, none⟩) l.length cap] 52) (w.heap.size + 1) (by omega)).trans hRw
  have B3 := B1.alloc s1 (.cells #[.int .i64 a0, .int .i64 a1, .slice (some ⟨g, 0, none⟩) l.length cap] 52)
  obtain ⟨w3, hw3⟩ : ∃ w3, w1.alloc (.cells #[.int .i64 a0, .int .i64 a1, .slice (some ⟨g, 0, none⟩) l.length cap] 52) = w3 := ⟨_, rfl⟩
  rw [hO] at hO3
  rw [hw3] at hO3 hg3' hR3 B3 ⊢
  rw [hO]
  clear hw3 hA hg7 hg1 hRw B1 hg2
  obtain ⟨R, hR⟩ : ∃ R, w.heap.size + 1 = R := ⟨_, rfl⟩
  rw [hR] at hR3 ⊢
  go_loopw [11] (fun s wr => ∃ (k : Nat) (cu : Array Value), k ≤ l.length ∧ s = .int .i64 (k : Int) ∧ wr.heap[g]? = some (.cells cu 5 (0, 0)) ∧ cu.size = cap ∧ cu.toList.take l.length = (wallL l k).map (Value.int .u8) ∧
      wr.heap[O]? = some (.cells #[.int .i64 a0, .int .i64 a1, .slice (some ⟨g, 0, none⟩) l.length cap] 52 (0, 0)) ∧ wr.heap[R]? = some (.cells #[.int .i64 0, .int .i64 0, .slice none 0 0] 52 (0, 0)) ∧ Below w.heap.size w wr)
    (fun s _ => l.length - (intOf s).toNat)
  case atStart => exact ⟨0, _, Nat.zero_le _, rfl, hg3', hg5, by simpa [wallL] using hg6, hO3, hR3, B3⟩
  case round =>
    obtain ⟨k, cu, hk, rfl, hcu, hcs, hct, hOW, hRW, hB⟩ := hrel
    by_cases hlt : k < l.length
    · have hcl : wr.cell? ⟨g, k, none⟩ = some (.int .u8 l[k]) := by
        refine cell_heap hcu ?_
        have h1 : (cu.toList.take l.length)[k]? = ((wallL l k).map (Value.int .u8))[k]? := by rw [hct]
        rw [List.getElem?_take_of_lt hlt, Array.getElem?_toList, List.getElem?_map, wallL_at hlt] at h1
        exact h1
      have c2 : wr.cell? ⟨O, 2, none⟩ = some (.slice (some ⟨g, 0, none⟩) l.length cap) := cell_heap (j := 2) hOW rfl
      have hfz : wr.frozen? ⟨g, k, none⟩ = false := by simp [World.frozen?, hcu]
      have A1 := Aside0.mk hct
      clear hct
      go_wp2_with (go_at_call 59; refine (HB'.out _ _).mono ?_; rintro e w' ⟨rfl, ⟨nd, rfl⟩⟩; have c2' : (wr.drewN nd).cell? ⟨O, 2, none⟩ = some (.slice (some ⟨g, 0, none⟩) l.length cap) := c2; have hcl' : (wr.drewN nd).cell? ⟨g, k, none⟩ = some (.int .u8 l[k]) := hcl; have hfz' : (wr.drewN nd).frozen? ⟨g, k, none⟩ = false := hfz)
      · have hb : ballI l[k] = true := by assumption
        have hgs := set_heap1 (j := k) (v := .int .u8 46) (show (wr.drewN nd).heap[g]? = _ from hcu)
        have hts := take_set (k := k) (v := 46) (by rw [wallL_len]; exact A1.out) (by rw [wallL_len]; exact hlt)
        have hcl46 : clrI l[k] = 46 := by unfold clrI; rw [if_pos hb]
        rw [wallL_len] at hts
        refine ⟨⟨k + 1, _, by omega, by simp, hgs, by simp [hcs], by rw [wallL_succ hlt, hcl46]; exact hts, (Below.heap_setCell _ ⟨g, k, none⟩ _ O (by show O ≠ g; omega)).trans hOW, (Below.heap_setCell _ ⟨g, k, none⟩ _ R (by show R ≠ g; omega)).trans hRW, ?_⟩, by simp [intOf]; omega⟩
        exact (pw_below_drewN hB nd).setCell (p := ⟨g, k, none⟩) (by show w.heap.size ≤ g; omega) _
      · have hb : ballI l[k] = false := by assumption
        exact ⟨⟨k + 1, cu, by omega, by simp, hcu, hcs, by rw [wallL_keep hlt hb]; exact A1.out, hOW, hRW, pw_below_drewN hB nd⟩, by simp [intOf]; omega⟩
    · have e : k = l.length := by omega
      subst e
      have c0 : wr.cell? ⟨O, 0, none⟩ = some (.int .i64 a0) := cell_heap (j := 0) hOW rfl
      have c1 : wr.cell? ⟨O, 1, none⟩ = some (.int .i64 a1) := cell_heap (j := 1) hOW rfl
      have c2 : wr.cell? ⟨O, 2, none⟩ = some (.slice (some ⟨g, 0, none⟩) l.length cap) := cell_heap (j := 2) hOW rfl
      have r0 : wr.cell? ⟨R, 0, none⟩ = some (.int .i64 0) := cell_heap (j := 0) hRW rfl
      have r1 : wr.cell? ⟨R, 1, none⟩ = some (.int .i64 0) := cell_heap (j := 1) hRW rfl
      have r2 : wr.cell? ⟨R, 2, none⟩ = some (.slice none 0 0) := cell_heap (j := 2) hRW rfl
      have f0 : wr.frozen? ⟨R, 0, none⟩ = false := by simp [World.frozen?, hRW]
      have f1 : wr.frozen? ⟨R, 1, none⟩ = false := by simp [World.frozen?, hRW]
      have f2 : wr.frozen? ⟨R, 2, none⟩ = false := by simp [World.frozen?, hRW]
      have A1 := Aside0.mk hct
      clear hct
      go_wp2
      have hgR : g ≠ R := by omega
      have hg2 := (Below.heap_setCell ((wr.setCell ⟨R, 0, none⟩ (.int .i64 a0)).setCell ⟨R, 1, none⟩ (.int .i64 a1)) ⟨R, 2, none⟩ (.slice (some ⟨g, 0, none⟩) l.length cap) g hgR).trans ((Below.heap_setCell (wr.setCell ⟨R, 0, none⟩ (.int .i64 a0)) ⟨R, 1, none⟩ (.int .i64 a1) g hgR).trans ((Below.heap_setCell wr ⟨R, 0, none⟩ (.int .i64 a0) g hgR).trans hcu))
      have hR2 := set_heap1 (j := 2) (v := .slice (some ⟨g, 0, none⟩) l.length cap) (set_heap1 (j := 1) (v := .int .i64 a1) (set_heap1 (j := 0) (v := .int .i64 a0) hRW))
      have hB2 := ((hB.setCell (p := ⟨R, 0, none⟩) (by show w.heap.size ≤ R; omega) (.int .i64 a0)).setCell (p := ⟨R, 1, none⟩) (by show w.heap.size ≤ R; omega) (.int .i64 a1)).setCell (p := ⟨R, 2, none⟩) (by show w.heap.size ≤ R; omega) (.slice (some ⟨g, 0, none⟩) l.length cap)
      obtain ⟨W3, hW3⟩ : ∃ W3, ((wr.setCell ⟨R, 0, none⟩ (.int .i64 a0)).setCell ⟨R, 1, none⟩ (.int .i64 a1)).setCell ⟨R, 2, none⟩ (.slice (some ⟨g, 0, none⟩) l.length cap) = W3 := ⟨_, rfl⟩
      rw [hW3] at hg2 hR2 hB2 ⊢
      have q0 : W3.cell? ⟨R, 0, none⟩ = some (.int .i64 a0) := cell_heap (j := 0) hR2 rfl
      have q1 : W3.cell? ⟨R, 1, none⟩ = some (.int .i64 a1) := cell_heap (j := 1) hR2 rfl
      have q2 : W3.cell? ⟨R, 2, none⟩ = some (.slice (some ⟨g, 0, none⟩) l.length cap) := cell_heap (j := 2) hR2 rfl
      clear hW3 c0 c1 c2 r0 r1 r2 f0 f1 f2
      refine bodyPost_ret (v := .agg #[.int .i64 a0, .int .i64 a1, .slice (some ⟨g, 0, none⟩) l.length cap]) (by simp [results, Tryd.f68, go_sem, q0, q1, q2]) rfl ?_
      have hlen : (l.map clrI).length = l.length := List.length_map _
      refine ⟨_, rfl, ?_, hB2⟩
      have hA1 := A1.out
      rw [wallL_all] at hA1
      have := Kd.R_of_own (enc := Value.int .u8) (h1 := fun _ => rfl) (e := 5) (w := W3) (base := w.heap.size) (ok := fun _ => True) (v := .slice (some ⟨g, 0, none⟩) l.length cap) (xs := l.map clrI)
        (by rw [hlen]; exact ⟨by simp [encs], .inr ⟨g, cap, cu, rfl, by omega, hg2, hg3, hg4, by simpa using hcs, by simpa [encs] using hA1⟩⟩) (fun _ _ => trivial)
      exact this
end Go.Proofs.YtghmjllfbaanoaaDoorV
