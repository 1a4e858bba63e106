/- Contract of the program's MirrorBoard: rows and columns of a board exchanged. -/
import Derived.WalkKit
import Derived.Deep.QuietTactic
import Derived.BigQuiet
import Derived.BigRegion
import Derived.Deep.RegionWith
import Derived.Deep.CutBlock
import Derived.Deep.LoopGhost
import Derived.Lib.Walk
import Derived.Lib.Hide
import Derived.Lib.SliceRun
import Derived.IntWalk
import Derived.Laws.MakeOwn
import Derived.Outline
import Derived.Test.YtljnblcflngliaaProg
import Derived.Test.YtljnblcflngliaaWLast
import Derived.Test.YtljnblcflngliaaWMore
import Derived.Test.YtljnblcflngliaaVBoard
set_option linter.unusedVariables false
set_option linter.unusedSimpArgs false
namespace Go.Proofs.YtljnblcflngliaaV
open Go.RowKit Go.Proofs.YtljnblcflngliaaW.PrintWords Go.Proofs.YtljnblcflngliaaW.PrintLast
namespace MB
theorem at_ (k w h : Int) (h0 : 0 ≤ k) (h1 : k ≤ 100) (w0 : 1 ≤ w) (w1 : w ≤ 100) (g0 : 1 ≤ h) (g1 : h ≤ 100) : 0 ≤ k % w ∧ k % w < w ∧ 0 ≤ k / w ∧ k / w ≤ k ∧ 0 ≤ k % w * h ∧ k % w * h ≤ 10000 := by
  have a := Int.emod_nonneg k (show w ≠ 0 by omega)
  have b := Int.emod_lt_of_pos k (show 0 < w by omega)
  have c := Int.ediv_nonneg h0 (show 0 ≤ w by omega)
  have d := Int.ediv_le_self w h0
  have e := Int.mul_nonneg a (show 0 ≤ h by omega)
  have f : k % w * h ≤ 100 * 100 := Int.mul_le_mul (by omega) (by omega) (by omega) (by omega)
  exact ⟨a, b, c, d, e, by omega⟩
theorem cell_heap {W : World} {B j : Nat} {cur : Array Value} {t : TypeId} {fr : Nat × Nat} {v : Value} (h : W.heap[B]? = some (.cells cur t fr)) (hj : cur[j]? = some v) : W.cell? ⟨B, j, none⟩ = some v := by
  simp [World.cell?, h, hj]
theorem below_alloc' {w W : World} (h : Below w.heap.size w W) (o : Obj) : Below w.heap.size w (W.alloc o) := h.alloc h.size o
theorem below_drew' {w W : World} (h : Below w.heap.size w W) : Below w.heap.size w W.drew := pw_below_drewN h 1
theorem make_run (n : Nat) (hn : n ≤ 1000) : ∀ W : World, (Instr.makeSlice 22 (.int .i64 (n : Int)) (.int .i64 (n : Int))).run Try.prog W = .ok (.slice (some ⟨W.heap.size, 0, none⟩) n n) (W.alloc (.cells (Array.replicate n (Value.int .i64 0)) 3)) := by
  intro W
  obtain ⟨i0, hi, hz0, hz1, hz2⟩ := info_parts infoI
  have hr := run_makeSlice (P := Try.prog) W 22 3 i0 (.int .i64 0) Try.underlying22 hi hz0 .i64 .i64 (n : Int) (n : Int) (by omega) (Int.le_refl _) (by rw [hz1, Int.toNat_natCast]; omega) (by rw [hz2]; omega) (by omega)
  rw [hz1] at hr
  simp only [Int.toNat_natCast, Nat.mul_one] at hr
  rw [hr]
  congr 3
  unfold madeCells
  apply Array.ext
  · simp
  · intro j h1 h2
    simp [Value.cells, Nat.mod_one]
theorem keeps {w1 W w2 : World} {b o : Nat} {v : Value} (hW : Below w1.heap.size w1 W) (h : Below W.heap.size W w2) (hb : b < w1.heap.size) (hc : w1.cell? ⟨b, o, none⟩ = some v) : w2.cell? ⟨b, o, none⟩ = some v := (h.cell (p := ⟨b, o, none⟩) (Nat.lt_of_lt_of_le hb hW.size)).trans ((hW.cell (p := ⟨b, o, none⟩) hb).trans hc)
theorem keeps1 {w1 W w2 : World} (hW : Below w1.heap.size w1 W) (h : Below W.heap.size W w2) : Below w1.heap.size w1 w2 := hW.trans (h.mono hW.size)
theorem keeps2 {w1 W : World} {b o : Nat} {v : Value} (hW : Below w1.heap.size w1 W) (hb : b < w1.heap.size) (hc : w1.cell? ⟨b, o, none⟩ = some v) : W.cell? ⟨b, o, none⟩ = some v := (hW.cell (p := ⟨b, o, none⟩) hb).trans hc
theorem newAt1 {X w2 : World} {o : Obj} (h : Below (X.alloc o).heap.size (X.alloc o) w2) : w2.heap[X.heap.size]? = some o := (h.block X.heap.size (by simp)).trans (World.alloc_heap_new X _)
theorem newAt2 {X w2 : World} {o o' : Obj} (h : Below ((X.alloc o).alloc o').heap.size ((X.alloc o).alloc o') w2) : w2.heap[X.heap.size]? = some o := (h.block X.heap.size (by simp; omega)).trans ((Below.heap_alloc _ _ _ (by simp)).trans (World.alloc_heap_new X _))
theorem newAt3 {X w2 : World} {o o' : Obj} (h : Below ((X.alloc o).alloc o').heap.size ((X.alloc o).alloc o') w2) : w2.heap[X.heap.size + 1]? = some o' := by
  have := newAt1 h
  rwa [World.size_alloc] at this
theorem new1 (X : World) (o o' : Obj) : ((X.alloc o).alloc o').heap[X.heap.size + 1]? = some o' := by
  have := World.alloc_heap_new (X.alloc o) o'
  rwa [World.size_alloc] at this
theorem old1 {X : World} {p : Nat} {q : Obj} (o : Obj) (h : X.heap[p]? = some q) : (X.alloc o).heap[p]? = some q := (Below.heap_alloc _ _ _ (Array.getElem?_eq_some_iff.1 h).1).trans h
theorem set_heap {W : World} {B j : Nat} {cur : Array Value} {t : TypeId} {fr : Nat × Nat} {v : Value} (h : W.heap[B]? = some (.cells cur t fr)) : (W.setCell ⟨B, j, none⟩ v).heap[B]? = some (.cells (cur.setIfInBounds j v) t fr) := by
  obtain ⟨hlt, hk⟩ := Array.getElem?_eq_some_iff.1 h
  show (W.heap.modify B _)[B]? = _
  rw [Array.getElem?_eq_getElem (by rw [Array.size_modify]; exact hlt), Array.getElem_modify_self, hk]
  rfl
theorem add_at (b off j : Nat) : (⟨b, off, none⟩ : Addr).add j = ⟨b, off + j, none⟩ := by
  unfold Addr.add
  split
  · rename_i e0
    subst e0
    rfl
  · rfl
/-- Where a cell goes, which number a block gets, and the row behind so many rounds. -/
def mirAt (wd hd k : Nat) : Nat := k % wd * hd + k / wd
def mirV (wd hd : Nat) (x : Int) : Int := if x > 0 then (x - 1) % (wd : Int) * (hd : Int) + (x - 1) / (wd : Int) + 1 else x
def mirSt (wd hd : Nat) (l : List Int) : Nat → List Int
  | 0 => List.replicate l.length 0
  | i + 1 => (mirSt wd hd l i).set (mirAt wd hd i) (mirV wd hd (l.getD i 0))
theorem mirSt_len (wd hd : Nat) (l : List Int) : ∀ i, (mirSt wd hd l i).length = l.length
  | 0 => List.length_replicate
  | i + 1 => by rw [mirSt, List.length_set, mirSt_len wd hd l i]
theorem mirAt_lt {wd hd n i : Nat} (h0 : 1 ≤ wd) (hn : n = wd * hd) (hi : i < n) : mirAt wd hd i < n := by
  unfold mirAt
  have a : i % wd < wd := Nat.mod_lt _ (by omega)
  have b : i / wd < hd := (Nat.div_lt_iff_lt_mul (by omega)).2 (by rw [Nat.mul_comm]; omega)
  have c : (i % wd + 1) * hd ≤ wd * hd := Nat.mul_le_mul_right _ a
  rw [Nat.add_mul, Nat.one_mul] at c
  omega
theorem mirAt_int {wd hd i : Nat} : ((i : Int) % (wd : Int) * (hd : Int) + (i : Int) / (wd : Int)) = ((mirAt wd hd i : Nat) : Int) := by
  unfold mirAt
  simp
def Rl (w1 : World) (wd hd g bo : Nat) (l : List Int) (s : Value) (wr : World) : Prop := ∃ i : Nat, i ≤ l.length ∧ s = .int .i64 (i : Int) ∧ wr.heap[g]? = some (.cells ((mirSt wd hd l i).map (Value.int .i64)).toArray 3 (0, 0)) ∧
  wr.heap[bo]? = some (.cells #[.int .i64 hd, .slice (some ⟨g, 0, none⟩) l.length l.length] 26 (0, 0)) ∧ Below w1.heap.size w1 wr
theorem rl_step {w1 wr : World} {wd hd g bo : Nat} {l : List Int} {i : Nat} (hi : i < l.length) (lg : w1.heap.size ≤ g) (hgb : g ≠ bo) (hg : wr.heap[g]? = some (.cells ((mirSt wd hd l i).map (Value.int .i64)).toArray 3 (0, 0))) (hbo : wr.heap[bo]? = some (.cells #[.int .i64 hd, .slice (some ⟨g, 0, none⟩) l.length l.length] 26 (0, 0))) (hB : Below w1.heap.size w1 wr) :
    Rl w1 wd hd g bo l (.int .i64 ((i : Int) + 1)) (wr.setCell ⟨g, mirAt wd hd i, none⟩ (.int .i64 (mirV wd hd (l.getD i 0)))) := by
  refine ⟨i + 1, hi, by simp, ?_, (Below.heap_setCell _ ⟨g, _, none⟩ _ bo hgb.symm).trans hbo, hB.setCell (p := ⟨g, _, none⟩) lg _⟩
  refine (set_heap hg).trans ?_
  simp [mirSt, List.map_set]
theorem int_row {w : World} {A : Option Addr} {l : List Int} (hr : Kd.C (Kd.int .i64) w A l.length l) (hp : 0 < l.length) :
    ∃ b off, A = some ⟨b, off, none⟩ ∧ b < w.heap.size ∧ ∀ j, j < l.length → w.cell? ⟨b, off + j, none⟩ = some (.int .i64 (l.getD j 0)) := by
  obtain ⟨ad, hA, hcell⟩ := hr.2.2 hp
  subst hA
  obtain ⟨b, off, sp⟩ := ad
  have hcl : ∀ (j : Nat) x, l[j]? = some x → w.cell? ((⟨b, off, sp⟩ : Addr).add j) = some (.int .i64 x) := by
    intro j x hx
    obtain ⟨c, hl, hk, hcc⟩ := hcell j x hx
    have hk' : c = [Value.int .i64 x] := hk
    subst hk'
    have hz := hcc 0 (.int .i64 x) rfl
    have e1 : j * (Kd.int .i64).sz + 0 = j := by show j * 1 + 0 = j; omega
    rw [e1] at hz
    exact hz
  have h00 : w.cell? ⟨b, off, sp⟩ = some (.int .i64 l[0]) := hcl 0 _ (List.getElem?_eq_getElem hp)
  have hsp : sp = none := World.cell?_spot h00
  subst hsp
  refine ⟨b, off, rfl, World.block_lt_of_cell? w _ h00, fun j hj => ?_⟩
  have hz := hcl j _ (List.getElem?_eq_getElem hj)
  rw [add_at] at hz
  rw [hz, List.getD_eq_getElem?_getD, List.getElem?_eq_getElem hj]
  rfl
/-- The new board's box and row. -/
def Outs (w1 : World) (n hd : Nat) (s : Value) (wx : World) : Prop := ∃ g bo : Nat, s = .pointer (some ⟨bo, 0, none⟩) ∧ w1.heap.size ≤ g ∧ w1.heap.size ≤ bo ∧ g ≠ bo ∧ wx.heap[g]? = some (.cells (Array.replicate n (Value.int .i64 0)) 3 (0, 0)) ∧
  wx.heap[bo]? = some (.cells #[.int .i64 hd, .slice (some ⟨g, 0, none⟩) n n] 26 (0, 0)) ∧ Below w1.heap.size w1 wx
theorem fin {w1 V : World} {n hd g bo : Nat} (hb : V.heap[bo]? = some (.cells #[.int .i64 0, .slice none 0 0] 26 (0, 0))) (hg : V.heap[g]? = some (.cells (Array.replicate n (Value.int .i64 0)) 3 (0, 0))) (hne : g ≠ bo) (l1 : w1.heap.size ≤ g) (l2 : w1.heap.size ≤ bo) (hB : Below w1.heap.size w1 V) :
    Outs w1 n hd (.pointer (some ⟨bo, 0, none⟩)) ((V.setCell ⟨bo, 0, none⟩ (.int .i64 hd)).setCell ⟨bo, 1, none⟩ (.slice (some ⟨g, 0, none⟩) n n)) := by
  refine ⟨g, bo, rfl, l1, l2, hne, ?_, ?_, (hB.setCell (p := ⟨bo, 0, none⟩) l2 _).setCell (p := ⟨bo, 1, none⟩) l2 _⟩
  · exact (Below.heap_setCell _ ⟨bo, 1, none⟩ _ g hne).trans ((Below.heap_setCell _ ⟨bo, 0, none⟩ _ g hne).trans hg)
  · exact set_heap (set_heap hb)
theorem cells2 {W : World} {p : Nat} {x y : Value} (h : W.heap[p]? = some (.cells #[x, y] 26 (0, 0))) : (W.cell? ⟨p, 0, none⟩ = some x ∧ W.cell? ⟨p, 1, none⟩ = some y) ∧ W.frozen? ⟨p, 0, none⟩ = false ∧ W.frozen? ⟨p, 1, none⟩ = false := by
  refine ⟨⟨cell_heap (j := 0) h rfl, cell_heap (j := 1) h rfl⟩, ?_, ?_⟩ <;> simp [World.frozen?, h]
theorem cells2o {W : World} {p : Nat} {x y : Value} (h : W.heap[p]? = some (.cells #[x, y] 26 (0, 0))) : (∀ o : Obj, (W.alloc o).cell? ⟨p, 0, none⟩ = some x) ∧ (∀ o : Obj, (W.alloc o).cell? ⟨p, 1, none⟩ = some y) ∧ (∀ o : Obj, (W.alloc o).frozen? ⟨p, 0, none⟩ = false) ∧ (∀ o : Obj, (W.alloc o).frozen? ⟨p, 1, none⟩ = false) := by
  have hl := (Array.getElem?_eq_some_iff.1 h).1
  have k : ∀ o : Obj, (W.alloc o).heap[p]? = some (.cells #[x, y] 26 (0, 0)) := fun o => (Below.heap_alloc _ _ _ hl).trans h
  exact ⟨fun o => (cells2 (k o)).1.1, fun o => (cells2 (k o)).1.2, fun o => (cells2 (k o)).2.1, fun o => (cells2 (k o)).2.2⟩
theorem newO (X : World) : (∀ o : Obj, ((X.alloc (.cells #[.int .i64 0, .slice none 0 0] 26)).alloc o).cell? ⟨X.heap.size, 0, none⟩ = some (.int .i64 0)) ∧ (∀ o : Obj, ((X.alloc (.cells #[.int .i64 0, .slice none 0 0] 26)).alloc o).cell? ⟨X.heap.size, 1, none⟩ = some (.slice none 0 0)) ∧ (∀ o : Obj, ((X.alloc (.cells #[.int .i64 0, .slice none 0 0] 26)).alloc o).frozen? ⟨X.heap.size, 0, none⟩ = false) ∧ (∀ o : Obj, ((X.alloc (.cells #[.int .i64 0, .slice none 0 0] 26)).alloc o).frozen? ⟨X.heap.size, 1, none⟩ = false) :=
  cells2o (World.alloc_heap_new X (.cells #[.int .i64 0, .slice none 0 0] 26))
theorem newP (X : World) : (∀ o : Obj, ((X.alloc o).alloc (.cells #[.int .i64 0, .slice none 0 0] 26)).cell? ⟨X.heap.size + 1, 0, none⟩ = some (.int .i64 0)) ∧ (∀ o : Obj, ((X.alloc o).alloc (.cells #[.int .i64 0, .slice none 0 0] 26)).cell? ⟨X.heap.size + 1, 1, none⟩ = some (.slice none 0 0)) ∧ (∀ o : Obj, ((X.alloc o).alloc (.cells #[.int .i64 0, .slice none 0 0] 26)).frozen? ⟨X.heap.size + 1, 0, none⟩ = false) ∧ (∀ o : Obj, ((X.alloc o).alloc (.cells #[.int .i64 0, .slice none 0 0] 26)).frozen? ⟨X.heap.size + 1, 1, none⟩ = false) := by
  have h : ∀ o : Obj, ((X.alloc o).alloc (.cells #[.int .i64 0, .slice none 0 0] 26)).heap[X.heap.size + 1]? = some (.cells #[.int .i64 0, .slice none 0 0] 26 (0, 0)) := fun o => by
    have := World.alloc_heap_new (X.alloc o) (.cells #[.int .i64 0, .slice none 0 0] 26)
    rwa [World.size_alloc] at this
  exact ⟨fun o => (cells2 (h o)).1.1, fun o => (cells2 (h o)).1.2, fun o => (cells2 (h o)).2.1, fun o => (cells2 (h o)).2.2⟩
theorem fin2 {w1 W : World} {n hd g bo : Nat} (hb : W.heap[bo]? = some (.cells #[.int .i64 hd, .slice (some ⟨g, 0, none⟩) n n] 26 (0, 0))) (hg : W.heap[g]? = some (.cells (Array.replicate n (Value.int .i64 0)) 3 (0, 0))) (hne : g ≠ bo) (l1 : w1.heap.size ≤ g) (l2 : w1.heap.size ≤ bo) (hB : Below w1.heap.size w1 W) :
    Outs w1 n hd (.pointer (some ⟨bo, 0, none⟩)) W := ⟨g, bo, rfl, l1, l2, hne, hg, hb, hB⟩
theorem below_alloc2 {w W : World} {o : Obj} (h : Below w.heap.size w W) : Below w.heap.size w (W.alloc o) := h.alloc h.size o
end MB
set_option maxHeartbeats 2000000 in
theorem mir1_calls (Bb Bo : Nat) (k w h : Int) (W : World) (h0 : 0 ≤ k) (h1 : k ≤ 100) (w0 : 1 ≤ w) (w1 : w ≤ 100) (g0 : 1 ≤ h) (g1 : h ≤ 100) (c1 : W.cell? ⟨Bb, 0, none⟩ = some (.int .i64 w)) (c2 : W.cell? ⟨Bo, 0, none⟩ = some (.int .i64 h)) :
    Calls Try.prog 16 #[.int .i64 k, .pointer (some ⟨Bb, 0, none⟩), .pointer (some ⟨Bo, 0, none⟩)] W fun e w' => e = .returned (.int .i64 (k % w * h + k / w)) ∧ Drawn0 W w' := by
  obtain ⟨m1, m2, m3, m4, m5, m6⟩ := MB.at_ k w h h0 h1 w0 w1 g0 g1
  go_enter Try.func16, Try.ntmps16
  go_wp2
  go_quiet (fail)
  go_wp2
  go_ret
  exact ⟨rfl, ⟨_, rfl⟩⟩
set_option maxRecDepth 100000 in
set_option maxHeartbeats 4000000 in
theorem mirrorBoard_calls (wd hd : Nat) (A : Option Addr) (c : Nat) (l : List Int) (w : World) (w0 : 1 ≤ wd) (w1' : wd ≤ 3) (g0 : 1 ≤ hd) (g1 : hd ≤ 3) (hlen : l.length = wd * hd) (hv : ∀ x ∈ l, 0 ≤ x ∧ x < (l.length : Int)) (hR : Kd.C (Kd.int .i64) w A l.length l) (hc : l.length ≤ c)
    (HI : ∀ W, Below w.heap.size w W → Calls Try.prog 14 #[.agg #[.int .i64 wd, .slice A l.length c]] W fun e w' => e = .returned (.bool true) ∧ Below W.heap.size W w')
    (HH : ∀ W, Below w.heap.size w W → Calls Try.prog 15 #[.agg #[.int .i64 wd, .slice A l.length c]] W fun e w' => e = .returned (.int .i64 hd) ∧ Below W.heap.size W w') :
    Calls Try.prog 7 #[.agg #[.int .i64 wd, .slice A l.length c]] w fun e w' => ∃ v_ : Value, e = .returned (.tuple #[.agg #[.int .i64 hd, v_], .bool true]) ∧ Kd.R (Kd.int .i64) 3 w' w.heap.size (fun _ => True) v_ (MB.mirSt wd hd l l.length) ∧ Below w.heap.size w w' := by
  have HI' := Aside0.mk HI
  have HH' := Aside0.mk HH
  have HL := Aside0.mk (And.intro hlen (And.intro hv (And.intro hR hc)))
  clear HI HH hlen hv hR hc
  have hBa : Below w.heap.size w ((w.alloc (.cells #[.int .i64 wd, .slice A l.length c] 26)).alloc (.cells #[.int .i64 0, .slice none 0 0] 26)) := ((Below.refl _ w).alloc (Nat.le_refl _) _).alloc (by simp) _
  have BX := Aside0.mk hBa
  clear hBa
  go_enter Try.func7, Try.ntmps7
  go_wp2_with (go_at_call 14; refine (HI'.out _ BX.out).mono ?_; rintro e w1 ⟨rfl, hb1⟩)
  have B1 : Below w.heap.size w w1 := BX.out.trans (hb1.mono BX.out.size)
  have hO : w1.heap[w.heap.size]? = some (.cells #[.int .i64 wd, .slice A l.length c] 26 (0, 0)) := (hb1.block w.heap.size (by simp; omega)).trans ((Below.heap_alloc _ _ _ (by simp)).trans (World.alloc_heap_new w _))
  have hRes : w1.heap[w.heap.size + 1]? = some (.cells #[.int .i64 0, .slice none 0 0] 26 (0, 0)) := by
    refine (hb1.block (w.heap.size + 1) (by simp)).trans ?_
    have := World.alloc_heap_new (w.alloc (.cells #[.int .i64 wd, .slice A l.length c] 26)) (.cells #[.int .i64 0, .slice none 0 0] 26)
    rwa [World.size_alloc] at this
  have s1 : w.heap.size + 2 ≤ w1.heap.size := by have := hb1.size; simpa using this
  obtain ⟨b0, hb0⟩ : ∃ b0, w.heap.size = b0 := ⟨_, rfl⟩
  rw [hb0] at hO hRes ⊢
  have c0 : w1.cell? ⟨b0, 0, none⟩ = some (.int .i64 wd) := MB.cell_heap (j := 0) hO rfl
  have c1 : w1.cell? ⟨b0, 1, none⟩ = some (.slice A l.length c) := MB.cell_heap (j := 1) hO rfl
  have hmk := MB.make_run l.length (by have := HL.out.1; have : wd * hd ≤ 3 * 3 := Nat.mul_le_mul w1' g1; omega)
  have hb0l : b0 < w1.heap.size := by omega
  have BT : Aside0 (∀ W, Below w1.heap.size w1 W → Below w.heap.size w W) := Aside0.mk (fun W h => B1.trans (h.mono B1.size))
  have c0a : ∀ o : Obj, (w1.alloc o).cell? ⟨b0, 0, none⟩ = some (.int .i64 wd) := fun o => Lib.cell?_alloc_some _ c0
  have c1a : ∀ o : Obj, (w1.alloc o).cell? ⟨b0, 1, none⟩ = some (.slice A l.length c) := fun o => Lib.cell?_alloc_some _ c1
  have c0b : ∀ o o' : Obj, ((w1.alloc o).alloc o').cell? ⟨b0, 0, none⟩ = some (.int .i64 wd) := fun o o' => Lib.cell?_alloc_some _ (c0a o)
  have hN1 := MB.newO w1
  have hN4 := MB.newP w1
  go_cut [4] from 12 to 18 (fun s4 wx => MB.Outs w1 l.length hd s4 wx)
  case first =>
    go_region_with ((go_at_call 15; refine (HH'.out _ (BT.out _ (by repeat (first | exact Below.refl _ _ | apply MB.below_alloc' | apply MB.below_drew')))).mono ?_; rintro e w2 ⟨rfl, hb2⟩; have hW2 := MB.keeps1 (w1 := w1) (by repeat (first | exact Below.refl _ _ | apply MB.below_alloc' | apply MB.below_drew')) hb2; have c02 := MB.keeps2 hW2 hb0l c0; have c12 := MB.keeps2 hW2 hb0l c1; have c03 : ∀ o : Obj, (w2.alloc o).cell? ⟨b0, 0, none⟩ = some (.int .i64 wd) := (fun o => Lib.cell?_alloc_some _ c02); have c13 : ∀ o : Obj, (w2.alloc o).cell? ⟨b0, 1, none⟩ = some (.slice A l.length c) := (fun o => Lib.cell?_alloc_some _ c12); have hN2 := MB.newO w2; have hN3 := MB.newP w2; (try (have hN : w2.heap[w1.heap.size]? = some (.cells #[.int .i64 0, .slice none 0 0] 26 (0, 0)) := (by first | exact MB.newAt1 (X := w1.drew) hb2 | exact MB.newAt2 (X := w1.drew) hb2); have hNc := MB.cells2 hN; have hNo := MB.cells2o hN)); (try (have hN : w2.heap[w1.heap.size + 1]? = some (.cells #[.int .i64 0, .slice none 0 0] 26 (0, 0)) := MB.newAt3 (X := w1.drew) hb2; have hNc := MB.cells2 hN; have hNo := MB.cells2o hN)); (try (have hZ : w2.heap[w1.heap.size]? = some (.cells (Array.replicate l.length (Value.int .i64 0)) 3 (0, 0)) := (by first | exact MB.newAt1 (X := w1.drew) hb2 | exact MB.newAt2 (X := w1.drew) hb2))); (try (have hZ : w2.heap[w1.heap.size + 1]? = some (.cells (Array.replicate l.length (Value.int .i64 0)) 3 (0, 0)) := MB.newAt3 (X := w1.drew) hb2))))
    all_goals (have h12 := hW2.size)
    all_goals (go_wp2_with fail)
    all_goals go_meet
    all_goals (first
      | refine MB.fin ?_ ?_ ?_ ?_ ?_ ?_
      | refine MB.fin2 (World.alloc_heap_new _ _) ?_ ?_ ?_ ?_ ?_
      | refine MB.fin2 (MB.new1 _ _ _) ?_ ?_ ?_ ?_ ?_
      | refine MB.fin2 (MB.old1 _ (World.alloc_heap_new _ _)) ?_ ?_ ?_ ?_ ?_)
    all_goals (first
      | omega
      | (simp; done)
      | exact hN
      | exact hZ
      | exact hW2
      | exact World.alloc_heap_new _ _
      | exact MB.new1 _ _ _
      | exact MB.old1 _ hN
      | exact MB.old1 _ hZ
      | exact MB.old1 _ (World.alloc_heap_new _ _)
      | exact MB.below_alloc2 hW2
      | exact MB.below_alloc2 (MB.below_alloc2 hW2)
      | (have := (Array.getElem?_eq_some_iff.1 hZ).1; omega)
      | (have := (Array.getElem?_eq_some_iff.1 hN).1; omega))
  case rest =>
    obtain ⟨g, bo, rfl, lg, lb, hgb, hg, hbo, hB2⟩ := hcut
    have HB := Aside0.mk (And.intro lg (And.intro lb (And.intro hgb (And.intro hg (And.intro hbo (hB2))))))
    clear lg lb hgb hg hbo hB2 hmk c0a c1a c0b hN1 hN4
    have d1 := MB.keeps2 HB.out.2.2.2.2.2 hb0l c1
    go_wp2
    go_loopw [23] (fun s wr => MB.Rl w1 wd hd g bo l s wr) (fun s _ => l.length - (intOf s).toNat)
    case atStart => exact ⟨0, Nat.zero_le _, rfl, HB.out.2.2.2.1.trans (by simp [MB.mirSt]), HB.out.2.2.2.2.1, HB.out.2.2.2.2.2⟩
    case round =>
      obtain ⟨i, hi, rfl, hg, hbo, hB2⟩ := hrel
      have hcb := MB.cells2 hbo
      by_cases hlt : i < l.length
      · obtain ⟨hlen, hv, hR, hc⟩ := HL.out
        obtain ⟨b, off, rfl, hbl, hcl⟩ := MB.int_row hR (by omega)
        have hx := hv (l.getD i 0) (by rw [List.getD_eq_getElem?_getD, List.getElem?_eq_getElem hlt]; exact List.getElem_mem hlt)
        have hll : l.length ≤ 9 := by have : wd * hd ≤ 3 * 3 := Nat.mul_le_mul w1' g1; omega
        have hm := MB.mirAt_lt w0 hlen hlt
        have hmi := MB.mirAt_int (wd := wd) (hd := hd) (i := i)
        have hci : wr.cell? ⟨b, off + i, none⟩ = some (.int .i64 (l.getD i 0)) := (hB2.cell (p := ⟨b, off + i, none⟩) (Nat.lt_of_lt_of_le hbl B1.size)).trans ((B1.cell (p := ⟨b, off + i, none⟩) hbl).trans (hcl i hlt))
        obtain ⟨vo, hcg⟩ : ∃ vo, wr.cell? ⟨g, MB.mirAt wd hd i, none⟩ = some vo := ⟨_, MB.cell_heap hg (Array.getElem?_eq_getElem (by simp [MB.mirSt_len]; exact hm))⟩
        have hfg : wr.frozen? ⟨g, MB.mirAt wd hd i, none⟩ = false := by simp [World.frozen?, hg]
        have c0r := MB.keeps2 hB2 hb0l c0
        have hst : ∀ k : Nat, MB.Rl w1 wd hd g bo l (.int .i64 ((i : Int) + 1)) ((wr.drewN k).setCell ⟨g, MB.mirAt wd hd i, none⟩ (.int .i64 (MB.mirV wd hd (l.getD i 0)))) := fun k => MB.rl_step (wr := wr.drewN k) hlt HB.out.1 HB.out.2.2.1 hg hbo (pw_below_drewN hB2 k)
        obtain ⟨x, hxe⟩ : ∃ x, l.getD i 0 = x := ⟨_, rfl⟩
        obtain ⟨m, hme⟩ : ∃ m, MB.mirAt wd hd i = m := ⟨_, rfl⟩
        rw [hxe] at hx hci hst
        rw [hme] at hm hmi hcg hfg hst
        obtain ⟨hx0, hx1⟩ := hx
        have HS := Aside0.mk (And.intro hst (And.intro hmi (And.intro hlen (And.intro hv (And.intro hR (And.intro hc hcl))))))
        clear hst hmi hlen hv hR hc hcl hg hbo hB2 hxe hme
        have hmm : ∀ k : Int, 0 ≤ k → k ≤ 100 → ∀ W : World, W.cell? ⟨b0, 0, none⟩ = some (.int .i64 wd) → W.cell? ⟨bo, 0, none⟩ = some (.int .i64 hd) → Calls Try.prog 16 #[.int .i64 k, .pointer (some ⟨b0, 0, none⟩), .pointer (some ⟨bo, 0, none⟩)] W fun e w' => e = .returned (.int .i64 (k % wd * hd + k / wd)) ∧ Drawn0 W w' := fun k a1 a2 W a3 a4 => mir1_calls b0 bo k wd hd W a1 a2 (by omega) (by omega) (by omega) (by omega) a3 a4
        have HM := Aside0.mk hmm
        clear hmm
        have HMi : Aside0 (∀ W : World, W.cell? ⟨b0, 0, none⟩ = some (.int .i64 wd) → W.cell? ⟨bo, 0, none⟩ = some (.int .i64 hd) → Calls Try.prog 16 #[.int .i64 (i : Int), .pointer (some ⟨b0, 0, none⟩), .pointer (some ⟨bo, 0, none⟩)] W fun e w' => e = .returned (.int .i64 (m : Int)) ∧ Drawn0 W w') := Aside0.mk (fun W a3 a4 => by have := HM.out (i : Int) (by omega) (by omega) W a3 a4; rwa [HS.out.2.1] at this)
        have hmI : (m : Int) < (l.length : Int) := by omega
        have hm0 : (0 : Int) ≤ (m : Int) := by omega
        obtain ⟨hc0, hc1⟩ := hcb.1
        clear hcb
        by_cases hpos : 0 < x
        · obtain ⟨m1, m2, m3, m4, m5, m6⟩ := MB.at_ (x - 1) (wd : Int) (hd : Int) (by omega) (by omega) (by omega) (by omega) (by omega) (by omega)
          obtain ⟨p, hp⟩ : ∃ p, (x - 1) % (wd : Int) * (hd : Int) = p := ⟨_, rfl⟩
          obtain ⟨q, hq⟩ : ∃ q, (x - 1) / (wd : Int) = q := ⟨_, rfl⟩
          have hV : Aside0 (MB.mirV wd hd x = p + q + 1) := Aside0.mk (by unfold MB.mirV; rw [if_pos hpos, hp, hq])
          have HM1 : Aside0 (∀ W : World, W.cell? ⟨b0, 0, none⟩ = some (.int .i64 wd) → W.cell? ⟨bo, 0, none⟩ = some (.int .i64 hd) → Calls Try.prog 16 #[.int .i64 (x - 1), .pointer (some ⟨b0, 0, none⟩), .pointer (some ⟨bo, 0, none⟩)] W fun e w' => e = .returned (.int .i64 (p + q)) ∧ Drawn0 W w') := Aside0.mk (fun W a3 a4 => by have := HM.out (x - 1) (by omega) (by omega) W a3 a4; rwa [hp, hq] at this)
          rw [hp] at m5 m6
          rw [hq] at m3 m4
          clear hp hq m1 m2
          go_wp2_with (go_at_call 16; refine (HM1.out _ (by assumption) (by assumption)).mono ?_; rintro e w2 ⟨rfl, ⟨nd, rfl⟩⟩)
          go_region_with (go_at_call 16; refine (HMi.out _ (by first | assumption | exact c0r) (by first | assumption | exact hc0)).mono ?_; rintro e w3 ⟨rfl, ⟨nd2, rfl⟩⟩)
          all_goals (go_wp2)
          all_goals (go_roundw)
          case rel => exact (by have := HS.out.1 (nd + 1 + nd2); rw [hV.out] at this; exact this)
          case measure => simp [intOf]; omega
          case rel => exact (by have := HS.out.1 (nd + 1 + nd2); rw [hV.out] at this; exact this)
          case measure => simp [intOf]; omega
        · have hV : Aside0 (MB.mirV wd hd x = x) := Aside0.mk (by unfold MB.mirV; rw [if_neg hpos])
          go_wp2
          go_region_with (go_at_call 16; refine (HMi.out _ (by first | assumption | exact c0r) (by first | assumption | exact hc0)).mono ?_; rintro e w3 ⟨rfl, ⟨nd2, rfl⟩⟩)
          all_goals (go_wp2)
          all_goals (go_roundw)
          case rel => exact (by have := HS.out.1 (1 + nd2); rw [hV.out] at this; exact this)
          case measure => simp [intOf]; omega
          case rel => exact (by have := HS.out.1 (1 + nd2); rw [hV.out] at this; exact this)
          case measure => simp [intOf]; omega
      · have hre := MB.keeps2 hB2 (show b0 + 1 < w1.heap.size by omega) (MB.cells2 hRes).1.1
        have hre1 := MB.keeps2 hB2 (show b0 + 1 < w1.heap.size by omega) (MB.cells2 hRes).1.2
        have hrh : wr.heap[b0 + 1]? = some (.cells #[.int .i64 0, .slice none 0 0] 26 (0, 0)) := (hB2.block (b0 + 1) (by omega)).trans hRes
        have hrf := (MB.cells2 hrh).2
        have hil : i = l.length := by omega
        have HF := Aside0.mk (And.intro hg (And.intro hB2 (And.intro hrh hil)))
        clear hg hB2 hrh hil hi
        go_wp2
        have hfh := MB.set_heap (j := 1) (v := .slice (some ⟨g, 0, none⟩) l.length l.length) (MB.set_heap (j := 0) (v := .int .i64 hd) HF.out.2.2.1)
        have hfc := (MB.cells2 hfh).1
        refine bodyPost_ret (v := .tuple #[.agg #[.int .i64 hd, .slice (some ⟨g, 0, none⟩) l.length l.length], .bool true]) (by simp [results, Try.results7, go_sem, hfc.1, hfc.2]) rfl ⟨_, rfl, ?_, ?_⟩
        · obtain ⟨hg, hB2, hrh, hil⟩ := HF.out
          subst hil
          have lg := HB.out.1
          have hll : l.length ≤ 9 := by have := HL.out.1; have : wd * hd ≤ 3 * 3 := Nat.mul_le_mul w1' g1; omega
          have hgw : w.heap.size ≤ g := by omega
          have hg2 : ((wr.setCell ⟨b0 + 1, 0, none⟩ (.int .i64 hd)).setCell ⟨b0 + 1, 1, none⟩ (.slice (some ⟨g, 0, none⟩) l.length l.length)).heap[g]? = _ := (Below.heap_setCell _ ⟨b0 + 1, 1, none⟩ _ g (show g ≠ b0 + 1 by omega)).trans ((Below.heap_setCell _ ⟨b0 + 1, 0, none⟩ _ g (show g ≠ b0 + 1 by omega)).trans hg)
          refine Kd.R_of_own ?_ (fun _ _ => trivial)
          rw [MB.mirSt_len]
          refine ⟨by simp [encs, MB.mirSt_len], .inr ⟨g, l.length, _, rfl, hgw, hg2, Nat.le_refl _, by unfold maxLen; omega, by simp [MB.mirSt_len], by simp [encs]; exact List.take_of_length_le (by simp [MB.mirSt_len])⟩⟩
        · exact ((B1.trans (HF.out.2.1.mono B1.size)).setCell (p := ⟨b0 + 1, 0, none⟩) (show w.heap.size ≤ b0 + 1 by omega) _).setCell (p := ⟨b0 + 1, 1, none⟩) (show w.heap.size ≤ b0 + 1 by omega) _
set_option maxRecDepth 100000 in
set_option maxHeartbeats 2000000 in
theorem mirrorBoard_no (a : Int) (A : Option Addr) (n c : Nat) (w : World)
    (HI : ∀ W, Below w.heap.size w W → Calls Try.prog 14 #[.agg #[.int .i64 a, .slice A n c]] W fun e w' => e = .returned (.bool false) ∧ Below W.heap.size W w') :
    Calls Try.prog 7 #[.agg #[.int .i64 a, .slice A n c]] w fun e w' => ∃ v_ : Value, e = .returned (.tuple #[.agg #[.int .i64 0, v_], .bool false]) ∧ Kd.R (Kd.int .i64) 3 w' w.heap.size (fun _ => True) v_ [] ∧ Below w.heap.size w w' := by
  have HI' := Aside0.mk HI
  clear HI
  have hBa : Below w.heap.size w ((w.alloc (.cells #[.int .i64 a, .slice A n c] 26)).alloc (.cells #[.int .i64 0, .slice none 0 0] 26)) := ((Below.refl _ w).alloc (Nat.le_refl _) _).alloc (by simp) _
  have BX := Aside0.mk hBa
  clear hBa
  go_enter Try.func7, Try.ntmps7
  go_upto_region 2 with (go_at_call 14; refine (HI'.out _ BX.out).mono ?_; rintro e w1 ⟨rfl, hb1⟩)
  have hRes : w1.heap[w.heap.size + 1]? = some (.cells #[.int .i64 0, .slice none 0 0] 26 (0, 0)) := by
    refine (hb1.block (w.heap.size + 1) (by simp)).trans ?_
    have := World.alloc_heap_new (w.alloc (.cells #[.int .i64 a, .slice A n c] 26)) (.cells #[.int .i64 0, .slice none 0 0] 26)
    rwa [World.size_alloc] at this
  have B1 : Below w.heap.size w w1 := BX.out.trans (hb1.mono BX.out.size)
  have hRc := MB.cells2 hRes
  have HR := Aside0.mk hRes
  clear hb1 hRes
  go_wp2
  have hfh := MB.set_heap (j := 1) (v := .slice none 0 0) (MB.set_heap (j := 0) (v := .int .i64 0) HR.out)
  have hfc := (MB.cells2 hfh).1
  refine bodyPost_ret (v := .tuple #[.agg #[.int .i64 0, .slice none 0 0], .bool false]) (by simp [results, Try.results7, go_sem, hfc.1, hfc.2]) rfl ⟨_, rfl, Kd.R_nil _ _ _ _ _, ?_⟩
  exact (B1.setCell (p := ⟨w.heap.size + 1, 0, none⟩) (show w.heap.size ≤ w.heap.size + 1 by omega) _).setCell (p := ⟨w.heap.size + 1, 1, none⟩) (show w.heap.size ≤ w.heap.size + 1 by omega) _
/-- What a board is. -/
theorem boardB_facts {a : Int} {l : List Int} (h : isBoardB a l = true) : ∃ wd hd : Nat, a = (wd : Int) ∧ 1 ≤ wd ∧ wd ≤ 3 ∧ 1 ≤ hd ∧ hd ≤ 3 ∧ l.length = wd * hd ∧ l.length / wd = hd ∧ ∀ x ∈ l, 0 ≤ x ∧ x < (l.length : Int) := by
  unfold isBoardB inB at h
  simp only [Bool.and_eq_true, decide_eq_true_eq] at h
  obtain ⟨⟨h1, h2⟩, h3, ⟨h4, h5⟩, h6⟩ := h
  have hv : ∀ x ∈ l, 0 ≤ x ∧ x < (l.length : Int) := by
    intro x hx
    have hp : (sortI l).Perm l := List.mergeSort_perm l _
    have hx2 := hp.symm.subset hx
    rw [h6] at hx2
    obtain ⟨k, hk, rfl⟩ := List.mem_map.1 hx2
    have := List.mem_range.1 hk
    omega
  obtain ⟨wd, rfl⟩ := Int.eq_ofNat_of_zero_le (show 0 ≤ a by omega)
  have h3' : l.length % wd = 0 := by
    have : ((l.length % wd : Nat) : Int) = 0 := by rw [Int.natCast_emod]; exact h3
    omega
  have h4' : 1 ≤ l.length / wd ∧ l.length / wd ≤ 3 := by
    have : ((l.length / wd : Nat) : Int) = (l.length : Int) / (wd : Int) := Int.natCast_ediv _ _
    omega
  have hd := Nat.div_add_mod l.length wd
  exact ⟨wd, l.length / wd, rfl, by omega, by omega, h4'.1, h4'.2, by omega, rfl, hv⟩
def mirF (a : Int) (l : List Int) : Int × List Int × Bool := if isBoardB a l = true then (((l.length / a.toNat : Nat) : Int), MB.mirSt a.toNat (l.length / a.toNat) l l.length, true) else (0, [], false)
theorem mirF_calls (a : Int) (A : Option Addr) (c : Nat) (l : List Int) (w : World) (hR : Kd.C (Kd.int .i64) w A l.length l) (hc : l.length ≤ c)
    (HI : ∀ W, Below w.heap.size w W → Calls Try.prog 14 #[.agg #[.int .i64 a, .slice A l.length c]] W fun e w' => e = .returned (.bool (isBoardB a l)) ∧ Below W.heap.size W w')
    (HH : ∀ W r, ¬ a = 0 → r = wrap64 ((l.length : Int) / a) → Below w.heap.size w W → Calls Try.prog 15 #[.agg #[.int .i64 a, .slice A l.length c]] W fun e w' => e = .returned (.int .i64 r) ∧ Below W.heap.size W w') :
    Calls Try.prog 7 #[.agg #[.int .i64 a, .slice A l.length c]] w fun e w' => ∃ v_ : Value, e = .returned (.tuple #[.agg #[.int .i64 (mirF a l).1, v_], .bool (mirF a l).2.2]) ∧ Kd.R (Kd.int .i64) 3 w' w.heap.size (fun _ => True) v_ (mirF a l).2.1 ∧ Below w.heap.size w w' := by
  unfold mirF
  cases hb : isBoardB a l with
  | false =>
    rw [hb] at HI
    rw [if_neg (by decide)]
    exact mirrorBoard_no a A l.length c w HI
  | true =>
    rw [hb] at HI
    rw [if_pos rfl]
    obtain ⟨wd, hd, rfl, w0, w1, g0, g1, hlen, hdv, hv⟩ := boardB_facts hb
    simp only [Int.toNat_natCast, hdv]
    refine mirrorBoard_calls wd hd A c l w w0 w1 g0 g1 hlen hv hR hc HI (fun W hW => HH W (hd : Int) (by omega) ?_ hW)
    rw [← Int.natCast_ediv, hdv]
    unfold wrap64
    omega
end Go.Proofs.YtljnblcflngliaaV
