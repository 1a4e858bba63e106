/- The method look of the reference's search over trays: its state, its contract. -/
import Derived.WalkKit
import Derived.Deep.LoopGhost
import Derived.Deep.CutBlock
import Derived.Lib.MinMaxS
import Derived.Test.YtoojemnocncafaaVLookR
import Derived.Test.YtoojemnocncafaaVFill
set_option linter.unusedVariables false
set_option linter.unusedSimpArgs false
namespace Go.Proofs.YtoojemnocncafaaV
open Go.RowKit Go.Proofs.YtoojemnocncafaaW.PrintWords Go.Proofs.YtoojemnocncafaaW.PrintLast
namespace LK
open RB
open FL (u8s lt_of cells_of)
structure SS (gs : Nat) (x y : Int) (w0 W : World) (Vc Vf : Value) (l : List Int) (L : List ByteArray) : Prop where
  cs : W.heap[gs]? = some (.cells #[.int .i64 x, .int .i64 y, Vc, Vf] 34 (0, 0))
  oc : W.ownsRow w0.heap.size 5 1 Vc l.length (u8s l)
  of : W.ownsRow w0.heap.size 9 1 Vf L.length (L.map Value.string)
  below : Below w0.heap.size w0 W
  lo : w0.heap.size ≤ gs
section
variable {gs : Nat} {x y : Int} {w0 W W' : World} {Vc Vf : Value} {l : List Int} {L : List ByteArray}
theorem SS.to (h : SS gs x y w0 W Vc Vf l L) (hB : Below W.heap.size W W') : SS gs x y w0 W' Vc Vf l L :=
  ⟨(hB.block _ (lt_of h.cs)).trans h.cs, own_move h.oc (fun k hk => hB.block k (own_lt h.oc k hk)), own_move h.of (fun k hk => hB.block k (own_lt h.of k hk)), h.below.trans (hB.mono h.below.size), h.lo⟩
end
theorem SS.push {gs : Nat} {x y : Int} {w0 W W1 W' : World} {Vc Vf V2 : Value} {l : List Int} {L : List ByteArray} {t : ByteArray} (h : SS gs x y w0 W Vc Vf l L) (ho : W1.ownsRow w0.heap.size 9 1 V2 (L.length + 1) (L.map Value.string ++ [.string t])) (hg : W.grownBy W1 Vf.ownBlock) (hW' : W' = W1.setCell ⟨gs, 3, none⟩ V2) :
    SS gs x y w0 W' Vc V2 l (L ++ [t]) := by
  subst hW'
  have hgs : some gs ≠ Vf.ownBlock := FL.ne_own h.of h.cs (by decide)
  have hcs1 : W1.heap[gs]? = some (.cells #[.int .i64 x, .int .i64 y, Vc, Vf] 34 (0, 0)) := (hg.block _ (lt_of h.cs) hgs).trans h.cs
  refine ⟨blk_put hcs1 3 V2 rfl, own_move h.oc (fun k hk => ?_), ?_, ?_, h.lo⟩
  · have h1 : k ≠ gs := ne_row h.oc h.cs (by decide) k hk
    exact (Below.heap_setCell W1 ⟨gs, 3, none⟩ V2 k h1).trans (hg.block k (own_lt h.oc k hk) (fun e => by
      obtain ⟨c1, hc1⟩ := own_typed h.oc k hk
      exact FL.ne_own h.of hc1 (by decide) e))
  · rw [List.length_append, List.length_singleton, List.map_append, List.map_singleton]
    exact own_move ho (fun k hk => Below.heap_setCell W1 ⟨gs, 3, none⟩ V2 k (ne_row ho hcs1 (by decide) k hk))
  · refine (h.below.trans ⟨hg.os, hg.tape, hg.output, hg.size, fun k hk => hg.block k (Nat.lt_of_lt_of_le hk h.below.size) (fun e => ?_)⟩).setCell (p := ⟨gs, 3, none⟩) h.lo V2
    have := own_base h.of k e.symm
    omega
/-- A tray's cells, each put where a move puts it; i of them. -/
def scat (n : Nat) (tp : Nat → Nat) (l : List Int) (i : Nat) : List Int := (List.range i).foldl (fun o j => o.set (tp j) (l.getD j 0)) (List.replicate n 46)
theorem scat_len (n : Nat) (tp : Nat → Nat) (l : List Int) : ∀ i, (scat n tp l i).length = n
  | 0 => by simp [scat]
  | i + 1 => by
    unfold scat
    rw [List.range_succ, List.foldl_append]
    show (List.set _ _ _).length = n
    rw [List.length_set]
    exact scat_len n tp l i
theorem scat_succ (n : Nat) (tp : Nat → Nat) (l : List Int) (i : Nat) : scat n tp l (i + 1) = (scat n tp l i).set (tp i) (l.getD i 0) := by
  unfold scat
  rw [List.range_succ, List.foldl_append]
  rfl
def lessB (u t : ByteArray) : Bool := Op.bytesLess u.toList t.toList
def stepS (n : Nat) (tx : List Int → ByteArray) (fit : Nat → Bool) (tp : Nat → Nat → Nat) (l : List Int) (t : ByteArray) (m : Nat) : ByteArray := if fit m = true then (if lessB (tx (scat n (tp m) l n)) t = true then tx (scat n (tp m) l n) else t) else t
def leastS (n : Nat) (tx : List Int → ByteArray) (fit : Nat → Bool) (tp : Nat → Nat → Nat) (l : List Int) (k : Nat) : ByteArray := (List.range k).foldl (stepS n tx fit tp l) (tx l)
theorem leastS_succ (n : Nat) (tx : List Int → ByteArray) (fit : Nat → Bool) (tp : Nat → Nat → Nat) (l : List Int) (k : Nat) : leastS n tx fit tp l (k + 1) = stepS n tx fit tp l (leastS n tx fit tp l k) k := by
  unfold leastS
  rw [List.range_succ, List.foldl_append]
  rfl
structure Con (n : Nat) (x y : Int) (tx : List Int → ByteArray) (fit : Nat → Bool) (tp : Nat → Nat → Nat) (Good : List Int → Prop) : Prop where
  text : ∀ (l : List Int) A c W, l.length = n → Good l → Kd.C (Kd.int .u8) W A l.length l → l.length ≤ c → Calls Try.prog 27 #[.agg #[.int .i64 x, .int .i64 y, .slice A l.length c]] W fun e w' => e = .returned (.string (tx l)) ∧ Below W.heap.size W w'
  fits : ∀ (m : Nat) W, m < 8 → Calls Try.prog 25 #[.int .i64 x, .int .i64 y, .int .i64 (m : Int)] W fun e w' => e = .returned (.bool (fit m)) ∧ Below W.heap.size W w'
  empty : ∀ W, Calls Try.prog 28 #[.int .i64 x, .int .i64 y] W fun e w' => ∃ v0_ : Value, e = .returned (.agg #[.int .i64 x, .int .i64 y, v0_]) ∧ Kd.R (Kd.int .u8) 5 w' W.heap.size (fun _ => True) v0_ (List.replicate n 46) ∧ Below W.heap.size W w'
  into : ∀ (m i : Nat) W, m < 8 → fit m = true → i < n → Calls Try.prog 29 #[.int .i64 x, .int .i64 y, .int .i64 (m : Int), .int .i64 (i : Int)] W fun e w' => e = .returned (.int .i64 (tp m i : Int)) ∧ Below W.heap.size W w'
  lt : ∀ m i, m < 8 → fit m = true → i < n → tp m i < n
  good : ∀ (m : Nat) (l : List Int), m < 8 → fit m = true → l.length = n → Good l → Good (scat n (tp m) l n)
  size : x * y = (n : Int)
  small : n ≤ 36
  pos : 0 < n
  snoc : ∀ (l : List Int) (b : Int), (b = 35 ∨ b = 111 ∨ b = 46) → Good l → Good (l ++ [b])
theorem C_of_own {W : World} {n₀ n cap : Nat} {A : Option Addr} {l : List Int} (h : W.ownsRow n₀ 5 1 (.slice A n cap) l.length (u8s l)) : n = l.length ∧ l.length ≤ cap ∧ Kd.C (Kd.int .u8) W A l.length l := by
  have hR : Kd.R (Kd.int .u8) 5 W n₀ (fun _ => True) (.slice A n cap) l := Kd.R_of_own (h1 := fun _ => rfl) h (fun _ _ => trivial)
  obtain ⟨A2, c2, e, h1, h2⟩ := Kd.R_reads hR
  injection e with e1 e2 e3
  subst e1 e2 e3
  exact ⟨rfl, h1, h2⟩
theorem row_form {W : World} {n₀ n : Nat} {e : TypeId} {V : Value} {xs : List Value} (h : W.ownsRow n₀ e 1 V n xs) (hn : 0 < n) : ∃ g cap cur, V = .slice (some ⟨g, 0, none⟩) n cap ∧ n₀ ≤ g ∧ W.heap[g]? = some (.cells cur e (0, 0)) ∧ n ≤ cap := by
  rcases h.2 with ⟨_, h0⟩ | ⟨g, cap, cur, rfl, hb, hg, h1, _⟩
  · omega
  · exact ⟨g, cap, cur, rfl, hb, hg, h1⟩
/-- The least text is its own: the tray is listed. -/
def leafF (n : Nat) (tx : List Int → ByteArray) (fit : Nat → Bool) (tp : Nat → Nat → Nat) (l : List Int) : List ByteArray := if leastS n tx fit tp l 8 = tx l then [leastS n tx fit tp l 8] else []
theorem C_below' {W W' : World} {A : Option Addr} {l : List Int} (h : Kd.C (Kd.int .u8) W A l.length l) (hB : Below W.heap.size W W') : Kd.C (Kd.int .u8) W' A l.length l := Kd.C_below h hB
set_option maxRecDepth 100000 in
set_option maxHeartbeats 8000000 in
theorem leaf_calls {gs n : Nat} {x y : Int} {tx : List Int → ByteArray} {fit : Nat → Bool} {tp : Nat → Nat → Nat} {Good : List Int → Prop} (K0 : Con n x y tx fit tp Good) (l : List Int) (w0 W : World) (Vc Vf : Value) (L : List ByteArray) (hln : l.length = n) (hgd : Good l) (hS : SS gs x y w0 W Vc Vf l L) (hL : L.length ≤ 1000000) :
    Calls Try.prog 12 #[.pointer (some ⟨gs, 0, none⟩), .int .i64 0, .int .i64 0] W fun e W' => e = .returned (.tuple #[]) ∧ ∃ Vf', SS gs x y w0 W' Vc Vf' l (L ++ leafF n tx fit tp l) := by
  obtain ⟨Ac, cc, rfl⟩ := own_slice hS.oc
  obtain ⟨Af, cf, rfl⟩ := own_slice hS.of
  have hsm := K0.small
  have hsz := K0.size
  have hpos := K0.pos
  obtain ⟨_, hle, hC⟩ := C_of_own hS.oc
  have K := Aside0.mk K0
  have G := Aside0.mk (And.intro hln (And.intro hgd (And.intro hS (And.intro hC hle))))
  subst hln
  have q0 : W.cell? ⟨gs, 0, none⟩ = some (.int .i64 x) := (blk_cell hS.cs 0).trans rfl
  have q1 : W.cell? ⟨gs, 1, none⟩ = some (.int .i64 y) := (blk_cell hS.cs 1).trans rfl
  have q2 : W.cell? ⟨gs, 2, none⟩ = some (.slice Ac l.length cc) := (blk_cell hS.cs 2).trans rfl
  have lg := lt_of hS.cs
  clear K0 hgd hS hC hle
  go_enter Try.func12, Try.ntmps12
  go_wp2_with fail
  refine R0_region rfl R0.tab (by intro c a d v w z; exact z) rfl rfl rfl rfl rfl rfl rfl rfl rfl rfl rfl rfl rfl rfl rfl rfl rfl rfl rfl rfl rfl rfl rfl rfl rfl rfl rfl rfl rfl rfl rfl rfl rfl rfl rfl rfl rfl rfl rfl rfl rfl rfl rfl rfl rfl rfl rfl rfl rfl rfl rfl rfl rfl rfl rfl rfl rfl rfl rfl rfl rfl rfl rfl rfl (left := 0) lg q0 q1 q2 hsz (by rw [hsz]; unfold wrap64; omega) (by omega) (by omega) (fun W1 hB1 => ?_) rfl
  have q0 : W1.cell? ⟨gs, 0, none⟩ = some (.int .i64 x) := (hB1.cell (p := ⟨gs, 0, none⟩) lg).trans q0
  have q1 : W1.cell? ⟨gs, 1, none⟩ = some (.int .i64 y) := (hB1.cell (p := ⟨gs, 1, none⟩) lg).trans q1
  have q2 : W1.cell? ⟨gs, 2, none⟩ = some (.slice Ac l.length cc) := (hB1.cell (p := ⟨gs, 2, none⟩) lg).trans q2
  have lg1 : gs < W1.heap.size := Nat.lt_of_lt_of_le lg hB1.size
  go_wp2_with fail
  refine R3_region rfl R3.tab (by intro c a d v w z; exact z) rfl rfl rfl rfl rfl rfl rfl rfl rfl rfl rfl rfl rfl rfl rfl rfl rfl rfl rfl rfl rfl rfl rfl rfl rfl rfl rfl rfl rfl rfl rfl rfl rfl rfl rfl rfl rfl rfl rfl rfl rfl rfl rfl rfl rfl rfl rfl rfl rfl rfl rfl rfl rfl rfl rfl rfl rfl rfl rfl rfl lg1 q0 q1 q2 (fun gA W2 hB2 lA hbA => ?_) rfl
  have hB02 : Below W.heap.size W W2 := hB1.trans (hB2.mono hB1.size)
  have a0 : W2.cell? ⟨gA, 0, none⟩ = some (.int .i64 x) := (blk_cell hbA 0).trans rfl
  have a1 : W2.cell? ⟨gA, 1, none⟩ = some (.int .i64 y) := (blk_cell hbA 1).trans rfl
  have a2 : W2.cell? ⟨gA, 2, none⟩ = some (.slice Ac l.length cc) := (blk_cell hbA 2).trans rfl
  have P2 := Aside0.mk (And.intro hB02 hbA)
  clear hB1 hB2 hB02 q0 q1 q2 lg1 lA hbA
  go_upto_region 5 with (go_at_call 27; refine (K.out.text l Ac cc W2 rfl G.out.2.1 (C_below' G.out.2.2.2.1 P2.out.1) G.out.2.2.2.2).mono ?_; rintro e W3 ⟨rfl, hB3⟩)
  clear a0 a1 a2
  have P3 := Aside0.mk hB3
  clear hB3
  go_wp2_with fail
  go_loopw [8, 9] (fun s8 s9 wr => ∃ m : Nat, m ≤ 8 ∧ s8 = .string (leastS l.length tx fit tp l m) ∧ s9 = .int .i64 (m : Int) ∧ Aside0 (Below W2.heap.size W2 wr))
    (fun _ s9 _ => 8 - (intOf s9).toNat)
  case atStart => exact ⟨0, by omega, rfl, rfl, P3⟩
  case round =>
    obtain ⟨m, hm, rfl, rfl, HBr⟩ := hrel
    have hB0r : Below W.heap.size W wr := P2.out.1.trans (HBr.out.mono P2.out.1.size)
    have hSr := G.out.2.2.1.to hB0r
    have q0 : wr.cell? ⟨gs, 0, none⟩ = some (.int .i64 x) := (blk_cell hSr.cs 0).trans rfl
    have q1 : wr.cell? ⟨gs, 1, none⟩ = some (.int .i64 y) := (blk_cell hSr.cs 1).trans rfl
    have q2 : wr.cell? ⟨gs, 2, none⟩ = some (.slice Ac l.length cc) := (blk_cell hSr.cs 2).trans rfl
    have lgr := lt_of hSr.cs
    obtain ⟨tm, htm⟩ : ∃ tm, leastS l.length tx fit tp l m = tm := ⟨_, rfl⟩
    have X := Aside0.mk (And.intro hB0r (And.intro hSr htm))
    rw [htm]
    clear hB0r hSr htm
    by_cases hm8 : m < 8
    · have hmi8 : (m : Int) < 8 := by omega
      have hmd8 : decide ((m : Int) < 8) = true := decide_eq_true hmi8
      go_wp2_with fail
      refine R8_region rfl R8.tab (by intro c a d v w z; exact z) rfl rfl rfl rfl rfl rfl rfl rfl rfl rfl rfl rfl rfl rfl rfl rfl rfl rfl rfl rfl rfl rfl rfl rfl rfl rfl rfl rfl rfl rfl rfl rfl rfl rfl rfl rfl rfl rfl rfl rfl lgr q0 q1 q2 (fun W5 hB => K.out.fits m W5 hm8) (fun W4 hB4 => ?_) rfl
      by_cases hf : fit m = true
      · rw [hf]
        go_wp2_with fail
        have lg4 : gs < W4.heap.size := Nat.lt_of_lt_of_le lgr hB4.size
        have p0 : W4.cell? ⟨gs, 0, none⟩ = some (.int .i64 x) := (hB4.cell (p := ⟨gs, 0, none⟩) lgr).trans q0
        have p1 : W4.cell? ⟨gs, 1, none⟩ = some (.int .i64 y) := (hB4.cell (p := ⟨gs, 1, none⟩) lgr).trans q1
        have p2 : W4.cell? ⟨gs, 2, none⟩ = some (.slice Ac l.length cc) := (hB4.cell (p := ⟨gs, 2, none⟩) lgr).trans q2
        obtain ⟨el, hel⟩ : ∃ el, List.replicate l.length (46 : Int) = el := ⟨_, rfl⟩
        have hell : el.length = l.length := by rw [← hel, List.length_replicate]
        refine R9_region rfl R9.tab (by intro c a d v w z; exact z) rfl rfl rfl rfl rfl rfl rfl rfl rfl rfl rfl rfl rfl rfl rfl rfl rfl rfl rfl rfl rfl rfl rfl rfl rfl rfl rfl rfl rfl rfl rfl rfl rfl rfl rfl rfl rfl rfl rfl rfl rfl rfl rfl rfl (el := el) lg4 p0 p1 p2 (fun W5 hB => by rw [← hel]; exact K.out.empty W5) (fun gB Ao co W5 hB5 lB hbB hO => ?_) rfl
        obtain ⟨gO, co2, curO, hVO, hgO, hbO, _⟩ := row_form hO (by omega)
        obtain ⟨rfl, rfl⟩ : Ao = some ⟨gO, 0, none⟩ ∧ co = co2 := by simpa using hVO
        have hS5 : Below W.heap.size W W5 := X.out.1.trans ((hB4.mono X.out.1.size).trans (hB5.mono (Nat.le_trans X.out.1.size hB4.size)))
        have r2 : W5.cell? ⟨gs, 2, none⟩ = some (.slice Ac l.length cc) := (hB5.cell (p := ⟨gs, 2, none⟩) lg4).trans p2
        have hO0 : W5.ownsRow W4.heap.size 5 1 (.slice (some ⟨gO, 0, none⟩) el.length co) el.length (u8s (scat l.length (tp m) l 0)) := by
          rw [show scat l.length (tp m) l 0 = el from hel]
          exact hO
        have Y := Aside0.mk (And.intro hB4 (And.intro hB5 (And.intro hbB (And.intro hO0 (And.intro hgO (And.intro hell (And.intro lB hf)))))))
        clear hB5 hbB hO hO0 hbO hVO hgO p0 p1 p2 lg4 q0 q1 q2 lgr hB4 hell lB hS5
        go_wp2_with fail
        go_loopw [80] (fun s80 wi => ∃ i : Nat, i ≤ l.length ∧ s80 = .int .i64 (i : Int) ∧ Aside0 (Below W4.heap.size W4 wi) ∧ Aside0 (wi.heap[gB]? = some (.cells #[.int .i64 x, .int .i64 y, .slice (some ⟨gO, 0, none⟩) el.length co] 52 (0, 0))) ∧ Aside0 (wi.ownsRow W4.heap.size 5 1 (.slice (some ⟨gO, 0, none⟩) el.length co) el.length (u8s (scat l.length (tp m) l i))))
          (fun s80 _ => l.length - (intOf s80).toNat)
        case atStart => exact ⟨0, Nat.zero_le _, rfl, Aside0.mk Y.out.2.1, Aside0.mk Y.out.2.2.1, Aside0.mk Y.out.2.2.2.1⟩
        case round =>
          obtain ⟨i, hi, rfl, HBi, HbB, HOi⟩ := hrel
          clear r2
          have hBi0 : Below W.heap.size W wr := X.out.1.trans ((Y.out.1.mono X.out.1.size).trans (HBi.out.mono (Nat.le_trans X.out.1.size Y.out.1.size)))
          have hSi := G.out.2.2.1.to hBi0
          by_cases hlt : i < l.length
          · have hlti : (i : Int) < (l.length : Int) := by omega
            obtain ⟨_, _, hCi⟩ := C_of_own hSi.oc
            obtain ⟨ad, hAd, hcell⟩ := Kd.at_int hCi (i : Int) (by omega) hlti
            subst hAd
            rw [Int.toNat_natCast] at hcell
            have em : rd l (i : Int) = l[i] := by
              unfold rd
              rw [Int.toNat_natCast, List.getD_eq_getElem?_getD, List.getElem?_eq_getElem hlt]
              rfl
            rw [em] at hcell
            have t0 : wr.cell? ⟨gs, 0, none⟩ = some (.int .i64 x) := (blk_cell hSi.cs 0).trans rfl
            have t1 : wr.cell? ⟨gs, 1, none⟩ = some (.int .i64 y) := (blk_cell hSi.cs 1).trans rfl
            have t2 : wr.cell? ⟨gs, 2, none⟩ = some (.slice (some ad) l.length cc) := (blk_cell hSi.cs 2).trans rfl
            have lgi := lt_of hSi.cs
            have hti := K.out.lt m i hm8 hf hlt
            have hte : tp m i < el.length := by rw [Y.out.2.2.2.2.2.1]; exact hti
            have b2 : wr.cell? ⟨gB, 2, none⟩ = some (.slice (some ⟨gO, 0, none⟩) el.length co) := (blk_cell HbB.out 2).trans rfl
            have lgB := lt_of HbB.out
            obtain ⟨g2, co3, curI, hV3, hgO3, hbO3, _⟩ := row_form HOi.out (by omega)
            obtain ⟨rfl, rfl⟩ : gO = g2 ∧ co = co3 := by simpa using hV3
            have lgO := lt_of hbO3
            have hold := HOi.out.cells (g := gO) rfl (tp m i) (.int .u8 ((scat l.length (tp m) l i).getD (tp m i) 0)) (by rw [show u8s (scat l.length (tp m) l i) = (scat l.length (tp m) l i).map (Value.int .u8) from rfl, List.getElem?_map, List.getElem?_eq_getElem (by rw [scat_len]; exact hti), List.getD_eq_getElem?_getD, List.getElem?_eq_getElem (by rw [scat_len]; exact hti)]; rfl)
            rw [add0] at hold
            have Z := Aside0.mk (And.intro hSi (And.intro hbO3 (And.intro hBi0 hti)))
            clear hSi hCi hBi0 hV3 hgO3 em
            go_wp2_with fail
            refine R13_region rfl R13.tab (by intro c a d v w z; exact z) rfl rfl rfl rfl rfl rfl rfl rfl rfl rfl rfl rfl rfl rfl rfl rfl rfl rfl rfl rfl rfl rfl rfl rfl rfl rfl rfl rfl rfl rfl rfl rfl rfl rfl rfl rfl rfl rfl rfl rfl rfl rfl rfl rfl rfl rfl rfl rfl rfl rfl rfl rfl rfl rfl rfl rfl rfl rfl rfl rfl rfl rfl rfl rfl (t := tp m i) lgi t0 t1 t2 lgB b2 lgO hold Z.out.2.1 hte (fun W7 hB7 => K.out.into m i W7 hm8 hf hlt) (fun W7 hB7 => ?_) rfl
            have hown7 := own_store_of (enc := Value.int .u8) (own_move HOi.out (fun k hk => hB7.block k (own_lt HOi.out k hk))) ((tp m i : Nat) : Int) l[i]
            have hgi : l.getD i 0 = l[i] := by rw [List.getD_eq_getElem?_getD, List.getElem?_eq_getElem hlt]; rfl
            rw [Int.toNat_natCast, ← hgi, ← scat_succ, hgi] at hown7
            have V7 := Aside0.mk (And.intro hown7 hB7)
            clear hown7 hB7 hgi
            go_wp2_with fail
            go_roundw
            case rel => exact ⟨i + 1, by omega, by simp, Aside0.mk ((HBi.out.trans (V7.out.2.mono HBi.out.size)).setCell (p := ⟨gO, tp m i, none⟩) Y.out.2.2.2.2.1 _), Aside0.mk ((Below.heap_setCell _ ⟨gO, tp m i, none⟩ _ gB (fun e => ne_row HOi.out HbB.out (by decide) gO rfl e.symm)).trans ((V7.out.2.block _ lgB).trans HbB.out)), Aside0.mk V7.out.1.1⟩
            case measure => simp [intOf]; omega
          · have ei : i = l.length := by omega
            subst ei
            have hlS := scat_len l.length (tp m) l l.length
            have hlE : el.length = (scat l.length (tp m) l l.length).length := by rw [hlS]; exact Y.out.2.2.2.2.2.1
            have hCo := (C_of_own (l := scat l.length (tp m) l l.length) (n := el.length) (by rw [← hlE]; exact HOi.out)).2
            have htx := K.out.text (scat l.length (tp m) l l.length) (some ⟨gO, 0, none⟩) co wr hlS (K.out.good m l hm8 hf rfl G.out.2.1) hCo.2 hCo.1
            rw [← hlE] at htx
            have b0 : wr.cell? ⟨gB, 0, none⟩ = some (.int .i64 x) := (blk_cell HbB.out 0).trans rfl
            have b1 : wr.cell? ⟨gB, 1, none⟩ = some (.int .i64 y) := (blk_cell HbB.out 1).trans rfl
            have b2 : wr.cell? ⟨gB, 2, none⟩ = some (.slice (some ⟨gO, 0, none⟩) el.length co) := (blk_cell HbB.out 2).trans rfl
            have hstep : leastS l.length tx fit tp l (m + 1) = if lessB (tx (scat l.length (tp m) l l.length)) tm = true then tx (scat l.length (tp m) l l.length) else tm := by
              rw [leastS_succ, X.out.2.2]
              unfold stepS
              rw [if_pos hf]
            have Z := Aside0.mk (And.intro hstep (And.intro hBi0 hSi))
            obtain ⟨u, hu⟩ : ∃ u, tx (scat l.length (tp m) l l.length) = u := ⟨_, rfl⟩
            rw [hu] at htx
            clear hstep hBi0 hSi hCo hlS hlE
            by_cases hlb : lessB u tm = true
            · have hlb2 := hlb
              unfold lessB at hlb2
              go_wp2_with (go_at_call 27; (with_reducible refine htx.mono ?_); rintro e W8 ⟨rfl, hB8⟩)
              have hBz := HBr.out.trans ((Y.out.1.mono HBr.out.size).trans ((HBi.out.trans (hB8.mono HBi.out.size)).mono (Nat.le_trans HBr.out.size Y.out.1.size)))
              go_roundw
              case rel => exact ⟨m + 1, by omega, by rw [Z.out.1, hu, if_pos hlb], by simp, Aside0.mk hBz⟩
              case measure => simp [intOf]; omega
            · have hlb2 : Op.bytesLess u.toList tm.toList = false := by
                unfold lessB at hlb
                simpa using hlb
              go_wp2_with (go_at_call 27; (with_reducible refine htx.mono ?_); rintro e W8 ⟨rfl, hB8⟩)
              have hBz := HBr.out.trans ((Y.out.1.mono HBr.out.size).trans ((HBi.out.trans (hB8.mono HBi.out.size)).mono (Nat.le_trans HBr.out.size Y.out.1.size)))
              go_roundw
              case rel => exact ⟨m + 1, by omega, by rw [Z.out.1, hu, if_neg hlb], by simp, Aside0.mk hBz⟩
              case measure => simp [intOf]; omega
      · have hf2 : fit m = false := by simpa using hf
        rw [hf2]
        go_wp2_with fail
        refine ⟨⟨m + 1, by omega, ?_, by simp, Aside0.mk (HBr.out.trans (hB4.mono HBr.out.size))⟩, by simp [intOf]; omega⟩
        rw [leastS_succ, X.out.2.2]
        unfold stepS
        rw [if_neg hf]
    · have em : m = 8 := by omega
      subst em
      have hbA := (HBr.out.block _ (lt_of P2.out.2)).trans P2.out.2
      have a0 : wr.cell? ⟨gA, 0, none⟩ = some (.int .i64 x) := (blk_cell hbA 0).trans rfl
      have a1 : wr.cell? ⟨gA, 1, none⟩ = some (.int .i64 y) := (blk_cell hbA 1).trans rfl
      have a2 : wr.cell? ⟨gA, 2, none⟩ = some (.slice Ac l.length cc) := (blk_cell hbA 2).trans rfl
      have htx := K.out.text l Ac cc wr rfl G.out.2.1 (C_below' G.out.2.2.2.1 X.out.1) G.out.2.2.2.2
      obtain ⟨u, hu⟩ : ∃ u, tx l = u := ⟨_, rfl⟩
      rw [hu] at htx
      have q3 : wr.cell? ⟨gs, 3, none⟩ = some (.slice Af L.length cf) := (blk_cell X.out.2.1.cs 3).trans rfl
      clear hbA q0 q1 q2
      by_cases heq : tm = u
      · subst heq
        have h1 : (tm.toList == tm.toList) = true := beq_self_eq_true _
        have h2 : decide (tm.toList = tm.toList) = true := decide_eq_true rfl
        go_upto_region 19 with (go_at_call 27; (with_reducible refine htx.mono ?_); rintro e W8 ⟨rfl, hB8⟩)
        have hS8 := X.out.2.1.to hB8
        have q3 : W8.cell? ⟨gs, 3, none⟩ = some (.slice Af L.length cf) := (blk_cell hS8.cs 3).trans rfl
        obtain ⟨i0, hi0, hz0, hz1, hz2⟩ := info_parts FL.infoS
        have hS9 := hS8.to (below_alloc (Below.refl _ W8) (.cells #[.string tm] 9 (0, 0)))
        have Z := Aside0.mk (And.intro hS9 hu)
        have hown9 := hS9.of
        have hge9 := hS9.below.size
        have hgs9 : some gs ≠ (Value.slice Af L.length cf).ownBlock := FL.ne_own hS9.of hS9.cs (by decide)
        have hcs9 := hS9.cs
        clear hS8 hS9 hu h1 h2 a0 a1 a2
        go_wp2_with (at_builtin; refine wpList_append_keep _ rfl _ _ _ rfl w0.heap.size 9 i0 _ 1 16 Try.underlying22 hi0 hz0 hz1 hz2 rfl (by omega) (.slice Af L.length cf) L.length (L.map Value.string) rfl hown9 ⟨W8.heap.size, 0, none⟩ 1 1 [.string tm] rfl rfl (cells_of (Go.MapKept.heap_alloc W8 (.cells #[.string tm] 9 (0, 0))).1) (by simp [Value.oneCell']) (by omega) (by simp only [maxLen]; omega) (by omega) hge9 ?_; intro V2 w6 hown6 hg6 hat6 hold6; obtain ⟨A2, c2, rfl⟩ := own_slice hown6; have hcs6 := (hg6.block _ (lt_of hcs9) hgs9).trans hcs9; have c36 : w6.cell? ⟨gs, 3, none⟩ = some (.slice Af L.length cf) := (blk_cell hcs6 3).trans rfl; have f36 := blk_frozen hcs6 3; have AT := Aside0.mk (And.intro hown6 hg6); clear q3 hown6 hg6 hat6 hold6 hown9 hcs6 hcs9)
        have hpush := Z.out.1.push AT.out.1 AT.out.2 rfl
        refine bodyPost_ret (results_none rfl _ _ _) rfl ?_
        refine ⟨rfl, .slice A2 (L.length + 1) c2, ?_⟩
        unfold leafF
        rw [X.out.2.2, Z.out.2, if_pos rfl]
        exact hpush
      · have hne : ¬ tm.toList = u.toList := fun e => heq (bytes_inj (by rw [Lib.toList_data, Lib.toList_data] at e; exact e))
        have h1 : (tm.toList == u.toList) = false := beq_eq_false_iff_ne.2 hne
        have h2 : decide (tm.toList = u.toList) = false := decide_eq_false hne
        go_wp2_with (go_at_call 27; (with_reducible refine htx.mono ?_); rintro e W8 ⟨rfl, hB8⟩)
        refine bodyPost_ret (results_none rfl _ _ _) rfl ?_
        refine ⟨rfl, .slice Af L.length cf, ?_⟩
        unfold leafF
        rw [X.out.2.2, hu, if_neg heq, List.append_nil]
        exact X.out.2.1.to hB8
end LK
end Go.Proofs.YtoojemnocncafaaV
