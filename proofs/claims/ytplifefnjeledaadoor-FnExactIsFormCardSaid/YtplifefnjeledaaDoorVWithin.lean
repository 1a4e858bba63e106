/- Contracts of slices.IndexFunc and ContainsFunc over whole numbers, and of the program's areWithin: no number of a list lies outside. -/
import Derived.WalkKit
import Derived.Shelf.Abstract
import Derived.Shelf.RegionOpenPlain
import Derived.Deep.LoopGhost
import Derived.Lib.Walk
import Derived.Lib.SliceRun
import Derived.Test.YtplifefnjeledaaDoorProg
import Derived.Test.YtplifefnjeledaaDoorWLast
import Derived.Test.YtplifefnjeledaaDoorWMore
set_option linter.unusedVariables false
set_option linter.unusedSimpArgs false
namespace Go.Proofs.YtplifefnjeledaaDoorV
open Go.RowKit Go.Proofs.YtplifefnjeledaaDoorW.PrintWords Go.Proofs.YtplifefnjeledaaDoorW.PrintLast
def inW (a b c : Int) : Bool := decide (b ≤ a) && decide (a ≤ c)
namespace AW
theorem row_cells {w : World} {A : Option Addr} {l : List Int} (hr : Kd.C (Kd.int .i64) w A l.length l) (hpos : 0 < l.length) :
  ∃ b off : Nat, A = some ⟨b, off, none⟩ ∧ b < w.heap.size ∧ ∀ j (h : j < l.length), w.cell? ⟨b, off + j, none⟩ = some (.int .i64 l[j]) := by
 obtain ⟨ad, hA, hcell⟩ := hr.2.2 hpos
 have hcl : ∀ j (h : j < l.length), w.cell? (ad.add j) = some (.int .i64 l[j]) := by
  intro j h
  obtain ⟨c, hl, hk, hcc⟩ := hcell j l[j] (List.getElem?_eq_getElem h)
  have hk' : c = [Value.int .i64 l[j]] := hk
  subst hk'
  have hz := hcc 0 (.int .i64 l[j]) rfl
  have e1 : j * (Kd.int .i64).sz + 0 = j := by show j * 1 + 0 = j; omega
  rw [e1] at hz
  exact hz
 obtain ⟨b, off, sp⟩ := ad
 have h0 := hcl 0 hpos
 rw [show (⟨b, off, sp⟩ : Addr).add 0 = ⟨b, off, sp⟩ from by simp [Addr.add]] at h0
 have hsp : sp = none := World.cell?_spot h0
 subst hsp
 refine ⟨b, off, hA, World.block_lt_of_cell? w _ h0, fun j h => ?_⟩
 have hz := hcl j h
 have ea : (⟨b, off, none⟩ : Addr).add j = ⟨b, off + j, none⟩ := by
  unfold Addr.add
  split
  ·rename_i e0
   subst e0
   rfl
  ·rfl
 rw [ea] at hz
 exact hz
end AW
open AW
set_option maxRecDepth 100000 in
set_option maxHeartbeats 2000000 in
theorem areWithin1_calls (HW : ∀ (a b c : Int) (W : World), Calls Tryd.prog 61 #[.int .i64 a, .int .i64 b, .int .i64 c] W fun e w' => e = .returned (.bool (inW a b c)) ∧ Drawn0 W w')
  (n lo hi : Int) (B1 B2 : Nat) (W : World) (c1 : W.cell? ⟨B1, 0, none⟩ = some (.int .i64 lo)) (c2 : W.cell? ⟨B2, 0, none⟩ = some (.int .i64 hi)) :
  Calls Tryd.prog 60 #[.int .i64 n, .pointer (some ⟨B1, 0, none⟩), .pointer (some ⟨B2, 0, none⟩)] W fun e w' => e = .returned (.bool (!inW n lo hi)) ∧ Below W.heap.size W w' := by
 have HW' := Aside0.mk HW
 clear HW
 go_enter Tryd.func60, Tryd.ntmps60
 go_wp2_with (go_at_call 61; refine (HW'.out n lo hi _).mono ?_; rintro e w1 ⟨rfl, hd⟩)
 go_ret
 exact ⟨rfl, hd.below⟩
set_option maxRecDepth 100000 in
set_option maxHeartbeats 2000000 in
theorem indexFunc_calls (p : Int → Bool) (g : Nat) (lb : Array Value) (b off : Nat) (c : Nat) (l : List Int) (w : World) (hb : b < w.heap.size)
  (hc : ∀ j (h : j < l.length), w.cell? ⟨b, off + j, none⟩ = some (.int .i64 l[j])) (hl : l.length ≤ 1000000)
  (eg : ∀ args w, (callFunc g args).run Tryd.prog w = .ok (.enter g args) w)
  (hp : ∀ (W : World) (x : Int), Below w.heap.size w W → Calls Tryd.prog g (#[.int .i64 x] ++ lb) W fun e w' => e = .returned (.bool (p x)) ∧ Below W.heap.size W w') :
  Calls Tryd.prog 76 #[.slice (some ⟨b, off, none⟩) l.length c, .func (.func g) #[] lb] w fun e w' => (∃ z : Int, e = .returned (.int .i64 z) ∧ (0 ≤ z ↔ l.any p = true)) ∧ Below w.heap.size w w' := by
 have HP := Aside0.mk hp
 have HC := Aside0.mk hc
 clear hp hc
 go_enter Tryd.func76, Tryd.ntmps76
 go_wp2
 go_loopw [5, 8] (fun s5 s wr => ∃ k : Nat, k ≤ l.length ∧ s = .int .i64 (k : Int) ∧ Aside0 (∀ j (h : j < l.length), j < k → p l[j] = false) ∧ Aside0 (Below w.heap.size w wr))
  (fun _ s _ => l.length - (intOf s).toNat)
 case atStart => exact ⟨0, Nat.zero_le _, rfl, Aside0.mk (fun j _ hj => absurd hj (Nat.not_lt_zero _)), Aside0.mk (Below.refl _ w)⟩
 case round =>
  obtain ⟨k, hk, rfl, HA, HB⟩ := hrel
  by_cases hlt : k < l.length
  ·have hlti : (k : Int) < (l.length : Int) := by omega
   have hcl : wr.cell? ⟨b, off + k, none⟩ = some (.int .i64 l[k]) := (HB.out.cell (p := ⟨b, off + k, none⟩) hb).trans (HC.out k hlt)
   have hcall := HP.out wr l[k] HB.out
   obtain ⟨x, hx⟩ : ∃ x, l[k] = x := ⟨_, rfl⟩
   rw [hx] at hcl hcall
   have HX : Aside0 (l[k]? = some x) := Aside0.mk (by rw [List.getElem?_eq_getElem hlt, hx])
   clear hx
   cases hq : p x with
   | true =>
    rw [hq] at hcall
    go_wp2_with (go_at_fn g; refine hcall.mono ?_; rintro e w1 ⟨rfl, hb1⟩)
    go_ret
    refine ⟨⟨_, rfl, ?_⟩, HB.out.trans (hb1.mono HB.out.size)⟩
    constructor
    ·intro _
     exact List.any_eq_true.2 ⟨x, List.mem_of_getElem? HX.out, hq⟩
    ·intro _
     omega
   | false =>
    rw [hq] at hcall
    go_wp2_with (go_at_fn g; refine hcall.mono ?_; rintro e w1 ⟨rfl, hb1⟩)
    refine ⟨⟨k + 1, by omega, by simp, Aside0.mk (fun j h hj => ?_), Aside0.mk (HB.out.trans (hb1.mono HB.out.size))⟩, by simp [intOf]; omega⟩
    by_cases e : j = k
    ·subst e
     have := HX.out
     rw [List.getElem?_eq_getElem h] at this
     rw [Option.some.inj this]
     exact hq
    ·exact HA.out j h (by omega)
  ·have e : k = l.length := by omega
   subst e
   go_wp2
   go_ret
   refine ⟨⟨_, rfl, ?_⟩, HB.out⟩
   constructor
   ·intro h0
    exact absurd h0 (by decide)
   ·intro h0
    obtain ⟨x, hx, hpx⟩ := List.any_eq_true.1 h0
    obtain ⟨j, hj, e⟩ := List.getElem_of_mem hx
    rw [← e, HA.out j hj hj] at hpx
    cases hpx
set_option maxRecDepth 100000 in
set_option maxHeartbeats 2000000 in
theorem containsFunc_calls (p : Int → Bool) (g : Nat) (lb : Array Value) (b off : Nat) (c : Nat) (l : List Int) (w : World) (hb : b < w.heap.size)
  (hc : ∀ j (h : j < l.length), w.cell? ⟨b, off + j, none⟩ = some (.int .i64 l[j])) (hl : l.length ≤ 1000000)
  (eg : ∀ args w, (callFunc g args).run Tryd.prog w = .ok (.enter g args) w)
  (hp : ∀ (W : World) (x : Int), Below w.heap.size w W → Calls Tryd.prog g (#[.int .i64 x] ++ lb) W fun e w' => e = .returned (.bool (p x)) ∧ Below W.heap.size W w') :
  Calls Tryd.prog 59 #[.slice (some ⟨b, off, none⟩) l.length c, .func (.func g) #[] lb] w fun e w' => e = .returned (.bool (l.any p)) ∧ Below w.heap.size w w' := by
 have HI := indexFunc_calls p g lb b off c l w hb hc hl eg hp
 clear hp hc eg
 go_enter Tryd.func59, Tryd.ntmps59
 go_wp2_with (go_at_call 76; refine HI.mono ?_; rintro e w1 ⟨⟨z, rfl, hz⟩, hb1⟩; have HZ := Aside0.mk hz; clear hz)
 have hd : decide (0 ≤ z) = l.any p := by
  rw [Bool.eq_iff_iff, decide_eq_true_eq]
  exact HZ.out
 go_ret
 exact ⟨by rw [← hd]; first | rfl | (congr 3), hb1⟩
theorem areWithin_calls (HW : ∀ (a b c : Int) (W : World), Calls Tryd.prog 61 #[.int .i64 a, .int .i64 b, .int .i64 c] W fun e w' => e = .returned (.bool (inW a b c)) ∧ Drawn0 W w')
  (A : Option Addr) (c : Nat) (l : List Int) (lo hi : Int) (w : World) (hr : Kd.C (Kd.int .i64) w A l.length l) (hpos : 0 < l.length) (hl : l.length ≤ 1000000) :
  Calls Tryd.prog 42 #[.slice A l.length c, .int .i64 lo, .int .i64 hi] w fun e w' => e = .returned (.bool (l.all fun x => inW x lo hi)) ∧ Below w.heap.size w w' := by
 obtain ⟨b, off, rfl, hb, hcells⟩ := row_cells hr hpos
 have eg : ∀ args w, (callFunc 60 args).run Tryd.prog w = .ok (.enter 60 args) w := enters_of Tryd.func60 (by kernel_rfl) rfl
 have HH : ∀ (W : World) (B1 B2 : Nat), Below w.heap.size w W → B1 < W.heap.size → B2 < W.heap.size → W.cell? ⟨B1, 0, none⟩ = some (.int .i64 lo) → W.cell? ⟨B2, 0, none⟩ = some (.int .i64 hi) →
   Calls Tryd.prog 59 #[.slice (some ⟨b, off, none⟩) l.length c, .func (.func 60) #[] #[.pointer (some ⟨B1, 0, none⟩), .pointer (some ⟨B2, 0, none⟩)]] W fun e w' => e = .returned (.bool (l.any fun x => !inW x lo hi)) ∧ Below W.heap.size W w' := by
  intro W B1 B2 hW h1 h2 c1 c2
  refine containsFunc_calls (fun x => !inW x lo hi) _ _ b off c l W (Nat.lt_of_lt_of_le hb hW.size) (fun j h => ?_) hl eg (fun W2 x hB2 => ?_)
  ·exact (hW.cell (p := ⟨b, off + j, none⟩) hb).trans (hcells j h)
  ·exact areWithin1_calls HW x lo hi B1 B2 W2 ((hB2.cell (p := ⟨B1, 0, none⟩) h1).trans c1) ((hB2.cell (p := ⟨B2, 0, none⟩) h2).trans c2)
 have n1 : ((w.alloc (.cells #[.int .i64 lo] 3)).alloc (.cells #[.int .i64 hi] 3)).cell? ⟨w.heap.size, 0, none⟩ = some (.int .i64 lo) := by simp
 have n2 : ((w.alloc (.cells #[.int .i64 lo] 3)).alloc (.cells #[.int .i64 hi] 3)).cell? ⟨w.heap.size + 1, 0, none⟩ = some (.int .i64 hi) := by simp
 have hBa : Below w.heap.size w ((w.alloc (.cells #[.int .i64 lo] 3)).alloc (.cells #[.int .i64 hi] 3)) := ((Below.refl _ w).alloc (Nat.le_refl _) _).alloc (by simp) _
 have HC2 := HH _ w.heap.size (w.heap.size + 1) hBa (by simp; omega) (by simp) n1 n2
 have hall : (l.all fun x => inW x lo hi) = !(l.any fun x => !inW x lo hi) := by simp [List.all_eq_not_any_not]
 rw [hall]
 obtain ⟨q, hq⟩ : ∃ q, (l.any fun x => !inW x lo hi) = q := ⟨_, rfl⟩
 rw [hq] at HC2 ⊢
 have BX := Aside0.mk hBa
 clear HH hcells hr eg hall HW n1 n2 hBa hq
 go_enter Tryd.func42, Tryd.ntmps42
 go_wp2_with (go_at_call 59; refine HC2.mono ?_; rintro e w1 ⟨rfl, hb1⟩)
 go_ret
 exact ⟨by first | rfl | (simp; done), BX.out.trans (hb1.mono BX.out.size)⟩
end Go.Proofs.YtplifefnjeledaaDoorV
