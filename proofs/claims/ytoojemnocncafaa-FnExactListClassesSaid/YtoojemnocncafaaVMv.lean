/- Contract of the program's method (tray).moved: a tray mirrored or not, then turned so many times. -/
import Derived.WalkKit
import Derived.RangeFuncRecord
import Derived.Deep.LoopGhost
import Derived.Lib.Walk
import Derived.Lib.SliceRun
import Derived.Test.YtoojemnocncafaaProg
import Derived.Test.YtoojemnocncafaaWLast
import Derived.Test.YtoojemnocncafaaWMore
set_option linter.unusedVariables false
set_option linter.unusedSimpArgs false
namespace Go.Proofs.YtoojemnocncafaaV
open Go.RowKit Go.Proofs.YtoojemnocncafaaW.PrintWords Go.Proofs.YtoojemnocncafaaW.PrintLast
/-- A function of a tray so many times. -/
def itL (f : Int → Int → List Int → Option (Int × Int × List Int)) : Nat → Int → Int → List Int → Option (Int × Int × List Int)
  | 0, a, b, l => some (a, b, l)
  | n + 1, a, b, l => (f a b l).bind fun t => itL f n t.1 t.2.1 t.2.2
namespace MO
theorem cell_heap {W : World} {B j : Nat} {cur : Array Value} {t : TypeId} {fr : Nat × Nat} {v : Value} (h : W.heap[B]? = some (.cells cur t fr)) (hj : cur[j]? = some v) : W.cell? ⟨B, j, none⟩ = some v := by
  simp [World.cell?, h, hj]
theorem set_heap1 {W : World} {B j : Nat} {cur : Array Value} {t : TypeId} {fr : Nat × Nat} {v : Value} (h : W.heap[B]? = some (.cells cur t fr)) : (W.setCell ⟨B, j, none⟩ v).heap[B]? = some (.cells (cur.setIfInBounds j v) t fr) := by
  obtain ⟨hlt, hk⟩ := Array.getElem?_eq_some_iff.1 h
  show (W.heap.modify B _)[B]? = _
  rw [Array.getElem?_eq_getElem (by rw [Array.size_modify]; exact hlt), Array.getElem_modify_self, hk]
  rfl
theorem box3 {W : World} {B : Nat} {x y z : Value} {t : TypeId} (h : W.heap[B]? = some (.cells #[x, y, z] t (0, 0))) :
    (W.cell? ⟨B, 0, none⟩ = some x ∧ W.cell? ⟨B, 1, none⟩ = some y ∧ W.cell? ⟨B, 2, none⟩ = some z) ∧ W.frozen? ⟨B, 0, none⟩ = false ∧ W.frozen? ⟨B, 1, none⟩ = false ∧ W.frozen? ⟨B, 2, none⟩ = false :=
  ⟨⟨cell_heap h rfl, cell_heap h rfl, cell_heap h rfl⟩, by simp [World.frozen?, h], by simp [World.frozen?, h], by simp [World.frozen?, h]⟩
theorem two_new (w : World) (o1 o2 : Obj) : ((w.alloc o1).alloc o2).heap[w.heap.size]? = some o1 ∧ ((w.alloc o1).alloc o2).heap[w.heap.size + 1]? = some o2 ∧ ((w.alloc o1).alloc o2).heap.size = w.heap.size + 2 := by
  refine ⟨?_, ?_, by simp⟩
  · exact (Below.heap_alloc _ _ _ (by simp)).trans (World.alloc_heap_new w _)
  · have := World.alloc_heap_new (w.alloc o1) o2
    rwa [World.size_alloc] at this
theorem put3 {W : World} {B : Nat} {x y z x1 y1 z1 : Value} {t : TypeId} (h : W.heap[B]? = some (.cells #[x, y, z] t (0, 0))) :
    (((W.setCell ⟨B, 0, none⟩ x1).setCell ⟨B, 1, none⟩ y1).setCell ⟨B, 2, none⟩ z1).heap[B]? = some (.cells #[x1, y1, z1] t (0, 0)) := set_heap1 (set_heap1 (set_heap1 h))
theorem far3 {W : World} {B k : Nat} {x1 y1 z1 : Value} (h : k ≠ B) :
    (((W.setCell ⟨B, 0, none⟩ x1).setCell ⟨B, 1, none⟩ y1).setCell ⟨B, 2, none⟩ z1).heap[k]? = W.heap[k]? :=
  (Below.heap_setCell _ ⟨B, 2, none⟩ _ k h).trans ((Below.heap_setCell _ ⟨B, 1, none⟩ _ k h).trans (Below.heap_setCell _ ⟨B, 0, none⟩ _ k h))
theorem below3 {b B : Nat} {w0 W : World} {x1 y1 z1 : Value} (h : Below b w0 W) (hB : b ≤ B) : Below b w0 (((W.setCell ⟨B, 0, none⟩ x1).setCell ⟨B, 1, none⟩ y1).setCell ⟨B, 2, none⟩ z1) :=
  ((h.setCell (p := ⟨B, 0, none⟩) hB _).setCell (p := ⟨B, 1, none⟩) hB _).setCell (p := ⟨B, 2, none⟩) hB _
theorem v3 {W : World} {e base B : Nat} {ok : Nat → Prop} {v x1 y1 z1 : Value} {xs : List Int} (h : Kd.V (Kd.int .u8) e W base ok v xs) (hok : ∀ k, ok k → k ≠ B) :
    Kd.V (Kd.int .u8) e (((W.setCell ⟨B, 0, none⟩ x1).setCell ⟨B, 1, none⟩ y1).setCell ⟨B, 2, none⟩ z1) base ok v xs :=
  Kd.V_far (p := ⟨B, 2, none⟩) (Kd.V_far (p := ⟨B, 1, none⟩) (Kd.V_far (p := ⟨B, 0, none⟩) h hok _) hok _) hok _
end MO
open MO
def TrC (P : Program) (F : FuncId) (f : Int → Int → List Int → Option (Int × Int × List Int)) : Prop :=
  ∀ (a b : Int) (A : Option Addr) (c : Nat) (l : List Int) (r1 r2 : Int) (r3 : List Int) (W : World), Kd.C (Kd.int .u8) W A l.length l → l.length ≤ c → f a b l = some (r1, r2, r3) →
    Calls P F #[.agg #[.int .i64 a, .int .i64 b, .slice A l.length c]] W fun e w' => ∃ v_ : Value, e = .returned (.agg #[.int .i64 r1, .int .i64 r2, v_]) ∧ Kd.R (Kd.int .u8) 5 w' W.heap.size (fun _ => True) v_ r3 ∧ Below W.heap.size W w'
set_option maxRecDepth 100000 in
set_option maxHeartbeats 2000000 in
theorem moved_calls (fM fT : Int → Int → List Int → Option (Int × Int × List Int)) (HM : TrC Try.prog 34 fM) (HT : TrC Try.prog 35 fT)
    (a0 a1 : Int) (P : Nat → Prop) (A : Option Addr) (c : Nat) (l : List Int) (m : Int) (r1 r2 : Int) (r3 : List Int) (w : World) (hs : Kd.V (Kd.int .u8) 5 w w.heap.size (fun k_ => P k_) (.slice A l.length c) l) (hm0 : 0 ≤ m)
    (h : ((if 4 ≤ m then fM a0 a1 l else some (a0, a1, l)).bind fun t => itL fT (m % 4).toNat t.1 t.2.1 t.2.2) = some (r1, r2, r3)) :
    Calls Try.prog 17 #[.agg #[.int .i64 a0, .int .i64 a1, .slice A l.length c], .int .i64 m] w fun e w' => ∃ v_ : Value, e = .returned (.agg #[.int .i64 r1, .int .i64 r2, v_]) ∧ Kd.V (Kd.int .u8) 5 w' w.heap.size (fun k_ => (P k_ ∨ w.heap.size ≤ k_)) v_ r3 ∧ Below w.heap.size w w' := by
  obtain ⟨t, h1, h2⟩ := Option.bind_eq_some_iff.mp h
  clear h
  obtain ⟨q1, q2, q3⟩ := t
  dsimp only at h2
  have hsB := Kd.V_bound hs
  have hR0 := Kd.V_reads' hs
  have HM' := Aside0.mk HM
  have HT' := Aside0.mk HT
  clear HM HT
  obtain ⟨n, hn⟩ : ∃ n : Nat, m % 4 = (n : Int) := ⟨(m % 4).toNat, by omega⟩
  rw [hn, Int.toNat_natCast] at h2
  obtain ⟨b0, hb0⟩ : ∃ b0, w.heap.size = b0 := ⟨_, rfl⟩
  obtain ⟨n1, n2, n3⟩ := two_new w (.cells #[.int .i64 a0, .int .i64 a1, .slice A l.length c] 40) (.cells #[.int .i64 0, .int .i64 0, .slice none 0 0] 40)
  have hBa : Below w.heap.size w ((w.alloc (.cells #[.int .i64 a0, .int .i64 a1, .slice A l.length c] 40)).alloc (.cells #[.int .i64 0, .int .i64 0, .slice none 0 0] 40)) := ((Below.refl _ w).alloc (Nat.le_refl _) _).alloc (by simp) _
  rw [hb0] at n1 n2 n3 hBa hsB
  have N := Aside0.mk (And.intro n1 (And.intro n2 hBa))
  clear n1 n2 hBa
  by_cases h4 : 4 ≤ m
  · rw [if_pos h4] at h1
    have X := Aside0.mk h1
    have Y := Aside0.mk h2
    clear h1 h2
    go_enter Try.func17, Try.ntmps17
    go_wp2_with (go_at_call 34; refine (HM'.out a0 a1 A c l q1 q2 q3 _ (Kd.C_below hR0.2.2 (((Below.refl _ w).alloc (Nat.le_refl _) _).alloc (by simp) _)) hR0.2.1 X.out).mono ?_; rintro e w1 ⟨v1, rfl, hv1, hb1⟩; obtain ⟨A1, c1, rfl, hc1, hC1⟩ := Kd.R_reads hv1; (try rw [n3] at hb1); (try rw [n3] at hv1); (try rw [hb0]); have hx0 := (hb1.block b0 (by omega)).trans N.out.1; obtain ⟨⟨k0, k1, k2⟩, f0, f1, f2⟩ := box3 hx0)
    (try simp only [hn])
    go_loopw [11] (fun s wr => ∃ (i : Nat) (a b : Int) (xs : List Int) (A1 : Option Addr) (c1 : Nat), i ≤ n ∧ s = .int .i64 (i : Int) ∧ Aside0 (itL fT (n - i) a b xs = some (r1, r2, r3)) ∧ wr.heap[b0]? = some (.cells #[.int .i64 a, .int .i64 b, .slice A1 xs.length c1] 40 (0, 0)) ∧ wr.heap[b0 + 1]? = some (.cells #[.int .i64 0, .int .i64 0, .slice none 0 0] 40 (0, 0)) ∧ Kd.V (Kd.int .u8) 5 wr b0 (fun k_ => (P k_ ∧ k_ < b0) ∨ b0 + 2 ≤ k_) (.slice A1 xs.length c1) xs ∧ Below b0 w wr)
      (fun s _ => n - (intOf s).toNat)
    case atStart => exact ⟨0, q1, q2, q3, A1, c1, Nat.zero_le _, rfl, Y, put3 hx0, (far3 (by omega)).trans ((hb1.block (b0 + 1) (by omega)).trans N.out.2.1), v3 (Kd.V_mono (Kd.R_V (Kd.R_bound hv1)) (fun k hk => .inr (by have := hk.2.1; omega))) (fun k hk => by rcases hk with hk | hk <;> omega), below3 (N.out.2.2.trans (hb1.mono (by omega))) (Nat.le_refl _)⟩
    case round =>
      obtain ⟨i, a, b, xs, A1, c1, hi, rfl, hit, hx, hy, hv, hB⟩ := hrel
      obtain ⟨⟨k0, k1, k2⟩, f0, f1, f2⟩ := box3 hx
      have hR := Kd.V_reads' hv
      have hC := hR.2.2
      have hlc := hR.2.1
      have hsz := (Array.getElem?_eq_some_iff.1 hy).1
      by_cases hlt : i < n
      · obtain ⟨d, hd⟩ : ∃ d, n - i = d + 1 := ⟨n - i - 1, by omega⟩
        have hit1 := hit.out
        rw [hd] at hit1
        obtain ⟨q, hq1, hq2⟩ := Option.bind_eq_some_iff.mp hit1
        obtain ⟨p1, p2, p3⟩ := q
        have hd1 : n - (i + 1) = d := by omega
        have hq3 : Aside0 (itL fT (n - (i + 1)) p1 p2 p3 = some (r1, r2, r3)) := Aside0.mk (by rw [hd1]; exact hq2)
        have HC := HT'.out a b A1 c1 xs p1 p2 p3 wr hC hlc hq1
        have X1 := Aside0.mk (And.intro hx (And.intro hy (And.intro hv hB)))
        clear hx hy hv hB hit hit1 hd hd1 hq1 hq2 hR hC hlc d
        go_wp2_with (go_at_call 35; refine HC.mono ?_; rintro e w2 ⟨v2, rfl, hv2, hb2⟩; obtain ⟨A2, c2, rfl, hc2, hC2⟩ := Kd.R_reads hv2; have hx0 := (hb2.block b0 (by omega)).trans X1.out.1; obtain ⟨⟨m0, m1, m2⟩, g0, g1, g2⟩ := box3 hx0)
        have hV2 : Kd.V (Kd.int .u8) 5 w2 b0 (fun k_ => (P k_ ∧ k_ < b0) ∨ b0 + 2 ≤ k_) (.slice A2 p3.length c2) p3 := Kd.V_mono (Kd.R_V (Kd.R_bound hv2)) (fun k hk => .inr (by have := hk.2.1; omega))
        refine ⟨⟨i + 1, p1, p2, p3, A2, c2, by omega, by simp, hq3, put3 hx0, (far3 (by omega)).trans ((hb2.block (b0 + 1) hsz).trans X1.out.2.1), v3 hV2 (fun k hk => by rcases hk with hk | hk <;> omega), below3 (X1.out.2.2.2.trans (hb2.mono (by omega))) (Nat.le_refl _)⟩, by simp [intOf]; omega⟩
      · have e : i = n := by omega
        subst e
        rw [Nat.sub_self] at hit
        have hit1 := hit.out
        simp only [itL, Option.some.injEq, Prod.mk.injEq] at hit1
        obtain ⟨rfl, rfl, rfl⟩ := hit1
        obtain ⟨⟨m0, m1, m2⟩, g0, g1, g2⟩ := box3 hy
        have X1 := Aside0.mk (And.intro hx (And.intro hy (And.intro hv hB)))
        clear hx hy hv hB hit hR hC hlc
        go_wp2
        refine bodyPost_ret (results_cell_row rfl _ _ (b0 + 1) 40 _ (0, 0) _ rfl (put3 X1.out.2.1) Try.underlying40 rfl (by kernel_rfl)) rfl ?_
        exact ⟨_, rfl, Kd.V_mono (v3 X1.out.2.2.1 (fun k hk => by rcases hk with hk | hk <;> omega)) (fun k hk => by rcases hk with hk | hk; exact .inl hk.1; exact .inr (by omega)), hb0.symm ▸ below3 X1.out.2.2.2 (by omega)⟩
  · rw [if_neg h4] at h1
    simp only [Option.some.injEq, Prod.mk.injEq] at h1
    obtain ⟨rfl, rfl, rfl⟩ := h1
    have Y := Aside0.mk h2
    clear h2
    have hV0 := Kd.V_below hsB (hb0 ▸ N.out.2.2)
    go_enter Try.func17, Try.ntmps17
    go_wp2
    (try simp only [hn])
    go_loopw [11] (fun s wr => ∃ (i : Nat) (a b : Int) (xs : List Int) (A1 : Option Addr) (c1 : Nat), i ≤ n ∧ s = .int .i64 (i : Int) ∧ Aside0 (itL fT (n - i) a b xs = some (r1, r2, r3)) ∧ wr.heap[b0]? = some (.cells #[.int .i64 a, .int .i64 b, .slice A1 xs.length c1] 40 (0, 0)) ∧ wr.heap[b0 + 1]? = some (.cells #[.int .i64 0, .int .i64 0, .slice none 0 0] 40 (0, 0)) ∧ Kd.V (Kd.int .u8) 5 wr b0 (fun k_ => (P k_ ∧ k_ < b0) ∨ b0 + 2 ≤ k_) (.slice A1 xs.length c1) xs ∧ Below b0 w wr)
      (fun s _ => n - (intOf s).toNat)
    case atStart => exact ⟨0, a0, a1, l, A, c, Nat.zero_le _, rfl, Y, N.out.1, N.out.2.1, Kd.V_mono hV0 (fun k hk => .inl ⟨hk.1, by omega⟩), N.out.2.2⟩
    case round =>
      obtain ⟨i, a, b, xs, A1, c1, hi, rfl, hit, hx, hy, hv, hB⟩ := hrel
      obtain ⟨⟨k0, k1, k2⟩, f0, f1, f2⟩ := box3 hx
      have hR := Kd.V_reads' hv
      have hC := hR.2.2
      have hlc := hR.2.1
      have hsz := (Array.getElem?_eq_some_iff.1 hy).1
      by_cases hlt : i < n
      · obtain ⟨d, hd⟩ : ∃ d, n - i = d + 1 := ⟨n - i - 1, by omega⟩
        have hit1 := hit.out
        rw [hd] at hit1
        obtain ⟨q, hq1, hq2⟩ := Option.bind_eq_some_iff.mp hit1
        obtain ⟨p1, p2, p3⟩ := q
        have hd1 : n - (i + 1) = d := by omega
        have hq3 : Aside0 (itL fT (n - (i + 1)) p1 p2 p3 = some (r1, r2, r3)) := Aside0.mk (by rw [hd1]; exact hq2)
        have HC := HT'.out a b A1 c1 xs p1 p2 p3 wr hC hlc hq1
        have X1 := Aside0.mk (And.intro hx (And.intro hy (And.intro hv hB)))
        clear hx hy hv hB hit hit1 hd hd1 hq1 hq2 hR hC hlc d
        go_wp2_with (go_at_call 35; refine HC.mono ?_; rintro e w2 ⟨v2, rfl, hv2, hb2⟩; obtain ⟨A2, c2, rfl, hc2, hC2⟩ := Kd.R_reads hv2; have hx0 := (hb2.block b0 (by omega)).trans X1.out.1; obtain ⟨⟨m0, m1, m2⟩, g0, g1, g2⟩ := box3 hx0)
        have hV2 : Kd.V (Kd.int .u8) 5 w2 b0 (fun k_ => (P k_ ∧ k_ < b0) ∨ b0 + 2 ≤ k_) (.slice A2 p3.length c2) p3 := Kd.V_mono (Kd.R_V (Kd.R_bound hv2)) (fun k hk => .inr (by have := hk.2.1; omega))
        refine ⟨⟨i + 1, p1, p2, p3, A2, c2, by omega, by simp, hq3, put3 hx0, (far3 (by omega)).trans ((hb2.block (b0 + 1) hsz).trans X1.out.2.1), v3 hV2 (fun k hk => by rcases hk with hk | hk <;> omega), below3 (X1.out.2.2.2.trans (hb2.mono (by omega))) (Nat.le_refl _)⟩, by simp [intOf]; omega⟩
      · have e : i = n := by omega
        subst e
        rw [Nat.sub_self] at hit
        have hit1 := hit.out
        simp only [itL, Option.some.injEq, Prod.mk.injEq] at hit1
        obtain ⟨rfl, rfl, rfl⟩ := hit1
        obtain ⟨⟨m0, m1, m2⟩, g0, g1, g2⟩ := box3 hy
        have X1 := Aside0.mk (And.intro hx (And.intro hy (And.intro hv hB)))
        clear hx hy hv hB hit hR hC hlc
        go_wp2
        refine bodyPost_ret (results_cell_row rfl _ _ (b0 + 1) 40 _ (0, 0) _ rfl (put3 X1.out.2.1) Try.underlying40 rfl (by kernel_rfl)) rfl ?_
        exact ⟨_, rfl, Kd.V_mono (v3 X1.out.2.2.1 (fun k hk => by rcases hk with hk | hk <;> omega)) (fun k hk => by rcases hk with hk | hk; exact .inl hk.1; exact .inr (by omega)), hb0.symm ▸ below3 X1.out.2.2.2 (by omega)⟩
end Go.Proofs.YtoojemnocncafaaV
