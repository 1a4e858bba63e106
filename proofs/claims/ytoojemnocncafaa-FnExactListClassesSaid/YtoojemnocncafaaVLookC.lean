/- The method look of the reference's search over trays: its contract. -/
import Derived.Test.YtoojemnocncafaaVLook
set_option linter.unusedVariables false
set_option linter.unusedSimpArgs false
namespace Go.Proofs.YtoojemnocncafaaV
open Go.RowKit Go.Proofs.YtoojemnocncafaaW.PrintWords Go.Proofs.YtoojemnocncafaaW.PrintLast
namespace LK
open RB
open FL (u8s lt_of cells_of)
/-- What look lists below a row of cells that has begun. -/
def found (leaf : List Int → List ByteArray) : Nat → List Int → Nat → Nat → List ByteArray
  | 0, l, a, b => if a + b = 0 then leaf l else []
  | d + 1, l, a, b => if d + 1 < a + b then [] else (if 0 < a then found leaf d (l ++ [35]) (a - 1) b else []) ++ (found leaf d (l ++ [46]) a b ++ (if 0 < b then found leaf d (l ++ [111]) a (b - 1) else []))
theorem u8s_app (a b : List Int) : u8s (a ++ b) = u8s a ++ u8s b := by simp [encs]
theorem SS.cell_push {gs : Nat} {x y b : Int} {w0 W W1 W' : World} {Vc Vf V2 : Value} {l : List Int} {L : List ByteArray} (h : SS gs x y w0 W Vc Vf l L) (ho : W1.ownsRow w0.heap.size 5 1 V2 (l.length + 1) (u8s l ++ [.int .u8 b])) (hg : W.grownBy W1 Vc.ownBlock) (hW' : W' = W1.setCell ⟨gs, 2, none⟩ V2) :
    SS gs x y w0 W' V2 Vf (l ++ [b]) L := by
  subst hW'
  have hgs : some gs ≠ Vc.ownBlock := FL.ne_own h.oc h.cs (by decide)
  have hcs1 : W1.heap[gs]? = some (.cells #[.int .i64 x, .int .i64 y, Vc, Vf] 34 (0, 0)) := (hg.block _ (lt_of h.cs) hgs).trans h.cs
  refine ⟨blk_put hcs1 2 V2 rfl, ?_, own_move h.of (fun k hk => ?_), ?_, h.lo⟩
  · rw [u8s_app, List.length_append, List.length_singleton]
    exact own_move ho (fun k hk => Below.heap_setCell W1 ⟨gs, 2, none⟩ V2 k (ne_row ho hcs1 (by decide) k hk))
  · have h1 : k ≠ gs := ne_row h.of h.cs (by decide) k hk
    exact (Below.heap_setCell W1 ⟨gs, 2, none⟩ V2 k h1).trans (hg.block k (own_lt h.of k hk) (fun e => by
      obtain ⟨c1, hc1⟩ := own_typed h.of k hk
      exact FL.ne_own h.oc hc1 (by decide) e))
  · refine (h.below.trans ⟨hg.os, hg.tape, hg.output, hg.size, fun k hk => hg.block k (Nat.lt_of_lt_of_le hk h.below.size) (fun e => ?_)⟩).setCell (p := ⟨gs, 2, none⟩) h.lo V2
    have := own_base h.oc k e.symm
    omega
theorem SS.trunc {gs c m : Nat} {x y b : Int} {w0 W W' : World} {Vf : Value} {A : Option Addr} {l : List Int} {L : List ByteArray} (h : SS gs x y w0 W (.slice A m c) Vf (l ++ [b]) L) (hW' : W' = W.setCell ⟨gs, 2, none⟩ (.slice A l.length c)) : SS gs x y w0 W' (.slice A l.length c) Vf l L := by
  subst hW'
  have hsame : ∀ k, k ≠ gs → (W.setCell ⟨gs, 2, none⟩ (.slice A l.length c)).heap[k]? = W.heap[k]? := fun k hk => Below.heap_setCell W ⟨gs, 2, none⟩ _ k hk
  refine ⟨blk_put h.cs 2 _ rfl, ?_, own_move h.of (fun k hk => hsame k (ne_row h.of h.cs (by decide) k hk)), h.below.setCell (p := ⟨gs, 2, none⟩) h.lo _, h.lo⟩
  have ho := h.oc
  rw [u8s_app, List.length_append, List.length_singleton] at ho
  have hl : (u8s l).length = l.length := by simp [encs]
  rcases ho.2 with ⟨hv, _⟩ | ⟨g, cap, cur, hv, h1, h2, h3, h4, h5, h6⟩
  · injection hv with e1 e2
    have := ho.1
    simp at this
    rcases ho.2 with ⟨_, h0⟩ | ⟨g, cap, cur, hv2, _⟩
    · omega
    · injection hv2 with e3
      rw [e1] at e3
      cases e3
  · injection hv with e1 e2 e3
    subst e1 e3
    have hg : g ≠ gs := by
      rintro rfl
      rw [h.cs] at h2
      simp only [Option.some.injEq, Obj.cells.injEq] at h2
      exact absurd h2.2.1 (by decide)
    refine ⟨by rw [hl, Nat.mul_one], .inr ⟨g, c, cur, rfl, h1, (hsame g hg).trans h2, by omega, h4, h5, ?_⟩⟩
    have e := congrArg (List.take l.length) h6
    rw [List.take_take, List.take_append_of_le_length (by rw [hl]; exact Nat.le_refl _), ← hl, List.take_length] at e
    rw [Nat.mul_one, ← hl]
    rw [show min (u8s l).length (((u8s l).length + 1) * 1) = (u8s l).length by omega] at e
    exact e
set_option maxRecDepth 100000 in
set_option maxHeartbeats 8000000 in
theorem look_calls {gs n : Nat} {x y : Int} {tx : List Int → ByteArray} {fit : Nat → Bool} {tp : Nat → Nat → Nat} {Good : List Int → Prop} (K0 : Con n x y tx fit tp Good) (w0 : World) : ∀ (d : Nat) (l : List Int) (a b : Nat) (W : World) (Vc Vf : Value) (L : List ByteArray),
    l.length + d = n → a ≤ 36 → b ≤ 36 → Good l → SS gs x y w0 W Vc Vf l L → L.length + (found (leafF n tx fit tp) d l a b).length ≤ 1000000 →
    Calls Try.prog 12 #[.pointer (some ⟨gs, 0, none⟩), .int .i64 (a : Int), .int .i64 (b : Int)] W fun e W' => e = .returned (.tuple #[]) ∧ ∃ Vc' Vf', SS gs x y w0 W' Vc' Vf' l (L ++ found (leafF n tx fit tp) d l a b) := by
    intro d
    induction d using Nat.strongRecOn with
    | ind d IH0 =>
    intro l a b W Vc Vf L hd ha36 hb36 hgd hS hL
    by_cases hz : d = 0 ∧ a + b = 0
    · obtain ⟨rfl, hab⟩ := hz
      obtain ⟨rfl, rfl⟩ : a = 0 ∧ b = 0 := by omega
      refine (leaf_calls K0 l w0 W Vc Vf L (by omega) hgd hS (by omega)).mono ?_
      rintro e W' ⟨rfl, Vf', h⟩
      exact ⟨rfl, Vc, Vf', h⟩
    · obtain ⟨Ac, cc, rfl⟩ := own_slice hS.oc
      obtain ⟨Af, cf, rfl⟩ := own_slice hS.of
      have hsm := K0.small
      have hsz : x * y = ((l.length + d : Nat) : Int) := by rw [K0.size, hd]
      have hpos := K0.pos
      have q0 : W.cell? ⟨gs, 0, none⟩ = some (.int .i64 x) := (blk_cell hS.cs 0).trans rfl
      have q1 : W.cell? ⟨gs, 1, none⟩ = some (.int .i64 y) := (blk_cell hS.cs 1).trans rfl
      have q2 : W.cell? ⟨gs, 2, none⟩ = some (.slice Ac l.length cc) := (blk_cell hS.cs 2).trans rfl
      have lg := lt_of hS.cs
      have hn36 : l.length + d ≤ 36 := by omega
      have IH := Aside0.mk IH0
      have K := Aside0.mk K0
      have G := Aside0.mk (And.intro hd (And.intro hgd (And.intro hS (And.intro hL hz))))
      clear K0 hgd hS hL hz hd hsm IH0
      go_enter Try.func12, Try.ntmps12
      go_wp2_with fail
      refine R0_region rfl R0.tab (by intro c a d v w z; exact z) rfl rfl rfl rfl rfl rfl rfl rfl rfl rfl rfl rfl rfl rfl rfl rfl rfl rfl rfl rfl rfl rfl rfl rfl rfl rfl rfl rfl rfl rfl rfl rfl rfl rfl rfl rfl rfl rfl rfl rfl rfl rfl rfl rfl rfl rfl rfl rfl rfl rfl rfl rfl rfl rfl rfl rfl rfl rfl rfl rfl rfl rfl rfl rfl (left := d) lg q0 q1 q2 hsz (by rw [hsz]; unfold wrap64; omega) rfl (by omega) (fun W1 hB1 => ?_) rfl
      have X := Aside0.mk (G.out.2.2.1.to hB1)
      clear hB1 q0 q1 q2 lg
      by_cases hov : d < a + b
      · have hg1 : decide ((a : Int) + (b : Int) > (d : Int)) = true := decide_eq_true (by omega)
        go_wp2_with fail
        refine bodyPost_ret (results_none rfl _ _ _) rfl ?_
        refine ⟨rfl, .slice Ac l.length cc, .slice Af L.length cf, ?_⟩
        have e : found (leafF n tx fit tp) d l a b = [] := by
          cases d with
          | zero => unfold found; rw [if_neg (by omega)]
          | succ d => unfold found; rw [if_pos hov]
        rw [e, List.append_nil]
        exact X.out
      · have hg1 : decide ((a : Int) + (b : Int) > (d : Int)) = false := decide_eq_false (by omega)
        have hd0 : ¬ d = 0 := fun e => G.out.2.2.2.2 ⟨e, by omega⟩
        obtain ⟨d1, rfl⟩ : ∃ d1, d = d1 + 1 := ⟨d - 1, by omega⟩
        have hg2 : decide (((d1 + 1 : Nat) : Int) = 0) = false := decide_eq_false (by omega)
        have hEq : found (leafF n tx fit tp) (d1 + 1) l a b = (if 0 < a then found (leafF n tx fit tp) d1 (l ++ [35]) (a - 1) b else []) ++ (found (leafF n tx fit tp) d1 (l ++ [46]) a b ++ (if 0 < b then found (leafF n tx fit tp) d1 (l ++ [111]) a (b - 1) else [])) := by
          rw [found, if_neg hov]
        have hLe := G.out.2.2.2.1
        rw [hEq] at hLe
        simp only [List.length_append] at hLe
        have q2 : W1.cell? ⟨gs, 2, none⟩ = some (.slice Ac l.length cc) := (blk_cell X.out.cs 2).trans rfl
        go_upto_if 127 with fail
        go_cut [] from 15 (fun wc => ∃ Vc1 Vf1, Aside0 (SS gs x y w0 wc Vc1 Vf1 l (L ++ (if 0 < a then found (leafF n tx fit tp) d1 (l ++ [35]) (a - 1) b else []))))
        case first =>
          by_cases ha : 0 < a
          · obtain ⟨m, rfl⟩ : ∃ m, a = m + 1 := ⟨a - 1, by omega⟩
            have hgt : decide (((m + 1 : Nat) : Int) > 0) = true := decide_eq_true (by omega)
            obtain ⟨i0, hi0, hz0, hz1, hz2⟩ := info_parts FL.infoU
            have hS9 := X.out.to (below_alloc (Below.refl _ W1) (.cells #[.int .u8 35] 5 (0, 0)))
            have q2 : W1.cell? ⟨gs, 2, none⟩ = some (.slice Ac l.length cc) := (blk_cell X.out.cs 2).trans rfl
            have hown9 := hS9.oc
            have hge9 := hS9.below.size
            have hgs9 : some gs ≠ (Value.slice Ac l.length cc).ownBlock := FL.ne_own hS9.oc hS9.cs (by decide)
            have hcs9 := hS9.cs
            have hln : L.length + (found (leafF n tx fit tp) d1 (l ++ [35]) m b).length ≤ 1000000 := by
              rw [if_pos ha, show m + 1 - 1 = m by omega] at hLe
              omega
            have hsn := K.out.snoc l 35 (by omega) G.out.2.1
            have Z := Aside0.mk (And.intro hS9 (And.intro hln hsn))
            clear hS9 hln hsn
            go_wp2_with (first | (at_builtin; refine wpList_append_keep _ rfl _ _ _ rfl w0.heap.size 5 i0 _ 1 1 Try.underlying32 hi0 hz0 hz1 hz2 rfl (by omega) (.slice Ac l.length cc) l.length (u8s l) rfl hown9 ⟨W1.heap.size, 0, none⟩ 1 1 [.int .u8 35] rfl rfl (cells_of (Go.MapKept.heap_alloc W1 (.cells #[.int .u8 35] 5 (0, 0))).1) (by simp [Value.oneCell']) (by omega) (by simp only [maxLen]; omega) (by omega) hge9 ?_; intro V2 w6 hown6 hg6 hat6 hold6; obtain ⟨A2, c2, rfl⟩ := own_slice hown6; have hcs6 := (hg6.block _ (lt_of hcs9) hgs9).trans hcs9; have c26 : w6.cell? ⟨gs, 2, none⟩ = some (.slice Ac l.length cc) := (blk_cell hcs6 2).trans rfl; have f26 := blk_frozen hcs6 2; have AT := Aside0.mk (And.intro hown6 hg6); clear q2 hown6 hg6 hat6 hold6 hown9 hcs6 hcs9) | (go_at_call 12; clear c26 f26; refine (IH.out d1 (by omega) (l ++ [35]) m b _ _ _ (L) (by rw [List.length_append, List.length_singleton]; have := G.out.1; omega) (by omega) (by omega) Z.out.2.2 (Z.out.1.cell_push AT.out.1 AT.out.2 rfl) Z.out.2.1).mono ?_; rintro e w8 ⟨rfl, Vc3, Vf3, hS3⟩; obtain ⟨A3, c3, rfl⟩ := own_slice hS3.oc; have h3le : l.length + 1 ≤ c3 := (by have := (C_of_own hS3.oc).2.1; rw [List.length_append, List.length_singleton] at this; exact this); have q23 : w8.cell? ⟨gs, 2, none⟩ = some (.slice A3 (l ++ [35]).length c3) := (blk_cell hS3.cs 2).trans rfl; have f23 := blk_frozen hS3.cs 2; have S3 := Aside0.mk hS3; clear hS3))
            go_meet
            case rel => exact ⟨_, _, Aside0.mk (by rw [if_pos ha, show m + 1 - 1 = m by omega]; exact S3.out.trunc rfl)⟩
          · have e : a = 0 := by omega
            subst e
            go_wp2_with fail
            go_meet
            case rel => exact ⟨_, _, Aside0.mk (by rw [if_neg ha, List.append_nil]; exact X.out)⟩
        case rest =>
          obtain ⟨Vc1, Vf1, hS1⟩ := hcut
          clear q2 X
          obtain ⟨Ac1, cc1, rfl⟩ := own_slice hS1.out.oc
          obtain ⟨Af1, cf1, rfl⟩ := own_slice hS1.out.of
          obtain ⟨i0, hi0, hz0, hz1, hz2⟩ := info_parts FL.infoU
          have hS9 := hS1.out.to (below_alloc (Below.refl _ wc) (.cells #[.int .u8 46] 5 (0, 0)))
          have q2 : wc.cell? ⟨gs, 2, none⟩ = some (.slice Ac1 l.length cc1) := (blk_cell hS1.out.cs 2).trans rfl
          have hown9 := hS9.oc
          have hge9 := hS9.below.size
          have hgs9 : some gs ≠ (Value.slice Ac1 l.length cc1).ownBlock := FL.ne_own hS9.oc hS9.cs (by decide)
          have hcs9 := hS9.cs
          have hln : (L ++ (if 0 < a then found (leafF n tx fit tp) d1 (l ++ [35]) (a - 1) b else [])).length + (found (leafF n tx fit tp) d1 (l ++ [46]) a b).length ≤ 1000000 := by
            rw [List.length_append]
            omega
          have hsn := K.out.snoc l 46 (by omega) G.out.2.1
          have Z := Aside0.mk (And.intro hS9 (And.intro hln hsn))
          clear hS9 hln hsn
          go_upto_if 174 with (first | (at_builtin; refine wpList_append_keep _ rfl _ _ _ rfl w0.heap.size 5 i0 _ 1 1 Try.underlying32 hi0 hz0 hz1 hz2 rfl (by omega) (.slice Ac1 l.length cc1) l.length (u8s l) rfl hown9 ⟨wc.heap.size, 0, none⟩ 1 1 [.int .u8 46] rfl rfl (cells_of (Go.MapKept.heap_alloc wc (.cells #[.int .u8 46] 5 (0, 0))).1) (by simp [Value.oneCell']) (by omega) (by simp only [maxLen]; omega) (by omega) hge9 ?_; intro V2 w6 hown6 hg6 hat6 hold6; obtain ⟨A2, c2, rfl⟩ := own_slice hown6; have hcs6 := (hg6.block _ (lt_of hcs9) hgs9).trans hcs9; have c26 : w6.cell? ⟨gs, 2, none⟩ = some (.slice Ac1 l.length cc1) := (blk_cell hcs6 2).trans rfl; have f26 := blk_frozen hcs6 2; have AT := Aside0.mk (And.intro hown6 hg6); clear q2 hown6 hg6 hat6 hold6 hown9 hcs6 hcs9) | (go_at_call 12; clear c26 f26; refine (IH.out d1 (by omega) (l ++ [46]) a b _ _ _ (L ++ (if 0 < a then found (leafF n tx fit tp) d1 (l ++ [35]) (a - 1) b else [])) (by rw [List.length_append, List.length_singleton]; have := G.out.1; omega) (by omega) (by omega) Z.out.2.2 (Z.out.1.cell_push AT.out.1 AT.out.2 rfl) Z.out.2.1).mono ?_; rintro e w8 ⟨rfl, Vc3, Vf3, hS3⟩; obtain ⟨A3, c3, rfl⟩ := own_slice hS3.oc; have h3le : l.length + 1 ≤ c3 := (by have := (C_of_own hS3.oc).2.1; rw [List.length_append, List.length_singleton] at this; exact this); have q23 : w8.cell? ⟨gs, 2, none⟩ = some (.slice A3 (l ++ [46]).length c3) := (blk_cell hS3.cs 2).trans rfl; have f23 := blk_frozen hS3.cs 2; have S3 := Aside0.mk hS3; clear hS3))
          have hS2 : SS gs x y w0 (w8.setCell ⟨gs, 2, none⟩ (.slice A3 l.length c3)) (.slice A3 l.length c3) Vf3 l (L ++ (if 0 < a then found (leafF n tx fit tp) d1 (l ++ [35]) (a - 1) b else []) ++ found (leafF n tx fit tp) d1 (l ++ [46]) a b) := S3.out.trunc rfl
          obtain ⟨wE, hwE⟩ : ∃ wE, w8.setCell ⟨gs, 2, none⟩ (.slice A3 l.length c3) = wE := ⟨_, rfl⟩
          rw [hwE] at hS2 ⊢
          have X2 := Aside0.mk hS2
          clear hS2 hwE q23 f23 S3 Z AT hi0 hz0 hz1 hz2 hge9 hgs9 hS1
          by_cases hb : 0 < b
          · obtain ⟨m, rfl⟩ : ∃ m, b = m + 1 := ⟨b - 1, by omega⟩
            have hgt : decide (((m + 1 : Nat) : Int) > 0) = true := decide_eq_true (by omega)
            obtain ⟨Af3, cf3, rfl⟩ := own_slice X2.out.of
            obtain ⟨i0, hi0, hz0, hz1, hz2⟩ := info_parts FL.infoU
            have hS9 := X2.out.to (below_alloc (Below.refl _ wE) (.cells #[.int .u8 111] 5 (0, 0)))
            have q2 : wE.cell? ⟨gs, 2, none⟩ = some (.slice A3 l.length c3) := (blk_cell X2.out.cs 2).trans rfl
            have hown9 := hS9.oc
            have hge9 := hS9.below.size
            have hgs9 : some gs ≠ (Value.slice A3 l.length c3).ownBlock := FL.ne_own hS9.oc hS9.cs (by decide)
            have hcs9 := hS9.cs
            have hln : (L ++ (if 0 < a then found (leafF n tx fit tp) d1 (l ++ [35]) (a - 1) (m + 1) else []) ++ found (leafF n tx fit tp) d1 (l ++ [46]) a (m + 1)).length + (found (leafF n tx fit tp) d1 (l ++ [111]) a m).length ≤ 1000000 := by
              rw [if_pos hb, show m + 1 - 1 = m by omega] at hLe
              rw [List.length_append, List.length_append]
              omega
            have hsn := K.out.snoc l 111 (by omega) G.out.2.1
            have Z := Aside0.mk (And.intro hS9 (And.intro hln hsn))
            clear hS9 hln hsn
            go_wp2_with (first | (at_builtin; refine wpList_append_keep _ rfl _ _ _ rfl w0.heap.size 5 i0 _ 1 1 Try.underlying32 hi0 hz0 hz1 hz2 rfl (by omega) (.slice A3 l.length c3) l.length (u8s l) rfl hown9 ⟨wE.heap.size, 0, none⟩ 1 1 [.int .u8 111] rfl rfl (cells_of (Go.MapKept.heap_alloc wE (.cells #[.int .u8 111] 5 (0, 0))).1) (by simp [Value.oneCell']) (by omega) (by simp only [maxLen]; omega) (by omega) hge9 ?_; intro V2 w6 hown6 hg6 hat6 hold6; obtain ⟨A2, c2, rfl⟩ := own_slice hown6; have hcs6 := (hg6.block _ (lt_of hcs9) hgs9).trans hcs9; have c26 : w6.cell? ⟨gs, 2, none⟩ = some (.slice A3 l.length c3) := (blk_cell hcs6 2).trans rfl; have f26 := blk_frozen hcs6 2; have AT := Aside0.mk (And.intro hown6 hg6); clear q2 hown6 hg6 hat6 hold6 hown9 hcs6 hcs9) | (go_at_call 12; clear c26 f26; refine (IH.out d1 (by omega) (l ++ [111]) a m _ _ _ (L ++ (if 0 < a then found (leafF n tx fit tp) d1 (l ++ [35]) (a - 1) (m + 1) else []) ++ found (leafF n tx fit tp) d1 (l ++ [46]) a (m + 1)) (by rw [List.length_append, List.length_singleton]; have := G.out.1; omega) (by omega) (by omega) Z.out.2.2 (Z.out.1.cell_push AT.out.1 AT.out.2 rfl) Z.out.2.1).mono ?_; rintro e w8 ⟨rfl, Vc5, Vf5, hS5⟩; obtain ⟨A5, c5, rfl⟩ := own_slice hS5.oc; have h3le : l.length + 1 ≤ c5 := (by have := (C_of_own hS5.oc).2.1; rw [List.length_append, List.length_singleton] at this; exact this); have q23 : w8.cell? ⟨gs, 2, none⟩ = some (.slice A5 (l ++ [111]).length c5) := (blk_cell hS5.cs 2).trans rfl; have f23 := blk_frozen hS5.cs 2; have S5 := Aside0.mk hS5; clear hS5))
            refine bodyPost_end (results_none rfl _ _ _) rfl ?_
            refine ⟨rfl, .slice A5 l.length c5, Vf5, ?_⟩
            rw [hEq, if_pos hb, show m + 1 - 1 = m by omega, ← List.append_assoc, ← List.append_assoc]
            exact S5.out.trunc rfl
          · have e : b = 0 := by omega
            subst e
            go_wp2_with fail
            refine bodyPost_end (results_none rfl _ _ _) rfl ?_
            refine ⟨rfl, .slice A3 l.length c3, Vf3, ?_⟩
            rw [hEq, if_neg hb, List.append_nil, ← List.append_assoc]
            exact X2.out
end LK
end Go.Proofs.YtoojemnocncafaaV
