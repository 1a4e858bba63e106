/- Contract of the laws' markIntSS: a list of lists is marked row by row. -/
import Derived.WalkKit
import Derived.Shelf.Abstract
import Derived.Deep.LoopGhost
import Derived.Deep.CutBlock
import Derived.Lib.Walk
import Derived.Test.YtplifefnjeledaaDoorProg
import Derived.Test.YtplifefnjeledaaDoorWLast
import Derived.Test.YtplifefnjeledaaDoorWMore
import Derived.Test.YtplifefnjeledaaDoorLMarkSS
set_option linter.unusedVariables false
set_option linter.unusedSimpArgs false
namespace Go.Proofs.YtplifefnjeledaaDoorV
open Go.RowKit Go.Proofs.YtplifefnjeledaaDoorW.PrintWords Go.Proofs.YtplifefnjeledaaDoorW.PrintLast Go.Proofs.YtplifefnjeledaaDoorL
abbrev KS : Kd (List Int) := Kd.slice 3 (Kd.int .i64)
set_option maxRecDepth 100000 in
set_option maxHeartbeats 4000000 in
theorem markSS_calls (HMark : ∀ (w0 : World) (P : Nat → Prop) (u : Value) (l : List Int) (a : Nat) (W : World), l.length ≤ 36 → a ≤ 2000 → Below w0.heap.size w0 W → Kd.R (Kd.int .i64) 3 W w0.heap.size P u l →
      Calls Tryd.prog 32 #[u, .int .i64 (a : Int)] W fun e w' => e = .returned (.int .i64 ((a + l.length : Nat) : Int)) ∧ Kd.R (Kd.int .i64) 3 w' w0.heap.size (fun k_ => P k_ ∨ W.heap.size ≤ k_) u (mk a l.length) ∧ Below w0.heap.size w0 w' ∧ Kept W w' P)
    (w0 : World) (v : Value) (rows : List (List Int)) (w : World) (hB : Below w0.heap.size w0 w) (hS : Kd.S KS 38 w w0.heap.size (fun k => w0.heap.size ≤ k) v rows) (hl : rows.length ≤ 36) (hr : ∀ r ∈ rows, r.length ≤ 36) :
    Calls Tryd.prog 15 #[v, .int .i64 1] w fun e w' => e = .returned (.int .i64 ((1 + tot rows rows.length : Nat) : Int)) ∧ Kd.S KS 38 w' w0.heap.size (fun k => w0.heap.size ≤ k) v (mkd 1 rows rows.length) ∧ Below w0.heap.size w0 w' := by
  obtain ⟨A, c, rfl⟩ := Kd.S_slice hS
  have HM := Aside0.mk HMark
  have HR := Aside0.mk hr
  clear HMark hr
  have HS := Aside0.mk hS
  have HB := Aside0.mk hB
  clear hS hB
  obtain ⟨B0, hB0⟩ : ∃ B0, w0.heap.size = B0 := ⟨_, rfl⟩
  go_enter Tryd.func15, Tryd.ntmps15
  go_wp2
  go_loopw [1, 5] (fun s1 s5 wr => ∃ i : Nat, i ≤ rows.length ∧ s5 = .int .i64 (i : Int) ∧ s1 = .int .i64 ((1 + tot rows i : Nat) : Int) ∧ Aside0 (Kd.S KS 38 wr w0.heap.size (fun k => w0.heap.size ≤ k) (.slice A rows.length c) (mkd 1 rows i)) ∧ Aside0 (Below w0.heap.size w0 wr))
    (fun _ s5 _ => rows.length - (intOf s5).toNat)
  case atStart => exact ⟨0, Nat.zero_le _, rfl, rfl, Aside0.mk (by rw [mkd_zero]; exact HS.out), HB⟩
  case round =>
    obtain ⟨i, hi, rfl, rfl, HSr, HBr⟩ := hrel
    by_cases hlt : i < rows.length
    · have hlti : (i : Int) < (rows.length : Int) := by omega
      obtain ⟨g, cap, eA, hg1, hg2, cells, hg3⟩ := Kd.S_form HSr.out (by rw [mkd_len]; omega)
      obtain ⟨rfl, eLen, rfl⟩ := Value.slice.inj eA
      clear eLen
      obtain ⟨oki, cc, hcl, hM, hcc, hoki, hH⟩ := Kd.S_lend HSr.out ([] : List Int) (i : Int) (by omega) hlti
      obtain ⟨vr, rfl, hRr⟩ := hM
      have hcell : wr.cell? ⟨g, i, none⟩ = some vr := by
        have := hcc 0 vr rfl
        rw [Int.toNat_natCast, show i * KS.sz + 0 = i from by show i * 1 + 0 = i; omega] at this
        exact this
      have erow : (mkd 1 rows i).getD (i : Int).toNat [] = rows[i] := by
        rw [Int.toNat_natCast, List.getD_eq_getElem?_getD, List.getElem?_eq_getElem (by rw [mkd_len]; exact hlt), mkd_at hlt, if_neg (Nat.lt_irrefl _)]
        rfl
      rw [erow] at hRr
      have ht := tot_le rows HR.out i
      have hri := HR.out _ (List.getElem_mem hlt)
      have hcall := HM.out w0 oki vr rows[i] (1 + tot rows i) wr hri (by omega) HBr.out hRr
      have hW := Kd.H_widen hH
      have hset := mkd_succ (a := 1) hlt
      have hts := tot_succ hlt
      have HW := Aside0.mk (And.intro hW (And.intro hset (And.intro hts HBr.out.size)))
      clear hW hset hts hH hRr hcc hoki erow hg3 eA hcl ht
      obtain ⟨T, hT⟩ : ∃ T : Nat, 1 + tot rows i = T := ⟨_, rfl⟩
      obtain ⟨ln, hln⟩ : ∃ ln : Nat, rows[i].length = ln := ⟨_, rfl⟩
      rw [hT, hln] at hcall
      rw [hT]
      have HT := Aside0.mk (And.intro hT hln)
      clear hT hln hri
      go_wp2_with (go_at_call 32; (with_reducible refine hcall.mono ?_); rintro e w1 ⟨rfl, hR1, hB1, hK1⟩)
      refine ⟨⟨i + 1, by omega, by simp, ?_, Aside0.mk ?_, Aside0.mk hB1⟩, by simp [intOf]; omega⟩
      · have e : ((1 + tot rows (i + 1) : Nat) : Int) = ((T + ln : Nat) : Int) := by
          rw [HW.out.2.2.1, ← HT.out.1, ← HT.out.2, Nat.add_assoc]
        rw [e]
        first | rfl | simp
      · rw [HW.out.2.1, HT.out.1, HT.out.2]
        have hH2 := Kd.H_kept HW.out.1 hK1 (fun k _ hn hs => hn (.inl hs))
        have := Kd.H_back (okp := fun k_ => oki k_ ∨ wr.heap.size ≤ k_) hH2 (x' := mk T ln) ⟨vr, rfl, hR1⟩ (fun k hk => hk.imp id (fun h => ⟨Nat.le_trans HW.out.2.2.2 h, h⟩))
        rw [Int.toNat_natCast] at this
        exact this
    · have e : i = rows.length := by omega
      subst e
      go_wp2
      go_ret
      exact ⟨rfl, HSr.out, HBr.out⟩
end Go.Proofs.YtplifefnjeledaaDoorV
