/- Contract of the program's method (Board).search. -/
import Derived.WalkKit
import Derived.Deep.CutBlock
import Derived.Deep.LoopGhost
import Derived.Lib.SlBytesConst
import Derived.Test.YtmplgijnmjdogaaDoorVSearchR
import Derived.Test.YtmplgijnmjdogaaDoorVMem
set_option linter.unusedVariables false
set_option linter.unusedSimpArgs false
namespace Go.Proofs.YtmplgijnmjdogaaDoorV
open Go.RowKit Go.Proofs.YtmplgijnmjdogaaDoorW.PrintWords Go.Proofs.YtmplgijnmjdogaaDoorW.PrintLast Go.Maps Go.ChangeMaps Go.MapKept
namespace SE
open RB
attribute [local go_sem ↓] Go.wp_at_zero Go.wp_at_succ
theorem St.withSide {o : Option Nat} {a : Int} {n₀ bm : Nat} {w0 W : World} {VL VW : Value} {s : List Ent} {ks : List ByteArray} {D : Option Nat} (h : St o a n₀ w0 W VL VW bm s ks D) {g : Nat} (hg : W.heap[g]? = some dirsO) : St o a n₀ w0 W VL VW bm s ks (some g) :=
  ⟨h.row, h.words, h.seen, h.lo, h.base, h.below, h.size, fun k hk => by obtain rfl := Option.some.inj hk; exact hg⟩
theorem zero_bool (w : World) : (zeroValue 4).run Tryd.prog w = .ok (.bool false) w := by kernel_rfl
theorem words_form {W : World} {n₀ i : Nat} {VW : Value} {s : List Ent} {e : Ent} (h : W.ownsRow n₀ 9 1 VW s.length (s.map fun e => Value.string e.2.1)) (hi : s[i]? = some e) : ∃ gw cw, VW = .slice (some ⟨gw, 0, none⟩) s.length cw ∧ n₀ ≤ gw := by
  have hj := (List.getElem?_eq_some_iff.1 hi).1
  rcases h.2 with ⟨_, h0⟩ | ⟨g, cap, cur, rfl, hb, _⟩
  · omega
  · exact ⟨g, cap, rfl, hb⟩
theorem words_cell {W : World} {n₀ i gw cw : Nat} {s : List Ent} {e : Ent} (h : W.ownsRow n₀ 9 1 (.slice (some ⟨gw, 0, none⟩) s.length cw) s.length (s.map fun e => Value.string e.2.1)) (hi : s[i]? = some e) : W.cell? ⟨gw, i, none⟩ = some (.string e.2.1) := by
  have := h.cells (g := gw) rfl i (.string e.2.1) (by rw [List.getElem?_map, hi]; rfl)
  rwa [add0] at this
theorem dir_at {W : World} {g : Nat} (hg : W.heap[g]? = some dirsO) (j : Nat) (hj : j < 4) : ∃ d : UInt8, dirsI.drop j = (d.toNat : Int) :: dirsI.drop (j + 1) ∧ W.cell? ⟨g, j, none⟩ = some (.int .u8 (d.toNat : Int)) := by
  match j, hj with
  | 0, _ => exact ⟨117, rfl, by simp [World.cell?, hg]⟩
  | 1, _ => exact ⟨114, rfl, by simp [World.cell?, hg]⟩
  | 2, _ => exact ⟨100, rfl, by simp [World.cell?, hg]⟩
  | 3, _ => exact ⟨108, rfl, by simp [World.cell?, hg]⟩
set_option maxRecDepth 100000 in
set_option maxHeartbeats 8000000 in
theorem search_calls (o : Option Nat) (a : Int) (mv : Mv) (tx : List Int → Option ByteArray) (HM : MvC Tryd.prog 52 a mv) (HT : TxC Tryd.prog 51 a tx)
    (f : Nat) (A : Option Addr) (c : Nat) (l : List Int) (w : World) (hR : Kd.C (Kd.int .i64) w A l.length l) (hc : l.length ≤ c) (hlo : ∀ nb, o = some nb → nb ≤ w.heap.size) (hE : El o w (fun k => k < w.heap.size) (.slice A l.length c) l) (res : List Ent) (h : srch mv tx a f l = some res) (hl : res.length ≤ 1000000) :
    Calls Tryd.prog 25 #[.agg #[.int .i64 a, .slice A l.length c]] w fun e w' => ∃ VL VW bm, e = .returned (.tuple #[VL, VW]) ∧ St o a w.heap.size w w' VL VW bm res (res.map fun e => e.2.2) none := by
  obtain ⟨t0, ht, h⟩ := Option.bind_eq_some_iff.1 h
  by_cases hts : t0.size ≤ 1000000
  · rw [if_pos hts] at h
    have HM' := Aside0.mk HM
    have HT' := Aside0.mk HT
    have HS := Aside0.mk (And.intro hR (And.intro hc (And.intro h (And.intro hl (And.intro ht hts)))))
    clear HM HT hR hc h hl ht hts
    go_enter Tryd.func25, Tryd.ntmps25
    go_wp2_with ((with_reducible refine gate_dst (N := 1) rfl ?_); refine box_event ?hg (N := 1) ?hd (cs := #[.int .i64 a, .slice A l.length c]) (t := 28) ?hr ?_; (case hd => rfl); (case hg => rfl); (case hr => first | (go_simp; done) | (go_simp; rfl)); intro gb hgb w1 hbox hb1)
    subst hgb
    refine R1_region rfl R1.tab (by intro c a d v w z; exact z) rfl rfl rfl rfl rfl rfl rfl rfl rfl rfl rfl rfl rfl rfl rfl rfl rfl rfl rfl rfl rfl rfl rfl rfl rfl rfl rfl rfl rfl rfl rfl rfl rfl rfl rfl rfl rfl rfl rfl rfl rfl rfl rfl rfl HS.out.1 hlo hE HS.out.2.1 HS.out.2.2.2.2.1 HS.out.2.2.2.2.2 HT'.out (fun VL VW bm W' hSt => ?_) rfl w1 hbox hb1
    go_wp2_with fail
    go_loopg [4, 5, 7] f (fun g s4 s5 s7 wr => ∃ (i : Nat) (s : List Ent) (VL VW : Value), s4 = VL ∧ s5 = VW ∧ s7 = .int .i64 (i : Int) ∧ Aside0 (loopF mv tx a g i s = some res) ∧ i ≤ s.length ∧ 0 < s.length ∧ Aside0 (St o a w.heap.size w wr VL VW bm s (s.map fun e => e.2.2) none))
    case atStart => exact ⟨0, _, VL, VW, rfl, rfl, rfl, Aside0.mk HS.out.2.2.1, Nat.zero_le _, by simp, Aside0.mk hSt⟩
    case round =>
      obtain ⟨i, s, VL, VW, rfl, rfl, rfl, hf, hi, hs0, hst⟩ := hrel
      clear hSt hbox hb1
      obtain ⟨wo, rfl⟩ : ∃ wo : World, wo = wr := ⟨_, rfl⟩
      cases gk with
      | zero => exact absurd hf.out (by simp [loopF])
      | succ g =>
        have hlen := len_le (loopF_pre hf.out)
        have hl6 := HS.out.2.2.2.1
        by_cases hlt : i < s.length
        · obtain ⟨e, he⟩ : ∃ e, s[i]? = some e := ⟨_, List.getElem?_eq_getElem hlt⟩
          have h1 := hf.out
          rw [loopF, he] at h1
          obtain ⟨s1, h2, h3⟩ := Option.bind_eq_some_iff.1 h1
          have H2 := Aside0.mk h2
          have H3 := Aside0.mk h3
          have HE := Aside0.mk he
          clear h1 h2 h3 hf
          obtain ⟨gL, cL, A0, cc0, rfl, hcL, hgL, hnL, _⟩ := hst.out.row.get (sz := 2) (fun _ _ => rfl) he
          clear he
          have hcv := Lib.run_convert_bytes_const (P := Tryd.prog) wo 69 5 #[.int .u8 117, .int .u8 114, .int .u8 100, .int .u8 108] 4 4 Tryd.underlying69 Tryd.underlying5
          have hst2 := (hst.out.to ((Below.refl _ wo).alloc (Nat.le_refl _) dirsO)).withSide (Go.MapKept.heap_alloc wo dirsO).1
          have HST := Aside0.mk hst2
          clear hst2 hst
          go_wp2_with fail
          go_loopw [4, 5, 28] (fun s4 s5 s28 wi => ∃ (j : Nat) (s' : List Ent) (VL' VW' : Value), s4 = VL' ∧ s5 = VW' ∧ s28 = .int .i64 (j : Int) ∧ j ≤ 4 ∧ Aside0 (lks mv tx a e (dirsI.drop j) s' = some s1) ∧ Aside0 (s'[i]? = some e) ∧ s.length ≤ s'.length ∧ Aside0 (St o a w.heap.size w wi VL' VW' bm s' (s'.map fun e => e.2.2) (some wo.heap.size)))
            (fun _ _ s28 _ => 4 - (intOf s28).toNat)
          case atStart => exact ⟨0, s, _, _, rfl, rfl, rfl, by omega, H2, HE, Nat.le_refl _, Aside0.mk HST.out⟩
          case round =>
            clear HST H2 hcv
            obtain ⟨j, s', VL', VW', rfl, rfl, rfl, hj, hk, he', hle, hst⟩ := hrel
            by_cases hj4 : j < 4
            · obtain ⟨d, hd1, hd2⟩ := dir_at (hst.out.side _ rfl) j hj4
              have h1 := hk.out
              rw [hd1] at h1
              obtain ⟨s2, hlk, h3⟩ := Option.bind_eq_some_iff.1 h1
              have hlen2 := Nat.le_trans (len_le (lks_pre h3)) (len_le (loopF_pre H3.out))
              obtain ⟨⟨r1, r2, r3⟩, hm, h2⟩ := Option.bind_eq_some_iff.1 hlk
              dsimp only at h2
              clear hlk h1 hk
              obtain ⟨gL', cL', A', cc', rfl, hcL', hgL', hnL', hcells, hcc', hC', hIV', cur', hcur'⟩ := hst.out.row.get (sz := 2) (fun _ _ => rfl) he'.out
              have m0 : wr.cell? ⟨gL', i * 2, none⟩ = some (.int .i64 a) := hcells 0 _ rfl
              have m1 : wr.cell? ⟨gL', i * 2 + 1, none⟩ = some (.slice A' e.1.length cc') := hcells 1 _ rfl
              have hii := (List.getElem?_eq_some_iff.1 he'.out).1
              cases r3 with
              | false => 
                rw [if_neg (by decide)] at h2
                obtain rfl := Option.some.inj h2
                have X := Aside0.mk (And.intro h3 (And.intro hlen2 hst.out))
                have HA := HM'.out e.1 (d.toNat : Int) r1 r2 false A' cc' wr hC' hcc' hm
                clear h2 h3 hcells hcur' hst hm
                go_wp2_with (go_at_call 52; refine HA.mono ?_; rintro e2 w2 ⟨v1, rfl, hv1, hb2⟩; obtain ⟨A3, c3, rfl⟩ := Kd.R_slice hv1)
                go_roundw
                case rel => exact ⟨j + 1, s', _, _, rfl, rfl, by simp, by omega, Aside0.mk X.out.1, he', hle, Aside0.mk (X.out.2.2.to (hb2.alloc hb2.size _))⟩
                case measure => simp [intOf]; omega
              | true =>
                rw [if_pos rfl] at h2
                by_cases hr1 : r1 = a
                · rw [if_pos hr1] at h2
                  subst hr1
                  obtain ⟨t, ht, h2⟩ := Option.bind_eq_some_iff.1 h2
                  by_cases hts : t.size ≤ 1000000
                  · rw [if_pos hts] at h2
                    have HA := HM'.out e.1 (d.toNat : Int) r1 r2 true A' cc' wr hC' hcc' hm
                    have X := Aside0.mk (And.intro h3 (And.intro hlen2 (And.intro hst.out (And.intro ht hts))))
                    have Y := Aside0.mk h2
                    clear h2 h3 hcells hcur' hst hm ht
                    have hbits := X.out.2.2.1
                    cases hb : hasB (s'.map fun e => e.2.2) t with
                    | true =>
                      have hY := Y.out
                      rw [hb, if_pos rfl] at hY
                      obtain rfl := Option.some.inj hY
                      clear hY Y
                      go_wp2_with (first | (go_at_call 52; refine HA.mono ?_; rintro e2 w2 ⟨v1, rfl, hv1, hb2⟩; obtain ⟨A3, c3, rfl⟩ := Kd.R_slice hv1; have hB3 := hb2.alloc hb2.size (.cells #[.int .i64 r1, .slice A3 r2.length c3] 28 (0, 0)); have hx3 := (Go.MapKept.heap_alloc w2 (.cells #[.int .i64 r1, .slice A3 r2.length c3] 28 (0, 0))).1; have hR3 := Kd.R_reads' hv1; have hC3 := Kd.C_alloc hR3.2.2 (.cells #[.int .i64 r1, .slice A3 r2.length c3] 28 (0, 0)); have hiv3 : El o (w2.alloc (.cells #[.int .i64 r1, .slice A3 r2.length c3] 28 (0, 0))) (okS (.slice (some ⟨gL', 0, none⟩) s'.length cL') u5 bm) (.slice A3 r2.length c3) r2 := (hbits.mid.fresh hv1).step (fun k hk hlt => ⟨(below_alloc (Below.refl _ w2) _).block k hlt, hk⟩); have hgn : wr.heap.size ≤ w2.heap.size := hb2.size; have F3 := Aside0.mk (And.intro hB3 (And.intro hx3 hiv3)); clear hB3 hx3 hiv3 hv1 hb2) | (go_at_call 51; refine (HT'.out r2 t A3 c3 _ hC3 hR3.2.1 X.out.2.2.2.1).mono ?_; rintro e3 w4 ⟨rfl, hb4⟩; have hst4 := (hbits.to F3.out.1).to hb4; obtain ⟨n4, hn4, hm4⟩ := hst4.seen; have hlk := lookup_bool hm4 (string_keyed Tryd.underlying9) Tryd.underlying68 Tryd.underlying4 (zero_bool w4) (Go.WideMaps.keyOf_string_mk Tryd.underlying9 (s := t) (by have := X.out.2.2.2.2; simp only [maxLen]; omega)); rw [setD_at, hb] at hlk; have hx4 := (hb4.block _ (lt_of F3.out.2.1)).trans F3.out.2.1; have q0 : w4.cell? ⟨w2.heap.size, 0, none⟩ = some (.int .i64 r1) := (blk_cell hx4 0).trans rfl; have q1 : w4.cell? ⟨w2.heap.size, 1, none⟩ = some (.slice A3 r2.length c3) := (blk_cell hx4 1).trans rfl; have H4 := Aside0.mk hst4; clear hst4 hm4 hn4))
                      go_roundw
                      case rel => exact ⟨j + 1, s', _, _, rfl, rfl, by simp, by omega, Aside0.mk X.out.1, he', hle, H4⟩
                      case measure => simp [intOf]; omega
                    | false =>
                      have hY := Y.out
                      rw [hb, if_neg (by decide)] at hY
                      obtain rfl := Option.some.inj hY
                      clear hY Y
                      have hsl : s'.length + 1 ≤ 1000000 := by
                        have := X.out.2.1
                        rw [List.length_append, List.length_singleton] at this
                        omega
                      go_upto_region 10 with (first | (go_at_call 52; refine HA.mono ?_; rintro e2 w2 ⟨v1, rfl, hv1, hb2⟩; obtain ⟨A3, c3, rfl⟩ := Kd.R_slice hv1; have hB3 := hb2.alloc hb2.size (.cells #[.int .i64 r1, .slice A3 r2.length c3] 28 (0, 0)); have hx3 := (Go.MapKept.heap_alloc w2 (.cells #[.int .i64 r1, .slice A3 r2.length c3] 28 (0, 0))).1; have hR3 := Kd.R_reads' hv1; have hC3 := Kd.C_alloc hR3.2.2 (.cells #[.int .i64 r1, .slice A3 r2.length c3] 28 (0, 0)); have hiv3 : El o (w2.alloc (.cells #[.int .i64 r1, .slice A3 r2.length c3] 28 (0, 0))) (okS (.slice (some ⟨gL', 0, none⟩) s'.length cL') u5 bm) (.slice A3 r2.length c3) r2 := (hbits.mid.fresh hv1).step (fun k hk hlt => ⟨(below_alloc (Below.refl _ w2) _).block k hlt, hk⟩); have hgn : wr.heap.size ≤ w2.heap.size := hb2.size; have F3 := Aside0.mk (And.intro hB3 (And.intro hx3 hiv3)); clear hB3 hx3 hiv3 hv1 hb2) | (go_at_call 51; refine (HT'.out r2 t A3 c3 _ hC3 hR3.2.1 X.out.2.2.2.1).mono ?_; rintro e3 w4 ⟨rfl, hb4⟩; have hst4 := (hbits.to F3.out.1).to hb4; obtain ⟨n4, hn4, hm4⟩ := hst4.seen; have hlk := lookup_bool hm4 (string_keyed Tryd.underlying9) Tryd.underlying68 Tryd.underlying4 (zero_bool w4) (Go.WideMaps.keyOf_string_mk Tryd.underlying9 (s := t) (by have := X.out.2.2.2.2; simp only [maxLen]; omega)); rw [setD_at, hb] at hlk; have hx4 := (hb4.block _ (lt_of F3.out.2.1)).trans F3.out.2.1; have q0 : w4.cell? ⟨w2.heap.size, 0, none⟩ = some (.int .i64 r1) := (blk_cell hx4 0).trans rfl; have q1 : w4.cell? ⟨w2.heap.size, 1, none⟩ = some (.slice A3 r2.length c3) := (blk_cell hx4 1).trans rfl; have H4 := Aside0.mk hst4; clear hst4 hm4 hn4))
                      have hC4 := Kd.C_below hC3 hb4
                      have hpsz := hbits.size e (List.mem_of_getElem? he'.out)
                      obtain ⟨gw, cw, rfl, hgw⟩ := words_form hbits.words he'.out
                      go_wp2_with (first
                        | (go_at_call 51; refine (HT'.out r2 t A3 c3 w4 hC4 hR3.2.1 X.out.2.2.2.1).mono ?_; rintro e5 w5 ⟨rfl, hb5⟩; have hst5 := H4.out.to hb5; obtain ⟨n5, hn5, hm5⟩ := hst5.seen; obtain ⟨w6, hrun6, hm6, hg6⟩ := hm5.update (string_keyed Tryd.underlying9) Tryd.underlying68 (by rw [List.length_map] at hn5; simp only [maxLen]; omega) (Go.WideMaps.keyOf_string_mk Tryd.underlying9 (s := t) (by have := X.out.2.2.2.2; simp only [maxLen]; omega)) (plainElem_bool Tryd.underlying4 true); have hst6 := hst5.mark hn5 hm6 hg6))
                      have hx5 := (hb5.block _ (lt_of hx4)).trans hx4
                      have hx6 := (hg6.block _ (lt_of hx5) (fun z => ne_map hm5 hx5 (Option.some.inj z))).trans hx5
                      have hiv6 : El o w6 (okS (.slice (some ⟨gL', 0, none⟩) s'.length cL') (.slice (some ⟨gw, 0, none⟩) s'.length cw) bm) (.slice A3 r2.length c3) r2 := ((F3.out.2.2.step (fun k hk hlt => ⟨hb4.block k hlt, hk⟩)).step (fun k hk hlt => ⟨hb5.block k hlt, hk⟩)).step (fun k hk hlt => ⟨hg6.block k hlt (fun z => hk.2 (Option.some.inj z)), hk⟩)
                      have hw6 := words_cell hst6.words he'.out
                      have hne : ∀ k, k ≠ gL' → ¬ some k = (Value.slice (some ⟨gL', 0, none⟩) s'.length cL').ownBlock := fun k hk z => hk (by simpa [Value.ownBlock] using z)
                      have hgLgn : w2.heap.size ≠ gL' := by omega
                      have hgwgL : gw ≠ gL' := by
                        obtain ⟨_, hown⟩ := hst6.row.own
                        intro z
                        have := ne_rows hst6.words hown (by decide) gw rfl
                        exact this (by rw [z]; rfl)
                      have hs6 := hst6.mid
                      have hsz2 : ∀ e3 ∈ s' ++ [(r2, e.2.1 ++ one (d.toNat : Int), t)], e3.2.1.size ≤ (s' ++ [(r2, e.2.1 ++ one (d.toNat : Int), t)]).length := by
                        intro e3 h3
                        rw [List.length_append, List.length_singleton]
                        rcases List.mem_append.1 h3 with h3 | h3
                        · have := hst6.size e3 h3
                          omega
                        · obtain rfl := List.mem_singleton.1 h3
                          show (e.2.1 ++ one (d.toNat : Int)).size ≤ _
                          rw [ByteArray.size_append]
                          have : (one (d.toNat : Int)).size = 1 := rfl
                          omega
                      have hd1' : ((d.toNat : Int)) = (d.toNat : Int) := rfl
                      have FIN := Aside0.mk (And.intro X.out.1 (And.intro hs6 (And.intro hiv6 (And.intro hx6 hw6))))
                      clear hst6 hs6 hm6 hg6 hst5 hm5 hn5 hb5 hb4 H4 hx4 hx5 hx6 hiv6 hw6 q0 q1 hlk hC3 hC4 F3 X
                      refine R11_region rfl R11.tab (by intro c a d v w z; exact z) rfl rfl rfl rfl rfl rfl rfl rfl rfl rfl rfl rfl rfl rfl rfl rfl rfl rfl rfl rfl rfl rfl rfl rfl rfl rfl rfl rfl rfl rfl rfl rfl rfl rfl rfl rfl rfl rfl rfl rfl rfl rfl rfl rfl rfl rfl rfl rfl rfl rfl rfl rfl rfl rfl rfl rfl rfl rfl rfl rfl rfl rfl rfl rfl rfl rfl rfl rfl (D := some wo.heap.size) (t := t) (l2 := r2) (p := e.2.1) (d := d) (s := s') (bm := bm) (n₀ := w.heap.size) (w0 := w) (fun VL2 VW2 x1 x2 x3 x4 W2 M2 => ?_) (by omega) hii (by omega) rfl ?_ ?_ rfl w6 ⟨?_, ?_, ?_⟩ FIN.out.2.1 FIN.out.2.2.1 (by omega) (by omega)
                      · go_wp2_with fail
                        go_roundw
                        case rel => exact ⟨j + 1, s' ++ [(r2, e.2.1 ++ one (d.toNat : Int), t)], VL2, VW2, rfl, rfl, by simp, by omega, Aside0.mk FIN.out.1, Aside0.mk (by rw [List.getElem?_append_left hii]; exact he'.out), by rw [List.length_append]; omega, Aside0.mk (by rw [List.map_append, List.map_singleton]; exact M2.st hsz2)⟩
                        case measure => simp [intOf]; omega
                      · exact fun W W' h1 hB => ⟨(hB.cell (World.block_lt_of_cell? W _ h1.1)).trans h1.1, (hB.cell (World.block_lt_of_cell? W _ h1.2.1)).trans h1.2.1, (hB.cell (World.block_lt_of_cell? W _ h1.2.2)).trans h1.2.2⟩
                      · exact fun W W' h1 hg => ⟨(World.cell?_of_block (hg.block _ (World.block_lt_of_cell? W _ h1.1) (hne _ hgLgn))).trans h1.1, (World.cell?_of_block (hg.block _ (World.block_lt_of_cell? W _ h1.2.1) (hne _ hgLgn))).trans h1.2.1, (World.cell?_of_block (hg.block _ (World.block_lt_of_cell? W _ h1.2.2) (hne _ hgwgL))).trans h1.2.2⟩
                      · exact (blk_cell FIN.out.2.2.2.1 0).trans rfl
                      · exact (blk_cell FIN.out.2.2.2.1 1).trans rfl
                      · exact FIN.out.2.2.2.2
                  · rw [if_neg hts] at h2
                    cases h2
                · rw [if_neg hr1] at h2
                  cases h2
            · have ej : j = 4 := by omega
              subst ej
              have e1 : s' = s1 := Option.some.inj hk.out
              subst e1
              have X := Aside0.mk hst.out
              clear hst hk
              go_wp2_with fail
              go_roundg g
              case measure => omega
              case rel => exact ⟨i + 1, s', _, _, rfl, rfl, by simp, H3, by omega, by omega, Aside0.mk ⟨X.out.row, X.out.words, X.out.seen, X.out.lo, X.out.base, X.out.below, X.out.size, fun _ hg => by cases hg⟩⟩
        · have h1 := hf.out
          rw [loopF, List.getElem?_eq_none (by omega)] at h1
          obtain rfl := Option.some.inj h1
          obtain ⟨gL, cL, _, _, rfl, _⟩ := hst.out.row.get (sz := 2) (fun _ _ => rfl) (List.getElem?_eq_getElem hs0)
          have X := Aside0.mk hst.out
          clear hst hf
          go_wp2_with fail
          refine bodyPost_ret (results_tmp2 rfl _ _ _) rfl ?_
          exact ⟨_, _, rfl, bm, X.out⟩
  · rw [if_neg hts] at h
    cases h
end SE
end Go.Proofs.YtmplgijnmjdogaaDoorV
set_option linter.unusedSectionVars false
namespace Go.Proofs.YtmplgijnmjdogaaDoorV
open Go.RowKit Go.Proofs.YtmplgijnmjdogaaDoorW.PrintWords Go.Proofs.YtmplgijnmjdogaaDoorW.PrintLast
namespace BA
open RB
open SE (run_step cells_of own_same blk_lt)
theorem infoN : (Tryd.prog.info? 55).map (fun i => (i.zero, i.size, i.bytes)) = some (some (.agg #[.int .i64 0, .slice none 0 0, .int .i64 0]), 3, 40) := by kernel_rfl
def R14.T : Bool × List (List Nat × List Nat) := (true, [([], []), ([], []), ([], []), ([], []), ([2, 3], [2, 3]), ([4], [4]), ([5], [5]), ([6], [6]), ([1, 7], [1, 7]), ([8], [8]), ([0, 9], [0, 9]), ([10, 10, 0, 1, 2, 3, 4, 5, 6, 7, 8, 9, 10], [0, 2, 10])])
def R14.B : List Nat := [0, 0, 0, 0, 12, 28, 60, 124, 254, 510, 1023, 2047]
theorem R14.tab : rtab .any (opsOf Tryd.f18 14) = R14.T := by kernel_rfl
theorem R14.bits : waitsOk R14.T.2 R14.B = true := by kernel_rfl
section
variable {P : Program} {ops : Array Oper} {Q : Exit → Act → World → Prop} (hP : P = Tryd.prog) (tab : rtab .any ops = R14.T) (hq : ∀ (c : List PanicEntry) (a : Act) (d : Tmp) (v : Value) (w : World), Q (.panic c) (a.put (some d) v) w → Q (.panic c) a w)
variable {o0 : Oper} (h0 : ops[0]? = some o0) (d0 : o0.dst = some 57) (p0 : o0.op = .move (.tmp 5)) (g0 : o0.guard = none)
variable {o1 : Oper} (h1 : ops[1]? = some o1) (d1 : o1.dst = some 58) (p1 : o1.op = .load 28 (.tmp 9)) (g1 : o1.guard = none)
variable {o2 : Oper} (h2 : ops[2]? = some o2) (d2 : o2.dst = some 59) (p2 : o2.op = .move (.tmp 5)) (g2 : o2.guard = none)
variable {o3 : Oper} (h3 : ops[3]? = some o3) (d3 : o3.dst = some 60) (p3 : o3.op = .move (.tmp 7)) (g3 : o3.guard = none)
variable {o4 : Oper} (h4 : ops[4]? = some o4) (d4 : o4.dst = some 61) (p4 : o4.op = .indexAddr 40 (.tmp 59) (.tmp 60)) (g4 : o4.guard = none)
variable {o5 : Oper} (h5 : ops[5]? = some o5) (d5 : o5.dst = some 62) (p5 : o5.op = .fieldAddr 55 (.tmp 61) 1) (g5 : o5.guard = none)
variable {o6 : Oper} (h6 : ops[6]? = some o6) (d6 : o6.dst = some 63) (p6 : o6.op = .load 3 (.tmp 62)) (g6 : o6.guard = none)
variable {o7 : Oper} (h7 : ops[7]? = some o7) (d7 : o7.dst = some 64) (p7 : o7.op = .binOp .add 3 (.tmp 63) (.const (.int .i64 1)) 3) (g7 : o7.guard = none)
variable {o8 : Oper} (h8 : ops[8]? = some o8) (d8 : o8.dst = some 65) (p8 : o8.op = .build 55 #[(0, .tmp 58), (1, .tmp 64)]) (g8 : o8.guard = none)
variable {o9 : Oper} (h9 : ops[9]? = some o9) (d9 : o9.dst = some 66) (p9 : o9.op = .buildSlice 40 1 #[(0, .tmp 65)]) (g9 : o9.guard = none)
variable {o10 : Oper} (h10 : ops[10]? = some o10) (d10 : o10.dst = some 67) (p10 : o10.op = .call { callee := .builtin .append, args := #[.tmp 57, .tmp 66], argTypes := #[40, 40] }) (g10 : o10.guard = none)
variable {o11 : Oper} (h11 : ops[11]? = some o11) (d11 : o11.dst = some 5) (p11 : o11.op = .assign (.tmp 67)) (g11 : o11.guard = none)
variable {u0 u1 u2 u3 u4 u5 u6 u7 u8 u9 u10 u11 u12 u13 u14 u15 u16 u17 u18 u19 u20 u21 u22 u23 u24 u25 u26 u27 u28 u29 u30 u31 u32 u33 u34 u35 u36 u37 u38 u39 u40 u41 u42 u43 u44 u45 u46 u47 u48 u49 u50 u51 u52 u53 u54 u55 u56 u57 u58 u59 u60 u61 u62 u63 u64 u65 u66 u67 u68 : Value}
variable {a fr : Int} {n₀ gn gL i cL : Nat} {w0 : World} {VR v : Value} {s : List Nd} {rs : List Int} {l2 : List Int}
variable (hQ : ∀ (VL' x1 : Value) (W' : World), St a n₀ w0 W' VL' VR (s ++ [(l2, wrap64 (fr + 1))]) rs → Q .normal ⟨#[u0, u1, u2, u3, u4, VL', u6, .int .i64 (i : Int), u8, .pointer (some ⟨gn, 0, none⟩), u10, u11, u12, u13, u14, u15, u16, u17, u18, u19, u20, u21, u22, u23, u24, u25, u26, u27, u28, u29, u30, u31, u32, u33, u34, u35, u36, u37, u38, u39, u40, u41, u42, u43, u44, u45, u46, u47, u48, u49, u50, u51, u52, u53, u54, u55, u56, .slice (some ⟨gL, 0, none⟩) s.length cL, .agg #[.int .i64 a, v], .slice (some ⟨gL, 0, none⟩) s.length cL, .int .i64 (i : Int), .pointer (some ⟨gL, i * 3, none⟩), .pointer (some ⟨gL, i * 3 + 2, none⟩), .int .i64 fr, .int .i64 (wrap64 (fr + 1)), .agg #[.int .i64 a, v, .int .i64 (wrap64 (fr + 1))], x1, VL', u68], []⟩ W')
variable (hn : s.length ≤ 1000000) (hi : i < s.length) (hcl : v.oneCell' = true)
variable (hSb : ∀ W W' : World, (fun w' => w'.cell? ⟨gn, 0, none⟩ = some (.int .i64 a) ∧ w'.cell? ⟨gn, 1, none⟩ = some v ∧ w'.cell? ⟨gL, i * 3 + 2, none⟩ = some (.int .i64 fr)) W → Below W.heap.size W W' → (fun w' => w'.cell? ⟨gn, 0, none⟩ = some (.int .i64 a) ∧ w'.cell? ⟨gn, 1, none⟩ = some v ∧ w'.cell? ⟨gL, i * 3 + 2, none⟩ = some (.int .i64 fr)) W')
include hP tab hq h0 d0 p0 g0 h1 d1 p1 g1 h2 d2 p2 g2 h3 d3 p3 g3 h4 d4 p4 g4 h5 d5 p5 g5 h6 d6 p6 g6 h7 d7 p7 g7 h8 d8 p8 g8 h9 d9 p9 g9 h10 d10 p10 g10 h11 d11 p11 g11 hQ hn hi hcl hSb
set_option maxRecDepth 100000 in
set_option maxHeartbeats 2000000 in
theorem R14_11 (W : World) (gA : Nat) (VL' : Value) (M : St a n₀ w0 W VL' VR (s ++ [(l2, wrap64 (fr + 1))]) rs) : wpAnyLast P .any ops Q (fun w' => w'.cell? ⟨gn, 0, none⟩ = some (.int .i64 a) ∧ w'.cell? ⟨gn, 1, none⟩ = some v ∧ w'.cell? ⟨gL, i * 3 + 2, none⟩ = some (.int .i64 fr)) [10] 0 #[true, true, true, true, true, true, true, true, true, true, true, true] ⟨#[u0, u1, u2, u3, u4, VL', u6, .int .i64 (i : Int), u8, .pointer (some ⟨gn, 0, none⟩), u10, u11, u12, u13, u14, u15, u16, u17, u18, u19, u20, u21, u22, u23, u24, u25, u26, u27, u28, u29, u30, u31, u32, u33, u34, u35, u36, u37, u38, u39, u40, u41, u42, u43, u44, u45, u46, u47, u48, u49, u50, u51, u52, u53, u54, u55, u56, .slice (some ⟨gL, 0, none⟩) s.length cL, .agg #[.int .i64 a, v], .slice (some ⟨gL, 0, none⟩) s.length cL, .int .i64 (i : Int), .pointer (some ⟨gL, i * 3, none⟩), .pointer (some ⟨gL, i * 3 + 2, none⟩), .int .i64 fr, .int .i64 (wrap64 (fr + 1)), .agg #[.int .i64 a, v, .int .i64 (wrap64 (fr + 1))], .slice (some ⟨gA, 0, none⟩) 1 1, VL', u68], []⟩ W := by
  refine done_ (done_of tab (by kernel_rfl)) ?_
  exact hQ VL' _ W M
set_option maxRecDepth 100000 in
set_option maxHeartbeats 2000000 in
theorem R14_10 (W : World) (gA : Nat) (hS : (fun w' => w'.cell? ⟨gn, 0, none⟩ = some (.int .i64 a) ∧ w'.cell? ⟨gn, 1, none⟩ = some v ∧ w'.cell? ⟨gL, i * 3 + 2, none⟩ = some (.int .i64 fr)) W) (M : St a n₀ w0 W (.slice (some ⟨gL, 0, none⟩) s.length cL) VR s rs) (hv : IV W (okA n₀ (.slice (some ⟨gL, 0, none⟩) s.length cL) VR) v l2) (bA : W.heap[gA]? = some (.cells #[.int .i64 a, v, .int .i64 (wrap64 (fr + 1))] 55 (0, 0))) : wpAnyLast P .any ops Q (fun w' => w'.cell? ⟨gn, 0, none⟩ = some (.int .i64 a) ∧ w'.cell? ⟨gn, 1, none⟩ = some v ∧ w'.cell? ⟨gL, i * 3 + 2, none⟩ = some (.int .i64 fr)) [10] 2 #[true, true, true, true, true, true, true, true, true, true, false, false] ⟨#[u0, u1, u2, u3, u4, .slice (some ⟨gL, 0, none⟩) s.length cL, u6, .int .i64 (i : Int), u8, .pointer (some ⟨gn, 0, none⟩), u10, u11, u12, u13, u14, u15, u16, u17, u18, u19, u20, u21, u22, u23, u24, u25, u26, u27, u28, u29, u30, u31, u32, u33, u34, u35, u36, u37, u38, u39, u40, u41, u42, u43, u44, u45, u46, u47, u48, u49, u50, u51, u52, u53, u54, u55, u56, .slice (some ⟨gL, 0, none⟩) s.length cL, .agg #[.int .i64 a, v], .slice (some ⟨gL, 0, none⟩) s.length cL, .int .i64 (i : Int), .pointer (some ⟨gL, i * 3, none⟩), .pointer (some ⟨gL, i * 3 + 2, none⟩), .int .i64 fr, .int .i64 (wrap64 (fr + 1)), .agg #[.int .i64 a, v, .int .i64 (wrap64 (fr + 1))], .slice (some ⟨gA, 0, none⟩) 1 1, u67, u68], []⟩ W := by
  refine last_ (i := 10) (N := some 67) #[true, true, true, true, true, true, true, true, true, true, true, false] h10 d10 (one_of tab (by kernel_rfl)) (by decide) (fun K hK => ?_)
  · -- 10
    obtain ⟨fl, hown⟩ := M.row.own
    obtain ⟨i0, hi0, hz0, hz1, hz2⟩ := info_parts infoN
    subst hP
    refine step_append_keep W g10 _ _ _ p10 n₀ 55 i0 _ 3 40 Tryd.underlying40 hi0 hz0 hz1 hz2 rfl (by omega) (.slice (some ⟨gL, 0, none⟩) s.length cL) s.length fl (by rfl) hown ⟨gA, 0, none⟩ 1 1 [.int .i64 a, v, .int .i64 (wrap64 (fr + 1))] (by rfl) (by rfl) (cells_of bA) (fun u hu => by rcases List.mem_cons.1 hu with rfl | hu; rfl; rcases List.mem_cons.1 hu with rfl | hu; exact hcl; obtain rfl := List.mem_singleton.1 hu; rfl) (by omega) (by simp only [maxLen]; omega) (by omega) M.ge ?_
    intro VL' W' hown' hg hat hold
    rw [d10]
    have M' := M.list (e := (l2, wrap64 (fr + 1))) (v := v) hv (fun fl2 h2 => by rw [own_same hown h2]; exact hown') hg hat
    refine hK.out _ _ ?_
    clear hK K
    refine norm_ (a' := ⟨#[u0, u1, u2, u3, u4, .slice (some ⟨gL, 0, none⟩) s.length cL, u6, .int .i64 (i : Int), u8, .pointer (some ⟨gn, 0, none⟩), u10, u11, u12, u13, u14, u15, u16, u17, u18, u19, u20, u21, u22, u23, u24, u25, u26, u27, u28, u29, u30, u31, u32, u33, u34, u35, u36, u37, u38, u39, u40, u41, u42, u43, u44, u45, u46, u47, u48, u49, u50, u51, u52, u53, u54, u55, u56, .slice (some ⟨gL, 0, none⟩) s.length cL, .agg #[.int .i64 a, v], .slice (some ⟨gL, 0, none⟩) s.length cL, .int .i64 (i : Int), .pointer (some ⟨gL, i * 3, none⟩), .pointer (some ⟨gL, i * 3 + 2, none⟩), .int .i64 fr, .int .i64 (wrap64 (fr + 1)), .agg #[.int .i64 a, v, .int .i64 (wrap64 (fr + 1))], .slice (some ⟨gA, 0, none⟩) 1 1, VL', u68], []⟩) (by rfl) ?_
    refine pure_ (i := 11) (N := some 5) (v := VL') (a' := ⟨#[u0, u1, u2, u3, u4, VL', u6, .int .i64 (i : Int), u8, .pointer (some ⟨gn, 0, none⟩), u10, u11, u12, u13, u14, u15, u16, u17, u18, u19, u20, u21, u22, u23, u24, u25, u26, u27, u28, u29, u30, u31, u32, u33, u34, u35, u36, u37, u38, u39, u40, u41, u42, u43, u44, u45, u46, u47, u48, u49, u50, u51, u52, u53, u54, u55, u56, .slice (some ⟨gL, 0, none⟩) s.length cL, .agg #[.int .i64 a, v], .slice (some ⟨gL, 0, none⟩) s.length cL, .int .i64 (i : Int), .pointer (some ⟨gL, i * 3, none⟩), .pointer (some ⟨gL, i * 3 + 2, none⟩), .int .i64 fr, .int .i64 (wrap64 (fr + 1)), .agg #[.int .i64 a, v, .int .i64 (wrap64 (fr + 1))], .slice (some ⟨gA, 0, none⟩) 1 1, VL', u68], []⟩) #[true, true, true, true, true, true, true, true, true, true, true, true] h11 d11 (any_of tab (by kernel_rfl)) (fun c a w z => hq c a _ _ w (by rw [d11] at z; exact z)) (Or.inl ⟨by simp [Region.wanted, g11], fun w' => ?_⟩) (by rfl) ?_
    · simp only [execOp, p11, Act.eval, Act.put]
      first | (go_simp; done) | (go_simp; rfl)
    exact R14_11 rfl tab hq h0 d0 p0 g0 h1 d1 p1 g1 h2 d2 p2 g2 h3 d3 p3 g3 h4 d4 p4 g4 h5 d5 p5 g5 h6 d6 p6 g6 h7 d7 p7 g7 h8 d8 p8 g8 h9 d9 p9 g9 h10 d10 p10 g10 h11 d11 p11 g11 hQ hn hi hcl hSb W' gA VL' M'
set_option maxRecDepth 100000 in
set_option maxHeartbeats 2000000 in
theorem R14_00 (W : World) (hS : (fun w' => w'.cell? ⟨gn, 0, none⟩ = some (.int .i64 a) ∧ w'.cell? ⟨gn, 1, none⟩ = some v ∧ w'.cell? ⟨gL, i * 3 + 2, none⟩ = some (.int .i64 fr)) W) (M : St a n₀ w0 W (.slice (some ⟨gL, 0, none⟩) s.length cL) VR s rs) (hv : IV W (okA n₀ (.slice (some ⟨gL, 0, none⟩) s.length cL) VR) v l2) : wpAnyLast P .any ops Q (fun w' => w'.cell? ⟨gn, 0, none⟩ = some (.int .i64 a) ∧ w'.cell? ⟨gn, 1, none⟩ = some v ∧ w'.cell? ⟨gL, i * 3 + 2, none⟩ = some (.int .i64 fr)) [10] 3 #[true, true, true, true, true, true, true, true, true, false, false, false] ⟨#[u0, u1, u2, u3, u4, .slice (some ⟨gL, 0, none⟩) s.length cL, u6, .int .i64 (i : Int), u8, .pointer (some ⟨gn, 0, none⟩), u10, u11, u12, u13, u14, u15, u16, u17, u18, u19, u20, u21, u22, u23, u24, u25, u26, u27, u28, u29, u30, u31, u32, u33, u34, u35, u36, u37, u38, u39, u40, u41, u42, u43, u44, u45, u46, u47, u48, u49, u50, u51, u52, u53, u54, u55, u56, .slice (some ⟨gL, 0, none⟩) s.length cL, .agg #[.int .i64 a, v], .slice (some ⟨gL, 0, none⟩) s.length cL, .int .i64 (i : Int), .pointer (some ⟨gL, i * 3, none⟩), .pointer (some ⟨gL, i * 3 + 2, none⟩), .int .i64 fr, .int .i64 (wrap64 (fr + 1)), .agg #[.int .i64 a, v, .int .i64 (wrap64 (fr + 1))], u66, u67, u68], []⟩ W := by
  refine one_ (i := 9) (N := some 66) #[true, true, true, true, true, true, true, true, true, true, false, false] h9 d9 (one_of tab (by kernel_rfl)) (by decide) (fun K hK => ?_)
  · -- 9
    refine run_step (v := .slice (some ⟨W.heap.size, 0, none⟩) 1 1) (w1 := W.alloc (.cells #[.int .i64 a, v, .int .i64 (wrap64 (fr + 1))] 55)) g9 d9 (by simp only [execOp, p9, Act.eval]; subst hP; first | (go_simp; done) | (go_simp; rfl)) ?_
    have hB := (Below.refl W.heap.size W).alloc (Nat.le_refl _) (.cells #[.int .i64 a, v, .int .i64 (wrap64 (fr + 1))] 55)
    have bN := (Go.MapKept.heap_alloc W (.cells #[.int .i64 a, v, .int .i64 (wrap64 (fr + 1))] 55)).1
    refine hK.out _ _ (hSb _ _ hS hB) (fun hHeld => ?_)
    clear hK K
    refine norm_ (a' := ⟨#[u0, u1, u2, u3, u4, .slice (some ⟨gL, 0, none⟩) s.length cL, u6, .int .i64 (i : Int), u8, .pointer (some ⟨gn, 0, none⟩), u10, u11, u12, u13, u14, u15, u16, u17, u18, u19, u20, u21, u22, u23, u24, u25, u26, u27, u28, u29, u30, u31, u32, u33, u34, u35, u36, u37, u38, u39, u40, u41, u42, u43, u44, u45, u46, u47, u48, u49, u50, u51, u52, u53, u54, u55, u56, .slice (some ⟨gL, 0, none⟩) s.length cL, .agg #[.int .i64 a, v], .slice (some ⟨gL, 0, none⟩) s.length cL, .int .i64 (i : Int), .pointer (some ⟨gL, i * 3, none⟩), .pointer (some ⟨gL, i * 3 + 2, none⟩), .int .i64 fr, .int .i64 (wrap64 (fr + 1)), .agg #[.int .i64 a, v, .int .i64 (wrap64 (fr + 1))], .slice (some ⟨W.heap.size, 0, none⟩) 1 1, u67, u68], []⟩) (by rfl) ?_
    exact R14_10 hP tab hq h0 d0 p0 g0 h1 d1 p1 g1 h2 d2 p2 g2 h3 d3 p3 g3 h4 d4 p4 g4 h5 d5 p5 g5 h6 d6 p6 g6 h7 d7 p7 g7 h8 d8 p8 g8 h9 d9 p9 g9 h10 d10 p10 g10 h11 d11 p11 g11 hQ hn hi hcl hSb _ _ hHeld (M.to hB) (hv.step (fun k hk hlt => ⟨hB.block k hlt, hk⟩)) bN
set_option maxRecDepth 100000 in
set_option maxHeartbeats 2000000 in
theorem R14_region {id : Nat} (hsize : ops.size = 12) (W : World) (hS : (fun w' => w'.cell? ⟨gn, 0, none⟩ = some (.int .i64 a) ∧ w'.cell? ⟨gn, 1, none⟩ = some v ∧ w'.cell? ⟨gL, i * 3 + 2, none⟩ = some (.int .i64 fr)) W.drew) (M : St a n₀ w0 W (.slice (some ⟨gL, 0, none⟩) s.length cL) VR s rs) (hv : IV W (okA n₀ (.slice (some ⟨gL, 0, none⟩) s.length cL) VR) v l2) (hdi : (i : Int) < (s.length : Int)) (hdz : (0 : Int) ≤ (i : Int)) : (Code.region id ops true).wp P Q ⟨#[u0, u1, u2, u3, u4, .slice (some ⟨gL, 0, none⟩) s.length cL, u6, .int .i64 (i : Int), u8, .pointer (some ⟨gn, 0, none⟩), u10, u11, u12, u13, u14, u15, u16, u17, u18, u19, u20, u21, u22, u23, u24, u25, u26, u27, u28, u29, u30, u31, u32, u33, u34, u35, u36, u37, u38, u39, u40, u41, u42, u43, u44, u45, u46, u47, u48, u49, u50, u51, u52, u53, u54, u55, u56, u57, u58, u59, u60, u61, u62, u63, u64, u65, u66, u67, u68], []⟩ W := by
  refine start_ (n := 12) (S := (fun w' => w'.cell? ⟨gn, 0, none⟩ = some (.int .i64 a) ∧ w'.cell? ⟨gn, 1, none⟩ = some v ∧ w'.cell? ⟨gL, i * 3 + 2, none⟩ = some (.int .i64 fr))) (ds := [10]) #[false, false, false, false, false, false, false, false, false, false, false, false] (by rw [hP]; kernel_rfl) hsize rfl hS (fun hHeld => ?_)
  refine pure_ (i := 0) (N := some 57) (v := .slice (some ⟨gL, 0, none⟩) s.length cL) (a' := ⟨#[u0, u1, u2, u3, u4, .slice (some ⟨gL, 0, none⟩) s.length cL, u6, .int .i64 (i : Int), u8, .pointer (some ⟨gn, 0, none⟩), u10, u11, u12, u13, u14, u15, u16, u17, u18, u19, u20, u21, u22, u23, u24, u25, u26, u27, u28, u29, u30, u31, u32, u33, u34, u35, u36, u37, u38, u39, u40, u41, u42, u43, u44, u45, u46, u47, u48, u49, u50, u51, u52, u53, u54, u55, u56, .slice (some ⟨gL, 0, none⟩) s.length cL, u58, u59, u60, u61, u62, u63, u64, u65, u66, u67, u68], []⟩) #[true, false, false, false, false, false, false, false, false, false, false, false] h0 d0 (any_of tab (by kernel_rfl)) (fun c a w z => hq c a _ _ w (by rw [d0] at z; exact z)) (Or.inl ⟨by simp [Region.wanted, g0], fun w' => ?_⟩) (by rfl) ?_
  · simp only [execOp, p0, Act.eval, Act.put]
    first | (go_simp; done) | (go_simp; rfl)
  refine pure_ (i := 2) (N := some 59) (v := .slice (some ⟨gL, 0, none⟩) s.length cL) (a' := ⟨#[u0, u1, u2, u3, u4, .slice (some ⟨gL, 0, none⟩) s.length cL, u6, .int .i64 (i : Int), u8, .pointer (some ⟨gn, 0, none⟩), u10, u11, u12, u13, u14, u15, u16, u17, u18, u19, u20, u21, u22, u23, u24, u25, u26, u27, u28, u29, u30, u31, u32, u33, u34, u35, u36, u37, u38, u39, u40, u41, u42, u43, u44, u45, u46, u47, u48, u49, u50, u51, u52, u53, u54, u55, u56, .slice (some ⟨gL, 0, none⟩) s.length cL, u58, .slice (some ⟨gL, 0, none⟩) s.length cL, u60, u61, u62, u63, u64, u65, u66, u67, u68], []⟩) #[true, false, true, false, false, false, false, false, false, false, false, false] h2 d2 (any_of tab (by kernel_rfl)) (fun c a w z => hq c a _ _ w (by rw [d2] at z; exact z)) (Or.inl ⟨by simp [Region.wanted, g2], fun w' => ?_⟩) (by rfl) ?_
  · simp only [execOp, p2, Act.eval, Act.put]
    first | (go_simp; done) | (go_simp; rfl)
  refine pure_ (i := 3) (N := some 60) (v := .int .i64 (i : Int)) (a' := ⟨#[u0, u1, u2, u3, u4, .slice (some ⟨gL, 0, none⟩) s.length cL, u6, .int .i64 (i : Int), u8, .pointer (some ⟨gn, 0, none⟩), u10, u11, u12, u13, u14, u15, u16, u17, u18, u19, u20, u21, u22, u23, u24, u25, u26, u27, u28, u29, u30, u31, u32, u33, u34, u35, u36, u37, u38, u39, u40, u41, u42, u43, u44, u45, u46, u47, u48, u49, u50, u51, u52, u53, u54, u55, u56, .slice (some ⟨gL, 0, none⟩) s.length cL, u58, .slice (some ⟨gL, 0, none⟩) s.length cL, .int .i64 (i : Int), u61, u62, u63, u64, u65, u66, u67, u68], []⟩) #[true, false, true, true, false, false, false, false, false, false, false, false] h3 d3 (any_of tab (by kernel_rfl)) (fun c a w z => hq c a _ _ w (by rw [d3] at z; exact z)) (Or.inl ⟨by simp [Region.wanted, g3], fun w' => ?_⟩) (by rfl) ?_
  · simp only [execOp, p3, Act.eval, Act.put]
    first | (go_simp; done) | (go_simp; rfl)
  refine pure_ (i := 4) (N := some 61) (v := .pointer (some ⟨gL, i * 3, none⟩)) (a' := ⟨#[u0, u1, u2, u3, u4, .slice (some ⟨gL, 0, none⟩) s.length cL, u6, .int .i64 (i : Int), u8, .pointer (some ⟨gn, 0, none⟩), u10, u11, u12, u13, u14, u15, u16, u17, u18, u19, u20, u21, u22, u23, u24, u25, u26, u27, u28, u29, u30, u31, u32, u33, u34, u35, u36, u37, u38, u39, u40, u41, u42, u43, u44, u45, u46, u47, u48, u49, u50, u51, u52, u53, u54, u55, u56, .slice (some ⟨gL, 0, none⟩) s.length cL, u58, .slice (some ⟨gL, 0, none⟩) s.length cL, .int .i64 (i : Int), .pointer (some ⟨gL, i * 3, none⟩), u62, u63, u64, u65, u66, u67, u68], []⟩) #[true, false, true, true, true, false, false, false, false, false, false, false] h4 d4 (any_of tab (by kernel_rfl)) (fun c a w z => hq c a _ _ w (by rw [d4] at z; exact z)) (Or.inl ⟨by simp [Region.wanted, g4], fun w' => ?_⟩) (by rfl) ?_
  · simp only [execOp, p4, Act.eval, Act.put]
    first | (go_simp; done) | (go_simp; rfl)
  refine pure_ (i := 5) (N := some 62) (v := .pointer (some ⟨gL, i * 3 + 2, none⟩)) (a' := ⟨#[u0, u1, u2, u3, u4, .slice (some ⟨gL, 0, none⟩) s.length cL, u6, .int .i64 (i : Int), u8, .pointer (some ⟨gn, 0, none⟩), u10, u11, u12, u13, u14, u15, u16, u17, u18, u19, u20, u21, u22, u23, u24, u25, u26, u27, u28, u29, u30, u31, u32, u33, u34, u35, u36, u37, u38, u39, u40, u41, u42, u43, u44, u45, u46, u47, u48, u49, u50, u51, u52, u53, u54, u55, u56, .slice (some ⟨gL, 0, none⟩) s.length cL, u58, .slice (some ⟨gL, 0, none⟩) s.length cL, .int .i64 (i : Int), .pointer (some ⟨gL, i * 3, none⟩), .pointer (some ⟨gL, i * 3 + 2, none⟩), u63, u64, u65, u66, u67, u68], []⟩) #[true, false, true, true, true, true, false, false, false, false, false, false] h5 d5 (any_of tab (by kernel_rfl)) (fun c a w z => hq c a _ _ w (by rw [d5] at z; exact z)) (Or.inl ⟨by simp [Region.wanted, g5], fun w' => ?_⟩) (by rfl) ?_
  · simp only [execOp, p5, Act.eval, Act.put]
    first | (go_simp; done) | (go_simp; rfl)
  refine take_ (i := 1) (N := some 58) (v := .agg #[.int .i64 a, v]) (a' := ⟨#[u0, u1, u2, u3, u4, .slice (some ⟨gL, 0, none⟩) s.length cL, u6, .int .i64 (i : Int), u8, .pointer (some ⟨gn, 0, none⟩), u10, u11, u12, u13, u14, u15, u16, u17, u18, u19, u20, u21, u22, u23, u24, u25, u26, u27, u28, u29, u30, u31, u32, u33, u34, u35, u36, u37, u38, u39, u40, u41, u42, u43, u44, u45, u46, u47, u48, u49, u50, u51, u52, u53, u54, u55, u56, .slice (some ⟨gL, 0, none⟩) s.length cL, .agg #[.int .i64 a, v], .slice (some ⟨gL, 0, none⟩) s.length cL, .int .i64 (i : Int), .pointer (some ⟨gL, i * 3, none⟩), .pointer (some ⟨gL, i * 3 + 2, none⟩), u63, u64, u65, u66, u67, u68], []⟩) #[true, true, true, true, true, true, false, false, false, false, false, false] h1 d1 (take_ofW tab R14.bits (by kernel_rfl)) (fun c a w z => hq c a _ _ w (by rw [d1] at z; exact z)) (Or.inl ⟨by simp [Region.wanted, g1], ?_⟩) hHeld (by rfl) ?_
  · rintro w' ⟨s0, s1, s2⟩
    simp only [execOp, p1, Act.eval, Act.put]
    first | (go_simp; done) | (go_simp; rfl)
  refine take_ (i := 6) (N := some 63) (v := .int .i64 fr) (a' := ⟨#[u0, u1, u2, u3, u4, .slice (some ⟨gL, 0, none⟩) s.length cL, u6, .int .i64 (i : Int), u8, .pointer (some ⟨gn, 0, none⟩), u10, u11, u12, u13, u14, u15, u16, u17, u18, u19, u20, u21, u22, u23, u24, u25, u26, u27, u28, u29, u30, u31, u32, u33, u34, u35, u36, u37, u38, u39, u40, u41, u42, u43, u44, u45, u46, u47, u48, u49, u50, u51, u52, u53, u54, u55, u56, .slice (some ⟨gL, 0, none⟩) s.length cL, .agg #[.int .i64 a, v], .slice (some ⟨gL, 0, none⟩) s.length cL, .int .i64 (i : Int), .pointer (some ⟨gL, i * 3, none⟩), .pointer (some ⟨gL, i * 3 + 2, none⟩), .int .i64 fr, u64, u65, u66, u67, u68], []⟩) #[true, true, true, true, true, true, true, false, false, false, false, false] h6 d6 (take_ofW tab R14.bits (by kernel_rfl)) (fun c a w z => hq c a _ _ w (by rw [d6] at z; exact z)) (Or.inl ⟨by simp [Region.wanted, g6], ?_⟩) hHeld (by rfl) ?_
  · rintro w' ⟨s0, s1, s2⟩
    simp only [execOp, p6, Act.eval, Act.put]
    first | (go_simp; done) | (go_simp; rfl)
  refine pure_ (i := 7) (N := some 64) (v := .int .i64 (wrap64 (fr + 1))) (a' := ⟨#[u0, u1, u2, u3, u4, .slice (some ⟨gL, 0, none⟩) s.length cL, u6, .int .i64 (i : Int), u8, .pointer (some ⟨gn, 0, none⟩), u10, u11, u12, u13, u14, u15, u16, u17, u18, u19, u20, u21, u22, u23, u24, u25, u26, u27, u28, u29, u30, u31, u32, u33, u34, u35, u36, u37, u38, u39, u40, u41, u42, u43, u44, u45, u46, u47, u48, u49, u50, u51, u52, u53, u54, u55, u56, .slice (some ⟨gL, 0, none⟩) s.length cL, .agg #[.int .i64 a, v], .slice (some ⟨gL, 0, none⟩) s.length cL, .int .i64 (i : Int), .pointer (some ⟨gL, i * 3, none⟩), .pointer (some ⟨gL, i * 3 + 2, none⟩), .int .i64 fr, .int .i64 (wrap64 (fr + 1)), u65, u66, u67, u68], []⟩) #[true, true, true, true, true, true, true, true, false, false, false, false] h7 d7 (any_of tab (by kernel_rfl)) (fun c a w z => hq c a _ _ w (by rw [d7] at z; exact z)) (Or.inl ⟨by simp [Region.wanted, g7], fun w' => ?_⟩) (by rfl) ?_
  · simp only [execOp, p7, Act.eval, Act.put]
    go_simp
    simp only [i64_w]
  refine pure_ (i := 8) (N := some 65) (v := .agg #[.int .i64 a, v, .int .i64 (wrap64 (fr + 1))]) (a' := ⟨#[u0, u1, u2, u3, u4, .slice (some ⟨gL, 0, none⟩) s.length cL, u6, .int .i64 (i : Int), u8, .pointer (some ⟨gn, 0, none⟩), u10, u11, u12, u13, u14, u15, u16, u17, u18, u19, u20, u21, u22, u23, u24, u25, u26, u27, u28, u29, u30, u31, u32, u33, u34, u35, u36, u37, u38, u39, u40, u41, u42, u43, u44, u45, u46, u47, u48, u49, u50, u51, u52, u53, u54, u55, u56, .slice (some ⟨gL, 0, none⟩) s.length cL, .agg #[.int .i64 a, v], .slice (some ⟨gL, 0, none⟩) s.length cL, .int .i64 (i : Int), .pointer (some ⟨gL, i * 3, none⟩), .pointer (some ⟨gL, i * 3 + 2, none⟩), .int .i64 fr, .int .i64 (wrap64 (fr + 1)), .agg #[.int .i64 a, v, .int .i64 (wrap64 (fr + 1))], u66, u67, u68], []⟩) #[true, true, true, true, true, true, true, true, true, false, false, false] h8 d8 (any_of tab (by kernel_rfl)) (fun c a w z => hq c a _ _ w (by rw [d8] at z; exact z)) (Or.inl ⟨by simp [Region.wanted, g8], fun w' => ?_⟩) (by rfl) ?_
  · simp only [execOp, p8, Act.eval, Act.put]
    first | (go_simp; done) | (go_simp; rfl)
  exact R14_00 hP tab hq h0 d0 p0 g0 h1 d1 p1 g1 h2 d2 p2 g2 h3 d3 p3 g3 h4 d4 p4 g4 h5 d5 p5 g5 h6 d6 p6 g6 h7 d7 p7 g7 h8 d8 p8 g8 h9 d9 p9 g9 h10 d10 p10 g10 h11 d11 p11 g11 hQ hn hi hcl hSb _ hHeld (M.drew) (hv.step (fun k hk hlt => ⟨rfl, hk⟩))
end
end BA
end Go.Proofs.YtmplgijnmjdogaaDoorV
namespace Go.Proofs.YtmplgijnmjdogaaDoorV
open Go.RowKit Go.Proofs.YtmplgijnmjdogaaDoorW.PrintWords Go.Proofs.YtmplgijnmjdogaaDoorW.PrintLast
namespace BA
open RB
open SE (run_step cells_of own_same blk_lt)
structure Con (P : Program) (a : Int) (F : Fns) : Prop where
  ah : ∀ (l : List Int) (d r : Int) (A : Option Addr) (c : Nat) (W : World), Kd.C (Kd.int .i64) W A l.length l → l.length ≤ c → F.ah l d = some r → Calls P 20 #[.agg #[.int .i64 a, .slice A l.length c], .int .i64 d] W fun e w' => e = .returned (.int .i64 r) ∧ Below W.heap.size W w'
  mv : ∀ (l : List Int) (d r1 : Int) (r2 : List Int) (A : Option Addr) (c : Nat) (W : World), Kd.C (Kd.int .i64) W A l.length l → l.length ≤ c → F.mv l d = some (r1, r2) → Calls P 21 #[.agg #[.int .i64 a, .slice A l.length c], .int .i64 d] W fun e w' => ∃ v1_ : Value, e = .returned (.agg #[.int .i64 r1, v1_]) ∧ Kd.R (Kd.int .i64) 3 w' W.heap.size (fun _ => True) v1_ r2 ∧ Below W.heap.size W w'
  rk : ∀ (l : List Int) (r : Int) (A : Option Addr) (c : Nat) (W : World), Kd.C (Kd.int .i64) W A l.length l → l.length ≤ c → F.rk l = some r → Calls P 33 #[.agg #[.int .i64 a, .slice A l.length c]] W fun e w' => e = .returned (.int .i64 r) ∧ Below W.heap.size W w'
  ha : ∀ (l : List Int) (x : Int) (r : Bool) (A : Option Addr) (c : Nat) (W : World), Kd.C (Kd.int .i64) W A l.length l → l.length ≤ c → F.ha l x = some r → Calls P 41 #[.slice A l.length c, .int .i64 x] W fun e w' => e = .returned (.bool r) ∧ Below W.heap.size W w'
theorem infoInt : (Tryd.prog.info? 3).map (fun i => (i.zero, i.size, i.bytes)) = some (some (.int .i64 0), 1, 8) := by kernel_rfl
theorem lt_of {W : World} {g : Nat} {o : Obj} (h : W.heap[g]? = some o) : g < W.heap.size := (Array.getElem?_eq_some_iff.1 h).1
theorem ne_sideA {W : World} {n₀ z n k : Nat} {e T : TypeId} {v : Value} {x : List Value} {cs : Array Value} {fr : Nat × Nat} (h : W.ownsRow n₀ e z v n x) (hk : W.heap[k]? = some (.cells cs T fr)) (he : e ≠ T) : ¬ some k = v.ownBlock := by
  intro e1
  obtain ⟨c, hc⟩ := own_typed h k e1.symm
  rw [hc] at hk
  simp only [Option.some.injEq, Obj.cells.injEq] at hk
  exact he hk.2.1
theorem dirN_at (j : Nat) (hj : j < 4) : dirsN.drop j = (j : Int) :: dirsN.drop (j + 1) := by
  match j, hj with
  | 0, _ => rfl
  | 1, _ => rfl
  | 2, _ => rfl
  | 3, _ => rfl
theorem ini_st {a q : Int} {c1 : Nat} {A1 : Option Addr} {w w1 w2 : World} {l : List Int} (hv : Kd.R (Kd.int .i64) 3 w1 w.heap.size (fun _ => True) (.slice A1 l.length c1) l) (hb1 : Below w.heap.size w w1)
    (hL : w2.heap[w1.heap.size]? = (w1.alloc (.cells #[.int .i64 a, .slice A1 l.length c1, .int .i64 0] 55 (0, 0))).heap[w1.heap.size]?) (hsz : (w1.alloc (.cells #[.int .i64 a, .slice A1 l.length c1, .int .i64 0] 55 (0, 0))).heap.size ≤ w2.heap.size) (hB : Below (w1.alloc (.cells #[.int .i64 a, .slice A1 l.length c1, .int .i64 0] 55 (0, 0))).heap.size (w1.alloc (.cells #[.int .i64 a, .slice A1 l.length c1, .int .i64 0] 55 (0, 0))) (w2.alloc (.cells #[.int .i64 q] 3 (0, 0)))) :
    St a w.heap.size w (w2.alloc (.cells #[.int .i64 q] 3 (0, 0))) (.slice (some ⟨w1.heap.size, 0, none⟩) 1 1) (.slice (some ⟨w2.heap.size, 0, none⟩) 1 1) [(l, 0)] [q] := by
  have hs1 : (w1.alloc (.cells #[.int .i64 a, .slice A1 l.length c1, .int .i64 0] 55 (0, 0))).heap.size = w1.heap.size + 1 := by simp
  have h12 : w1.heap.size < w2.heap.size := by omega
  have bL : (w2.alloc (.cells #[.int .i64 q] 3 (0, 0))).heap[w1.heap.size]? = some (.cells #[.int .i64 a, .slice A1 l.length c1, .int .i64 0] 55 (0, 0)) := (hB.block _ (by omega)).trans (Go.MapKept.heap_alloc w1 (.cells #[.int .i64 a, .slice A1 l.length c1, .int .i64 0] 55 (0, 0))).1
  have bR := (Go.MapKept.heap_alloc w2 (.cells #[.int .i64 q] 3 (0, 0))).1
  have h01 := hb1.size
  refine ⟨⟨[.slice A1 l.length c1], rfl, ⟨rfl, .inr ⟨w1.heap.size, 1, _, rfl, h01, bL, Nat.le_refl _, by simp [maxLen], rfl, rfl⟩⟩, fun j v x hv' hx => ?_⟩, ⟨rfl, .inr ⟨w2.heap.size, 1, _, rfl, by omega, bR, Nat.le_refl _, by simp [maxLen], rfl, rfl⟩⟩, ?_, by simp; omega⟩
  · have hj := (List.getElem?_eq_some_iff.1 hx).1
    have hj0 : j = 0 := by simpa using hj
    subst hj0
    obtain rfl : Value.slice A1 l.length c1 = v := by simpa using hv'
    obtain rfl : (l, (0 : Int)) = x := by simpa using hx
    have h1 : IV w1 (fun k => k < w1.heap.size ∧ w.heap.size ≤ k) (.slice A1 l.length c1) l := Kd.V_mono (Kd.R_V (Kd.R_bound hv)) (fun k hk => ⟨hk.2.2.1, hk.2.1⟩)
    refine (h1.step (W' := w1.alloc (.cells #[.int .i64 a, .slice A1 l.length c1, .int .i64 0] 55 (0, 0))) (ok' := fun k => k < w1.heap.size ∧ w.heap.size ≤ k) (fun k hk hlt => ⟨(below_alloc (Below.refl _ w1) (.cells #[.int .i64 a, .slice A1 l.length c1, .int .i64 0] 55 (0, 0))).block k hlt, hk⟩)).step (fun k hk hlt => ⟨hB.block k hlt, ⟨?_, ?_⟩, hk.2⟩)
    · intro e
      simp [Value.ownBlock] at e
      omega
    · intro e
      simp [Value.ownBlock] at e
      omega
  · exact (hb1.alloc h01 (.cells #[.int .i64 a, .slice A1 l.length c1, .int .i64 0] 55 (0, 0))).trans (hB.mono (by omega))
set_option maxRecDepth 100000 in
set_option maxHeartbeats 8000000 in
theorem all_calls (w0 h0 a : Int) (l : List Int) (F : Fns) (HC : Con Tryd.prog a F) (HS : ∀ W, Calls Tryd.prog 44 #[.int .i64 w0, .int .i64 h0] W fun e w' => ∃ v1_ : Value, e = .returned (.agg #[.int .i64 a, v1_]) ∧ Kd.R (Kd.int .i64) 3 w' W.heap.size (fun _ => True) v1_ l ∧ Below W.heap.size W w')
    (f : Nat) (q : Int) (hq : F.rk l = some q) (w : World) (res : List Nd) (h : loopF F a f 0 ([(l, 0)], [q]) = some res) (hl : res.length ≤ 1000000) :
    Calls Tryd.prog 18 #[.int .i64 w0, .int .i64 h0] w fun e w' => ∃ VL VR rs, e = .returned VL ∧ St a w.heap.size w w' VL VR res rs := by
  have HC' := Aside0.mk HC
  have HS' := Aside0.mk HS
  have HF := Aside0.mk (And.intro h (And.intro hl hq))
  clear HC HS h hl hq
  go_enter Tryd.func18, Tryd.ntmps18
  go_wp2_with (first
    | (go_at_call 44; refine (HS'.out _).mono ?_; rintro e w1 ⟨v1, rfl, hv1, hb1⟩; obtain ⟨A1, c1, rfl⟩ := Kd.R_slice hv1; have hR1 := Kd.R_reads' hv1; have hC1 := Kd.C_alloc hR1.2.2 (.cells #[.int .i64 a, .slice A1 l.length c1, .int .i64 0] 55 (0, 0)))
    | (go_at_call 33; refine (HC'.out.rk l q A1 c1 _ hC1 hR1.2.1 HF.out.2.2).mono ?_; rintro e w2 ⟨rfl, hb2⟩))
  have hst0 := ini_st (q := q) hv1 hb1 (hb2.block _ (by simp)) hb2.size (hb2.alloc hb2.size (.cells #[.int .i64 q] 3 (0, 0)))
  clear hv1 hb1 hb2 hR1 hC1
  go_loopg [5, 6, 7] f (fun g s5 s6 s7 wr => ∃ (i : Nat) (s : List Nd) (rs : List Int) (VL VR : Value), s5 = VL ∧ s6 = VR ∧ s7 = .int .i64 (i : Int) ∧ Aside0 (loopF F a g i (s, rs) = some res) ∧ i ≤ s.length ∧ 0 < s.length ∧ Aside0 (rs.length = s.length) ∧ Aside0 (St a w.heap.size w wr VL VR s rs))
  case atStart => exact ⟨0, _, _, _, _, rfl, rfl, rfl, Aside0.mk HF.out.1, Nat.zero_le _, by simp, Aside0.mk rfl, Aside0.mk hst0⟩
  case round =>
    obtain ⟨i, s, rs, VL, VR, rfl, rfl, rfl, hf, hi, hs0, hrs, hst⟩ := hrel
    clear hst0
    obtain ⟨wo, rfl⟩ : ∃ wo : World, wo = wr := ⟨_, rfl⟩
    cases gk with
    | zero => exact absurd hf.out (by simp [loopF])
    | succ g =>
      have hlen := len_le (loopF_pre hf.out)
      have hl6 := HF.out.2.1
      by_cases hlt : i < s.length
      · obtain ⟨e, he⟩ : ∃ e, s[i]? = some e := ⟨_, List.getElem?_eq_getElem hlt⟩
        have h1 := hf.out
        rw [loopF, he] at h1
        obtain ⟨⟨s1, rs1⟩, h2, h3⟩ := Option.bind_eq_some_iff.1 h1
        have H2 := Aside0.mk h2
        have H3 := Aside0.mk h3
        have HE := Aside0.mk he
        clear h1 h2 h3 hf
        obtain ⟨gL, cL, A0, cc0, rfl, hcL, hgL, hnL, _⟩ := hst.out.row.get (sz := 3) (fun _ _ => rfl) he
        clear he
        go_wp2_with fail
        go_loopw [5, 6, 8] (fun s5 s6 s8 wi => ∃ (j : Nat) (s' : List Nd) (rs' : List Int) (VL' VR' : Value), s5 = VL' ∧ s6 = VR' ∧ s8 = .int .i64 (j : Int) ∧ j ≤ 4 ∧ Aside0 (lks F a e (dirsN.drop j) (s', rs') = some (s1, rs1)) ∧ Aside0 (s'[i]? = some e) ∧ Aside0 (rs'.length = s'.length) ∧ s.length ≤ s'.length ∧ Aside0 (St a w.heap.size w wi VL' VR' s' rs'))
          (fun _ _ s8 _ => 4 - (intOf s8).toNat)
        case atStart => exact ⟨0, s, rs, _, _, rfl, rfl, rfl, by omega, H2, HE, hrs, Nat.le_refl _, hst⟩
        case round =>
          clear H2 hst
          obtain ⟨j, s', rs', VL', VR', rfl, rfl, rfl, hj, hk, he', hrs', hle, hst⟩ := hrel
          by_cases hj4 : j < 4
          · have h1 := hk.out
            rw [dirN_at j hj4] at h1
            obtain ⟨s2, hlk, h3⟩ := Option.bind_eq_some_iff.1 h1
            have hlen2 := Nat.le_trans (len_le (lks_pre h3).1) (len_le (loopF_pre H3.out))
            obtain ⟨t, ht, h2⟩ := Option.bind_eq_some_iff.1 hlk
            clear hlk h1 hk
            obtain ⟨gL', cL', A', cc', rfl, hcL', hgL', hnL', hcells, hcc', hC', hIV', cur', hcur'⟩ := hst.out.row.get (sz := 3) (fun _ _ => rfl) he'.out
            obtain ⟨Ar, cr, rfl, hcr, hCr⟩ := hst.out.reads
            have m0 : wr.cell? ⟨gL', i * 3, none⟩ = some (.int .i64 a) := hcells 0 _ rfl
            have m1 : wr.cell? ⟨gL', i * 3 + 1, none⟩ = some (.slice A' e.1.length cc') := hcells 1 _ rfl
            have hii := (List.getElem?_eq_some_iff.1 he'.out).1
            by_cases ht0 : t < 0
            · rw [if_pos ht0] at h2
              obtain rfl := Option.some.inj h2
              have X := Aside0.mk (And.intro h3 (And.intro hlen2 hst.out))
              have hd0 : decide (t < 0) = true := decide_eq_true ht0
              clear h2 h3 hcells hcur' hst hlen2
              go_wp2_with (go_at_call 20; refine (HC'.out.ah e.1 (j : Int) t A' cc' wr hC' hcc' ht).mono ?_; rintro e2 w2 ⟨rfl, hb2⟩; have n0 : w2.cell? ⟨gL', i * 3, none⟩ = some (.int .i64 a) := (hb2.cell (p := ⟨gL', i * 3, none⟩) hgL').trans m0; have n1 : w2.cell? ⟨gL', i * 3 + 1, none⟩ = some (.slice A' e.1.length cc') := (hb2.cell (p := ⟨gL', i * 3 + 1, none⟩) hgL').trans m1)
              go_roundw
              case rel => exact ⟨j + 1, s', rs', _, _, rfl, rfl, by simp, by omega, Aside0.mk X.out.1, he', hrs', hle, Aside0.mk (X.out.2.2.to hb2)⟩
              case measure => simp [intOf]; omega
            · rw [if_neg ht0] at h2
              obtain ⟨⟨r1, r2⟩, hm, h2⟩ := Option.bind_eq_some_iff.1 h2
              dsimp only at h2
              have hd0 : decide (t < 0) = false := decide_eq_false ht0
              by_cases hr1 : r1 = a
              · rw [if_pos hr1] at h2
                obtain ⟨q, hrk, h2⟩ := Option.bind_eq_some_iff.1 h2
                obtain ⟨B, hha, h2⟩ := Option.bind_eq_some_iff.1 h2
                have Y := Aside0.mk h2
                have X := Aside0.mk (And.intro h3 (And.intro hlen2 hst.out))
                clear h2 h3 hcells hcur' hst hlen2
                subst hr1
                cases B with
                | true =>
                  have hY := Y.out
                  rw [if_pos rfl] at hY
                  obtain rfl := Option.some.inj hY
                  clear hY Y
                  go_wp2_with (first | (go_at_call 20; refine (HC'.out.ah e.1 (j : Int) t A' cc' wr hC' hcc' ht).mono ?_; rintro e2 w2 ⟨rfl, hb2⟩; have n0 : w2.cell? ⟨gL', i * 3, none⟩ = some (.int .i64 r1) := (hb2.cell (p := ⟨gL', i * 3, none⟩) hgL').trans m0; have n1 : w2.cell? ⟨gL', i * 3 + 1, none⟩ = some (.slice A' e.1.length cc') := (hb2.cell (p := ⟨gL', i * 3 + 1, none⟩) hgL').trans m1) | (go_at_call 21; refine (HC'.out.mv e.1 (j : Int) r1 r2 A' cc' w2 (Kd.C_below hC' hb2) hcc' hm).mono ?_; rintro e3 w3 ⟨v1, rfl, hv3, hb3⟩; obtain ⟨A3, c3, rfl⟩ := Kd.R_slice hv3; have hR3 := Kd.R_reads' hv3; have hC3 := Kd.C_alloc hR3.2.2 (.cells #[.int .i64 r1, .slice A3 r2.length c3] 28 (0, 0)); have hB3 := hb3.alloc hb3.size (.cells #[.int .i64 r1, .slice A3 r2.length c3] 28 (0, 0)); have hx3 := (Go.MapKept.heap_alloc w3 (.cells #[.int .i64 r1, .slice A3 r2.length c3] 28 (0, 0))).1; have hst2 := X.out.2.2.to hb2; have hiv3 : IV (w3.alloc (.cells #[.int .i64 r1, .slice A3 r2.length c3] 28 (0, 0))) (okA w.heap.size (.slice (some ⟨gL', 0, none⟩) s'.length cL') (.slice Ar rs'.length cr)) (.slice A3 r2.length c3) r2 := Kd.V_alloc (hst2.fresh hv3) _; have hgn : wr.heap.size ≤ w3.heap.size := Nat.le_trans hb2.size hb3.size; have hst3 := hst2.to hB3; have F3 := Aside0.mk (And.intro hst3 (And.intro hx3 hiv3)); have hCr3 := Kd.C_below (Kd.C_below hCr hb2) hB3; clear hst2 hst3 hx3 hiv3) | (go_at_call 33; refine (HC'.out.rk r2 q A3 c3 _ hC3 hR3.2.1 hrk).mono ?_; rintro e4 w4 ⟨rfl, hb4⟩; have hCr4 := Kd.C_below hCr3 hb4) | (go_at_call 41; refine (HC'.out.ha rs' q _ Ar cr w4 hCr4 hcr hha).mono ?_; rintro e5 w5 ⟨rfl, hb5⟩; have hst5 := (F3.out.1.to hb4).to hb5; have hx5 := (hb5.block _ (lt_of ((hb4.block _ (lt_of F3.out.2.1)).trans F3.out.2.1))).trans ((hb4.block _ (lt_of F3.out.2.1)).trans F3.out.2.1); have hiv5 := (F3.out.2.2.step (fun k hk hlt => ⟨hb4.block k hlt, hk⟩)).step (fun k hk hlt => ⟨hb5.block k hlt, hk⟩)))
                  go_roundw
                  case rel => exact ⟨j + 1, s', rs', _, _, rfl, rfl, by simp, by omega, Aside0.mk X.out.1, he', hrs', hle, Aside0.mk hst5⟩
                  case measure => simp [intOf]; omega
                | false =>
                  have hY := Y.out
                  rw [if_neg (by decide)] at hY
                  obtain rfl := Option.some.inj hY
                  clear hY Y
                  have hsl : s'.length + 1 ≤ 1000000 := by
                    have := X.out.2.1
                    rw [show (s' ++ [(r2, wrap64 (e.2 + 1))]).length = s'.length + 1 by simp] at this
                    omega
                  obtain ⟨i0, hi0, hz0, hz1, hz2⟩ := info_parts infoInt
                  have hrl : rs'.length ≤ 1000000 := by have := hrs'.out; omega
                  go_wp2_with (first | (go_at_call 20; refine (HC'.out.ah e.1 (j : Int) t A' cc' wr hC' hcc' ht).mono ?_; rintro e2 w2 ⟨rfl, hb2⟩; have n0 : w2.cell? ⟨gL', i * 3, none⟩ = some (.int .i64 r1) := (hb2.cell (p := ⟨gL', i * 3, none⟩) hgL').trans m0; have n1 : w2.cell? ⟨gL', i * 3 + 1, none⟩ = some (.slice A' e.1.length cc') := (hb2.cell (p := ⟨gL', i * 3 + 1, none⟩) hgL').trans m1) | (go_at_call 21; refine (HC'.out.mv e.1 (j : Int) r1 r2 A' cc' w2 (Kd.C_below hC' hb2) hcc' hm).mono ?_; rintro e3 w3 ⟨v1, rfl, hv3, hb3⟩; obtain ⟨A3, c3, rfl⟩ := Kd.R_slice hv3; have hR3 := Kd.R_reads' hv3; have hC3 := Kd.C_alloc hR3.2.2 (.cells #[.int .i64 r1, .slice A3 r2.length c3] 28 (0, 0)); have hB3 := hb3.alloc hb3.size (.cells #[.int .i64 r1, .slice A3 r2.length c3] 28 (0, 0)); have hx3 := (Go.MapKept.heap_alloc w3 (.cells #[.int .i64 r1, .slice A3 r2.length c3] 28 (0, 0))).1; have hst2 := X.out.2.2.to hb2; have hiv3 : IV (w3.alloc (.cells #[.int .i64 r1, .slice A3 r2.length c3] 28 (0, 0))) (okA w.heap.size (.slice (some ⟨gL', 0, none⟩) s'.length cL') (.slice Ar rs'.length cr)) (.slice A3 r2.length c3) r2 := Kd.V_alloc (hst2.fresh hv3) _; have hgn : wr.heap.size ≤ w3.heap.size := Nat.le_trans hb2.size hb3.size; have hst3 := hst2.to hB3; have F3 := Aside0.mk (And.intro hst3 (And.intro hx3 hiv3)); have hCr3 := Kd.C_below (Kd.C_below hCr hb2) hB3; clear hst2 hst3 hx3 hiv3) | (go_at_call 33; refine (HC'.out.rk r2 q A3 c3 _ hC3 hR3.2.1 hrk).mono ?_; rintro e4 w4 ⟨rfl, hb4⟩; have hCr4 := Kd.C_below hCr3 hb4) | (go_at_call 41; refine (HC'.out.ha rs' q _ Ar cr w4 hCr4 hcr hha).mono ?_; rintro e5 w5 ⟨rfl, hb5⟩; have hst5 := (F3.out.1.to hb4).to hb5; have hx5 := (hb5.block _ (lt_of ((hb4.block _ (lt_of F3.out.2.1)).trans F3.out.2.1))).trans ((hb4.block _ (lt_of F3.out.2.1)).trans F3.out.2.1); have hiv5 := (F3.out.2.2.step (fun k hk hlt => ⟨hb4.block k hlt, hk⟩)).step (fun k hk hlt => ⟨hb5.block k hlt, hk⟩)) | (at_builtin; refine wpList_append_keep _ rfl _ _ _ rfl w.heap.size 3 i0 _ 1 8 Tryd.underlying22 hi0 hz0 hz1 hz2 rfl (by omega) (.slice Ar rs'.length cr) rs'.length _ rfl (hst5.to (below_alloc (Below.refl _ w5) (.cells #[.int .i64 q] 3 (0, 0)))).ranks ⟨w5.heap.size, 0, none⟩ 1 1 [.int .i64 q] rfl rfl (cells_of (Go.MapKept.heap_alloc w5 (.cells #[.int .i64 q] 3 (0, 0))).1) (by simp [Value.oneCell']) (by omega) (by simp only [maxLen]; omega) (by omega) (hst5.to (below_alloc (Below.refl _ w5) (.cells #[.int .i64 q] 3 (0, 0)))).ge ?_; intro VR2 w6 hown6 hg6 hat6 hold6))
                  have hst5a := hst5.to (below_alloc (Below.refl _ w5) (.cells #[.int .i64 q] 3 (0, 0)))
                  have hst6 := hst5a.rank hown6 hg6 hat6
                  have hx5a := ((below_alloc (Below.refl _ w5) (.cells #[.int .i64 q] 3 (0, 0))).block _ (lt_of hx5)).trans hx5
                  have hx6 := (hg6.block _ (lt_of hx5a) (fun z => ne_sideA hst5a.ranks hx5a (by decide) z)).trans hx5a
                  have hiv6 := (hiv5.step (W' := w5.alloc (.cells #[.int .i64 q] 3 (0, 0))) (fun k hk hlt => ⟨(below_alloc (Below.refl _ w5) (.cells #[.int .i64 q] 3 (0, 0))).block k hlt, hk⟩)).step (W' := w6) (ok' := okA w.heap.size (.slice (some ⟨gL', 0, none⟩) s'.length cL') VR2) (fun k hk hlt => ⟨hg6.block k hlt hk.1.2, ⟨hk.1.1, apart_after hat6 hlt hk.1.2⟩, hk.2⟩)
                  obtain ⟨gL6, cL6, A6, cc6, hV6, _, _, _, hcell6, _⟩ := hst6.row.get (sz := 3) (fun _ _ => rfl) he'.out
                  obtain rfl : gL' = gL6 := by
                    simp only [Value.slice.injEq, Option.some.injEq, Addr.mk.injEq] at hV6
                    exact hV6.1.1
                  have m6 : w6.cell? ⟨gL', i * 3 + 2, none⟩ = some (.int .i64 e.2) := hcell6 2 _ rfl
                  have FIN := Aside0.mk (And.intro X.out.1 (And.intro hst6 (And.intro hiv6 (And.intro hx6 m6))))
                  clear hst6 hst5a hst5 hx5 hx5a hx6 hiv5 hiv6 hcell6 m6 X F3 hown6 hg6 hat6 hold6
                  refine R14_region rfl R14.tab (by intro c a d v w z; exact z) rfl rfl rfl rfl rfl rfl rfl rfl rfl rfl rfl rfl rfl rfl rfl rfl rfl rfl rfl rfl rfl rfl rfl rfl rfl rfl rfl rfl rfl rfl rfl rfl rfl rfl rfl rfl rfl rfl rfl rfl rfl rfl rfl rfl rfl rfl rfl rfl (l2 := r2) (fr := e.2) (s := s') (n₀ := w.heap.size) (w0 := w) (fun VL2 x1 W2 M2 => ?_) (by omega) hii rfl ?_ rfl w6 ⟨?_, ?_, ?_⟩ FIN.out.2.1 FIN.out.2.2.1 (by omega) (by omega)
                  · go_wp2_with fail
                    go_roundw
                    case rel => exact ⟨j + 1, s' ++ [(r2, wrap64 (e.2 + 1))], rs' ++ [q], VL2, _, rfl, rfl, by simp, by omega, Aside0.mk FIN.out.1, Aside0.mk (by rw [List.getElem?_append_left hii]; exact he'.out), Aside0.mk (by simp [hrs'.out]), by rw [List.length_append]; omega, Aside0.mk M2⟩
                    case measure => simp [intOf]; omega
                  · exact fun W W' h1 hB => ⟨(hB.cell (World.block_lt_of_cell? W _ h1.1)).trans h1.1, (hB.cell (World.block_lt_of_cell? W _ h1.2.1)).trans h1.2.1, (hB.cell (World.block_lt_of_cell? W _ h1.2.2)).trans h1.2.2⟩
                  · exact (blk_cell FIN.out.2.2.2.1 0).trans rfl
                  · exact (blk_cell FIN.out.2.2.2.1 1).trans rfl
                  · exact FIN.out.2.2.2.2
              · rw [if_neg hr1] at h2
                cases h2
          · have ej : j = 4 := by omega
            subst ej
            have e1 := Option.some.inj hk.out
            injection e1 with e1 e2
            subst e1 e2
            have X := Aside0.mk hst.out
            clear hst hk
            go_wp2_with fail
            go_roundg g
            case measure => omega
            case rel => exact ⟨i + 1, s', rs', _, _, rfl, rfl, by simp, H3, by omega, by omega, hrs', X⟩
      · have h1 := hf.out
        rw [loopF, show (s, rs).1[i]? = none from List.getElem?_eq_none (by show s.length ≤ i; omega)] at h1
        obtain rfl := Option.some.inj h1
        obtain ⟨gL, cL, _, _, rfl, _⟩ := hst.out.row.get (sz := 3) (fun _ _ => rfl) (List.getElem?_eq_getElem hs0)
        have X := Aside0.mk hst.out
        clear hst hf
        go_wp2_with fail
        go_ret
        exact ⟨_, rfl, _, _, X.out⟩
end BA
end Go.Proofs.YtmplgijnmjdogaaDoorV
namespace Go.Proofs.YtmplgijnmjdogaaDoorV
open Go.RowKit Go.Proofs.YtmplgijnmjdogaaDoorW.PrintWords Go.Proofs.YtmplgijnmjdogaaDoorW.PrintLast
namespace SE
section
variable {mv mv' : Mv} {tx tx' : List Int → Option ByteArray} {a : Int} (hm : ∀ l d, LeO (mv l d) (mv' l d)) (ht : ∀ l, LeO (tx l) (tx' l))
include hm ht
theorem lk_mono (e : Ent) (d : Int) (s : List Ent) : LeO (lk mv tx a e d s) (lk mv' tx' a e d s) :=
  LeO.bind (hm _ _) (fun r => LeO.ite (LeO.ite (LeO.bind (ht _) (fun t => LeO.refl _)) (LeO.refl _)) (LeO.refl _))
theorem lks_mono (e : Ent) : ∀ (ds : List Int) (s : List Ent), LeO (lks mv tx a e ds s) (lks mv' tx' a e ds s)
  | [], s => LeO.refl _
  | d :: ds, s => LeO.bind (lk_mono hm ht e d s) (fun t => lks_mono e ds t)
theorem loopF_mono : ∀ (f i : Nat) (s : List Ent), LeO (loopF mv tx a f i s) (loopF mv' tx' a (f + 1) i s)
  | 0, i, s => LeO.none _
  | f + 1, i, s => by
    rw [loopF, loopF]
    cases s[i]? with
    | none => exact LeO.refl _
    | some e => exact LeO.bind (lks_mono hm ht e dirsI s) (fun t => loopF_mono f (i + 1) t)
theorem srch_mono (f : Nat) (l : List Int) : LeO (srch mv tx a f l) (srch mv' tx' a (f + 1) l) :=
  LeO.bind (ht l) (fun t => LeO.ite (loopF_mono hm ht f 0 _) (LeO.refl _))
end
end SE
namespace BA
structure Le (F F' : Fns) : Prop where
  ah : ∀ l d, LeO (F.ah l d) (F'.ah l d)
  mv : ∀ l d, LeO (F.mv l d) (F'.mv l d)
  rk : ∀ l, LeO (F.rk l) (F'.rk l)
  ha : ∀ l x, LeO (F.ha l x) (F'.ha l x)
section
variable {F F' : Fns} {a : Int} (h : Le F F')
include h
theorem lk_mono (e : Nd) (d : Int) (s : Sg) : LeO (lk F a e d s) (lk F' a e d s) :=
  LeO.bind (h.ah _ _) (fun t => LeO.ite (LeO.refl _) (LeO.bind (h.mv _ _) (fun r => LeO.ite (LeO.bind (h.rk _) (fun q => LeO.bind (h.ha _ _) (fun b => LeO.refl _))) (LeO.refl _))))
theorem lks_mono (e : Nd) : ∀ (ds : List Int) (s : Sg), LeO (lks F a e ds s) (lks F' a e ds s)
  | [], s => LeO.refl _
  | d :: ds, s => LeO.bind (lk_mono h e d s) (fun t => lks_mono e ds t)
theorem loopF_mono : ∀ (f i : Nat) (s : Sg), LeO (loopF F a f i s) (loopF F' a (f + 1) i s)
  | 0, i, s => LeO.none _
  | f + 1, i, s => by
    rw [loopF, loopF]
    cases s.1[i]? with
    | none => exact LeO.refl _
    | some e => exact LeO.bind (lks_mono h e dirsN s) (fun t => loopF_mono f (i + 1) t)
end
end BA
end Go.Proofs.YtmplgijnmjdogaaDoorV
