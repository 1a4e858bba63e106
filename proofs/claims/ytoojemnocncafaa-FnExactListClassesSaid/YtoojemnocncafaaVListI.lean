/- The program's ListClasses: its contract. -/
import Derived.Sort.OwnSorted
import Derived.Laws.EntriesVeiled
import Derived.Lib.SlicesCompact
import Derived.Lib.OwnBridge
import Derived.Test.YtoojemnocncafaaShelf
import Derived.Test.YtoojemnocncafaaVFill
set_option linter.unusedVariables false
set_option linter.unusedSimpArgs false
namespace Go.Proofs.YtoojemnocncafaaV
open Go.Sort hiding rd
open Go.RowKit Go.Shelf Go.Proofs.YtoojemnocncafaaW.PrintWords Go.Proofs.YtoojemnocncafaaW.PrintLast
namespace FL
open RB
/-- The texts, sorted, equal neighbours taken together. -/
def sortedT (L : List ByteArray) : List (List UInt8) := Lib.compact ((L.map fun t => t.data.toList).mergeSort fun x y => decide (x ≤ y))
theorem encs_str (L : List ByteArray) : L.map Value.string = (L.map fun t => t.data.toList).map encStr := by
  rw [List.map_map]
  refine List.map_congr_left fun t _ => ?_
  show Value.string t = .string ⟨t.data.toList.toArray⟩
  rw [Array.toArray_toList]
theorem strs_enc (ts : List (List UInt8)) : ts.map encStr = (ts.map fun t => (⟨t.toArray⟩ : ByteArray)).map Value.string := by
  rw [List.map_map]
  rfl
theorem start_fs {n1 : Nat} {x y : Int} {ml : List Int} {bw bh bm bo bf cm : Nat} {Am : Option Addr} {w w3 w4 w7 w8 : World}
    (hb13 : Below w.heap.size w w3) (hbw3 : w3.heap[bw]? = some (.cells #[.int .i64 x] 3 (0, 0))) (hbh3 : w3.heap[bh]? = some (.cells #[.int .i64 y] 3 (0, 0))) (hv0 : Kd.R (Kd.int .i64) 3 w4 (w3.alloc (.cells #[] 9 (0, 0))).heap.size (fun _ => True) (.slice Am ml.length cm) ml)
    (hb4 : Below (w3.alloc (.cells #[] 9 (0, 0))).heap.size (w3.alloc (.cells #[] 9 (0, 0))) w4) (hbo : bo = w4.heap.size) (hB7 : Below w4.heap.size w4 w7) (hbo7 : w7.heap[bo]? = some (.cells #[.slice (some ⟨w3.heap.size, 0, none⟩) 0 0] 22 (0, 0))) (hbm7 : w7.heap[bm]? = some (.cells #[.slice Am ml.length cm] 36 (0, 0)))
    (hbf : bf = w7.heap.size) (hB8 : Below w7.heap.size w7 w8) (hbf8 : w8.heap[bf]? = some (.cells #[.nilFunc] 38 (0, 0))) :
    FS ⟨bw, bh, bm, bo, bf, x, y, .slice Am ml.length cm, ml⟩ w (w8.setCell ⟨bf, 0, none⟩ (clo bw bh bm bo bf)) (.slice (some ⟨w3.heap.size, 0, none⟩) 0 0) [] := by
  have hbA := below_alloc (Below.refl _ w3) (.cells #[] 9 (0, 0))
  have hg29 := (Go.MapKept.heap_alloc w3 (.cells #[] 9 (0, 0))).1
  have hsA : (w3.alloc (.cells #[] 9 (0, 0))).heap.size = w3.heap.size + 1 := by simp
  have s4 := hb4.size
  have s7 := hB7.size
  have s8 := hB8.size
  have hB79 : Below w7.heap.size w7 (w8.setCell ⟨bf, 0, none⟩ (clo bw bh bm bo bf)) := hB8.setCell (p := ⟨bf, 0, none⟩) (by show w7.heap.size ≤ bf; omega) _
  have hB49 : Below w4.heap.size w4 (w8.setCell ⟨bf, 0, none⟩ (clo bw bh bm bo bf)) := hB7.trans (hB79.mono s7)
  have hBA9 := hb4.trans (hB49.mono s4)
  have hB39 := hbA.trans (hBA9.mono hbA.size)
  refine ⟨(hB39.block _ (lt_of hbw3)).trans hbw3, (hB39.block _ (lt_of hbh3)).trans hbh3, (hB79.block _ (lt_of hbm7)).trans hbm7, (hB79.block _ (lt_of hbo7)).trans hbo7, blk_put hbf8 0 _ rfl, ?_, ?_, hb13.trans (hB39.mono hb13.size), ?_⟩
  · refine Kd.V_mono (Kd.V_step (Kd.R_V (base' := 0) (Kd.R_bound hv0)) (fun k hk hlt => hB49.block k hlt)) (fun k hk => ⟨?_, fun e => ?_⟩)
    · have := hk.2.2.1
      show k ≠ bo
      omega
    · have h1 := hk.2.1
      simp [Value.ownBlock] at e
      omega
  · refine ⟨rfl, .inr ⟨w3.heap.size, 0, #[], rfl, hb13.size, ?_, Nat.le_refl _, by simp [maxLen], rfl, rfl⟩⟩
    exact (hBA9.block _ (by omega)).trans hg29
  · show w.heap.size ≤ bo
    have := hb13.size
    omega
/-- What the program's ListClasses leaves: nothing if there are too many texts, else the texts in a row of its own. -/
def ListPost (T : List (List UInt8)) (w : World) (e : Ending) (w' : World) : Prop := ∃ V : Value, (if T.length > 200 then e = .returned (.tuple #[.slice none 0 0, .bool false]) else e = .returned (.tuple #[V, .bool true]) ∧ w'.ownsRow w.heap.size 9 1 V T.length (T.map encStr)) ∧ Below w.heap.size w w'
theorem sortedT_len (L : List ByteArray) : (sortedT L).length ≤ L.length := by
  unfold sortedT
  have := Lib.compact_length_le ((L.map fun t => t.data.toList).mergeSort fun x y => decide (x ≤ y))
  rw [List.length_mergeSort, List.length_map] at this
  exact this
/-- Behind the sort, the compacting and the store into the box. -/
theorem end_own {E : Env} {w w1 w2 : World} {g cap nn q : Nat} {os : Array Obj} {L : List ByteArray} {V : Value} (srt cmp : List (List UInt8)) (hsl : srt.length = L.length) (hcl : cmp.length ≤ L.length) (hF : FS E w w1 (.slice (some ⟨g, 0, none⟩) L.length cap) L)
    (hw2 : w2 = putRow encStr (Sort.ahead (grow (putRow encStr (Sort.ahead w1 nn) g 0 srt.toArray) os) q) g 0 (cmp ++ List.replicate (L.length - cmp.length) []).toArray) :
    w2.heap[E.bo]? = some (.cells #[.slice (some ⟨g, 0, none⟩) L.length cap] 22 (0, 0)) ∧ (w2.setCell ⟨E.bo, 0, none⟩ V).ownsRow w.heap.size 9 1 (.slice (some ⟨g, 0, none⟩) cmp.length cap) cmp.length (cmp.map encStr) ∧ Below w.heap.size w (w2.setCell ⟨E.bo, 0, none⟩ V) := by
  have hown : w1.ownsRow w.heap.size 9 1 (.slice (some ⟨g, 0, none⟩) L.length cap) L.length ((L.map fun t => t.data.toList).map encStr) := by rw [← encs_str]; exact hF.own
  have hne := ne_own hF.own hF.co (by decide)
  have hgo : E.bo ≠ g := fun e => hne (by rw [e]; rfl)
  rcases hown.2 with ⟨h0, _⟩ | ⟨g', cap', cur, hv, hbase, hb, h1, h2, h3, h4⟩
  · cases h0
  injection hv with e1 _ e3
  injection e1 with e1
  injection e1 with e1
  subst e1 e3
  have hl1 : (L.map fun t => t.data.toList).length = L.length := List.length_map ..
  have hs := ownsRow_sorted (n := nn) (os := os) (ss := L.map fun t => t.data.toList) (ts := srt) (by rw [hl1]; exact hsl) hbase hb (by rw [hl1]; exact h1) h2 h3
  rw [hl1] at hs
  have hc := Lib.ownsRow_putRow (q := q) (k := cmp.length) (ys := cmp ++ List.replicate (L.length - cmp.length) []) hs (by rw [List.length_append, List.length_replicate]; omega) hcl
  rw [List.take_left, ← hw2] at hc
  have hgr := grownBy_sorted (w := w1) (n := nn) (os := os) (g := g) srt.toArray
  have hB0 := Lib.below_putRow (enc := encStr) (q := q) (d := (cmp ++ List.replicate (L.length - cmp.length) []).toArray) (hF.below.grown hgr hF.below.size (fun j hj => by have e := Option.some.inj hj; omega)) hbase
  rw [← hw2] at hB0
  have hb2 : w2.heap[E.bo]? = some (.cells #[.slice (some ⟨g, 0, none⟩) L.length cap] 22 (0, 0)) := by
    have e1 := hgr.block _ (lt_of hF.co) (fun e => hgo (Option.some.inj e))
    rw [hw2]
    simp only [putRow, mapBlock, Sort.ahead, Array.getElem?_modify, if_neg (fun e : g = E.bo => hgo e.symm)] at e1 ⊢
    exact e1.trans hF.co
  refine ⟨hb2, own_move hc (fun k hk => ?_), hB0.setCell (p := ⟨E.bo, 0, none⟩) hF.lo V⟩
  refine Below.heap_setCell w2 ⟨E.bo, 0, none⟩ V k (fun e => ?_)
  simp [Value.ownBlock] at hk
  exact hgo (e.symm.trans hk.symm)
set_option maxRecDepth 100000 in
set_option maxHeartbeats 8000000 in
theorem listI_yes {n : Nat} {x y many : Int} {wl bl : Nat} {ml : List Int} {tx : List Int → ByteArray} {mvf : Int → List Int → List Int} {Good : List Int → Prop} (w : World)
    (K0 : ∀ bw bh bm bo bf Vm, Con ⟨bw, bh, bm, bo, bf, x, y, Vm, ml⟩ n tx mvf Good) (hab : wl + bl ≤ n) (hg0 : Good []) (hmany : ¬ many > 5000) (hlen : (leaves (leastI tx mvf ml) n [] wl bl).length ≤ 1000000) (hpos : 0 < (leaves (leastI tx mvf ml) n [] wl bl).length)
    (HCt : ∀ W, Calls Try.prog 13 #[.int .i64 x, .int .i64 y, .int .i64 (wl : Int), .int .i64 (bl : Int)] W fun e w' => e = .returned (.tuple #[.int .i64 many, .bool true]) ∧ Below W.heap.size W w')
    (HFt : ∀ W, Calls Try.prog 14 #[.int .i64 x, .int .i64 y] W fun e w' => ∃ v0_ : Value, e = .returned v0_ ∧ Kd.R (Kd.int .i64) 3 w' W.heap.size (fun _ => True) v0_ ml ∧ Below W.heap.size W w') :
    Calls Try.prog 5 #[.int .i64 x, .int .i64 y, .int .i64 (wl : Int), .int .i64 (bl : Int)] w fun e w' => ListPost (sortedT (leaves (leastI tx mvf ml) n [] wl bl)) w e w' := by
  have hm0 : decide (many > 5000) = false := decide_eq_false hmany
  have hm1 : decide (5000 < many) = false := decide_eq_false (by omega)
  have K := Aside0.mk (And.intro HCt (And.intro HFt (And.intro K0 (And.intro hg0 (And.intro hab (And.intro hlen hpos))))))
  clear HCt HFt K0 hmany hg0 hab hlen hpos
  go_enter Try.func5, Try.ntmps5
  go_upto_region 4 with (first
    | ((with_reducible refine gate_dst (N := 4) rfl ?_); refine box_event ?hg (N := 4) ?hd (cs := #[.int .i64 x]) (t := 3) ?hr ?_; (case hd => rfl); (case hg => rfl); (case hr => first | (go_simp; done) | (go_simp; rfl)); intro bw hgw w1 hbw hb1; have cw1 : w1.cell? ⟨bw, 0, none⟩ = some (.int .i64 x) := (blk_cell hbw 0).trans rfl; have P1 := Aside0.mk (And.intro hb1 (And.intro hbw hgw)); clear hb1 hbw hgw)
    | ((with_reducible refine gate_dst (N := 5) rfl ?_); refine box_event ?hg (N := 5) ?hd (cs := #[.int .i64 y]) (t := 3) ?hr ?_; (case hd => rfl); (case hg => rfl); (case hr => first | (go_simp; done) | (go_simp; rfl)); intro bh hgh w2 hbh hb2; have ch2 : w2.cell? ⟨bh, 0, none⟩ = some (.int .i64 y) := (blk_cell hbh 0).trans rfl; have cw2 : w2.cell? ⟨bw, 0, none⟩ = some (.int .i64 x) := (hb2.cell (p := ⟨bw, 0, none⟩) (lt_of P1.out.2.1)).trans cw1; have P2 := Aside0.mk (And.intro hb2 (And.intro hbh hgh)); clear hb2 hbh hgh)
    | (go_at_call 13; refine (K.out.1 _).mono ?_; rintro e w3 ⟨rfl, hb3⟩))
  have hb13 : Below w.heap.size w w3 := (P1.out.1.trans (P2.out.1.mono P1.out.1.size)).trans (hb3.mono (Nat.le_trans P1.out.1.size P2.out.1.size))
  have hbw3 := (hb3.block _ (lt_of ((P2.out.1.block _ (lt_of P1.out.2.1)).trans P1.out.2.1))).trans ((P2.out.1.block _ (lt_of P1.out.2.1)).trans P1.out.2.1)
  have hbh3 := (hb3.block _ (lt_of P2.out.2.1)).trans P2.out.2.1
  have cw3 : w3.cell? ⟨bw, 0, none⟩ = some (.int .i64 x) := (blk_cell hbw3 0).trans rfl
  have ch3 : w3.cell? ⟨bh, 0, none⟩ = some (.int .i64 y) := (blk_cell hbh3 0).trans rfl
  have hbA := below_alloc (Below.refl _ w3) (.cells #[] 9 (0, 0))
  have hg29 := (Go.MapKept.heap_alloc w3 (.cells #[] 9 (0, 0))).1
  have P3 := Aside0.mk (And.intro hb13 (And.intro hbw3 (And.intro hbh3 (And.intro hbA hg29))))
  have cwA : (w3.alloc (.cells #[] 9 (0, 0))).cell? ⟨bw, 0, none⟩ = some (.int .i64 x) := (hbA.cell (p := ⟨bw, 0, none⟩) (lt_of hbw3)).trans cw3
  have chA : (w3.alloc (.cells #[] 9 (0, 0))).cell? ⟨bh, 0, none⟩ = some (.int .i64 y) := (hbA.cell (p := ⟨bh, 0, none⟩) (lt_of hbh3)).trans ch3
  clear hb13 hbw3 hbh3 hbA hg29 hb3 cw1 cw2 ch2
  go_upto_region 5 with (first
    | (go_at_call 14; refine (K.out.2.1 _).mono ?_; rintro e w4 ⟨v0, rfl, hv0, hb4⟩; obtain ⟨Am, cm, rfl⟩ := Kd.R_slice hv0; have P4 := Aside0.mk (And.intro hv0 hb4); clear hv0 hb4 cw3 ch3 cwA chA)
    | ((with_reducible refine gate_dst (N := 12) rfl ?_); refine box_event ?hg (N := 12) ?hd (cs := #[.slice none 0 0]) (t := 22) ?hr ?_; (case hd => rfl); (case hg => rfl); (case hr => first | (go_simp; done) | (go_simp; rfl)); intro bo hgo w5 hbo hb5; have co5 : w5.cell? ⟨bo, 0, none⟩ = some (.slice none 0 0) := (blk_cell hbo 0).trans rfl; have fo5 := blk_frozen hbo 0; have P5 := Aside0.mk (And.intro hb5 (And.intro hbo hgo)); clear hb5 hbo hgo)
    | ((with_reducible refine gate_dst (N := 13) rfl ?_); refine box_event ?hg (N := 13) ?hd (cs := #[.slice none 0 0]) (t := 36) ?hr ?_; (case hd => rfl); (case hg => rfl); (case hr => first | (go_simp; done) | (go_simp; rfl)); intro bm hgm w6 hbm hb6; have cm6 : w6.cell? ⟨bm, 0, none⟩ = some (.slice none 0 0) := (blk_cell hbm 0).trans rfl; have fm6 := blk_frozen hbm 0; have hbo6 := (hb6.block _ (lt_of P5.out.2.1)).trans P5.out.2.1; have co6 : w6.cell? ⟨bo, 0, none⟩ = some (.slice none 0 0) := (blk_cell hbo6 0).trans rfl; have fo6 := blk_frozen hbo6 0; have hne : ¬ bm = bo := (by have := lt_of P5.out.2.1; have := hgm; omega); have hne2 : ¬ bo = bm := (by have := lt_of P5.out.2.1; have := hgm; omega); have P6 := Aside0.mk (And.intro hb6 (And.intro hbm (And.intro hgm (And.intro hbo6 hne)))); clear hb6 hbm hgm hbo6 co5 fo5))
  have hbo7 : ((w6.setCell ⟨bo, 0, none⟩ (.slice (some ⟨w3.heap.size, 0, none⟩) 0 0)).setCell ⟨bm, 0, none⟩ (.slice Am ml.length cm)).heap[bo]? = some (.cells #[.slice (some ⟨w3.heap.size, 0, none⟩) 0 0] 22 (0, 0)) := (Below.heap_setCell _ ⟨bm, 0, none⟩ _ bo hne2).trans (blk_put P6.out.2.2.2.1 0 _ rfl)
  have hbm7 : ((w6.setCell ⟨bo, 0, none⟩ (.slice (some ⟨w3.heap.size, 0, none⟩) 0 0)).setCell ⟨bm, 0, none⟩ (.slice Am ml.length cm)).heap[bm]? = some (.cells #[.slice Am ml.length cm] 36 (0, 0)) := blk_put ((Below.heap_setCell w6 ⟨bo, 0, none⟩ _ bm hne).trans P6.out.2.1) 0 _ rfl
  have hB7 : Below w4.heap.size w4 ((w6.setCell ⟨bo, 0, none⟩ (.slice (some ⟨w3.heap.size, 0, none⟩) 0 0)).setCell ⟨bm, 0, none⟩ (.slice Am ml.length cm)) := by
    have h1 := P5.out.1.size
    exact below_set (below_set (P5.out.1.trans (P6.out.1.mono h1)) (by have := P5.out.2.2; omega)) (by have := P6.out.2.2.1; omega)
  obtain ⟨w7, hw7⟩ : ∃ w7, ((w6.setCell ⟨bo, 0, none⟩ (.slice (some ⟨w3.heap.size, 0, none⟩) 0 0)).setCell ⟨bm, 0, none⟩ (.slice Am ml.length cm)) = w7 := ⟨_, rfl⟩
  rw [hw7] at hbo7 hbm7 hB7 ⊢
  clear hw7 hne hne2 fo6 co6 fm6 cm6
  go_upto_region 7 with ((with_reducible refine gate_dst (N := 14) rfl ?_); refine box_event ?hg (N := 14) ?hd (cs := #[.nilFunc]) (t := 38) ?hr ?_; (case hd => rfl); (case hg => rfl); (case hr => first | (go_simp; done) | (go_simp; rfl)); intro bf hgf w8 hbf hb8; have cf8 : w8.cell? ⟨bf, 0, none⟩ = some .nilFunc := (blk_cell hbf 0).trans rfl; have ff8 := blk_frozen hbf 0; have P8 := Aside0.mk (And.intro hb8 (And.intro hbf hgf)); clear hb8 hbf hgf)
  have hF := start_fs (n1 := 0) P3.out.1 P3.out.2.1 P3.out.2.2.1 P4.out.1 P4.out.2 P5.out.2.2 hB7 hbo7 hbm7 P8.out.2.2 P8.out.1 P8.out.2.1
  obtain ⟨w9, hw9⟩ : ∃ w9, w8.setCell ⟨bf, 0, none⟩ (clo bw bh bm bo bf) = w9 := ⟨_, rfl⟩
  rw [hw9] at hF ⊢
  have cf9 : w9.cell? ⟨bf, 0, none⟩ = some (clo bw bh bm bo bf) := (blk_cell hF.cf 0).trans rfl
  have hB9 := hF.below
  have R := Aside0.mk (And.intro (K.out.2.2.1 bw bh bm bo bf (.slice Am ml.length cm)) hF)
  clear hF hbo7 hbm7 hB7 hw9 cf8 ff8
  have hcall := fill_calls R.out.1 w n [] wl bl 0 none w9 (.slice (some ⟨w3.heap.size, 0, none⟩) 0 0) [] (by simp) K.out.2.2.2.2.1 K.out.2.2.2.1 R.out.2 (Kd.V_nil _ _ _ _ _) (by simpa using K.out.2.2.2.2.2.1)
  obtain ⟨LV, hLV⟩ : ∃ LV, leaves (leastI tx mvf ml) n [] wl bl = LV := ⟨_, rfl⟩
  have hcall2 : Calls Try.prog 15 #[.slice none 0 0, .int .i64 (wl : Int), .int .i64 (bl : Int), .pointer (some ⟨bw, 0, none⟩), .pointer (some ⟨bh, 0, none⟩), .pointer (some ⟨bm, 0, none⟩), .pointer (some ⟨bo, 0, none⟩), .pointer (some ⟨bf, 0, none⟩)] w9 fun e W' => e = .returned (.tuple #[]) ∧ ∃ Vo', FS ⟨bw, bh, bm, bo, bf, x, y, .slice Am ml.length cm, ml⟩ w W' Vo' LV := hcall.mono (fun e W' hh => ⟨hh.1, by
    obtain ⟨Vo', h1, _⟩ := hh.2
    rw [List.nil_append] at h1
    rw [← hLV]
    exact ⟨Vo', h1⟩⟩)
  have hpos := K.out.2.2.2.2.2.2
  rw [hLV] at hpos
  have hlenL := K.out.2.2.2.2.2.1
  rw [hLV] at hlenL
  have HLV := Aside0.mk hLV
  clear hcall hLV
  go_upto_region 8 with (go_at_call 15; (with_reducible refine hcall2.mono ?_); rintro e w10 ⟨rfl, Vo, hF10⟩)
  obtain ⟨g, cap, cur, rfl, hgb, hgc⟩ : ∃ g cap cur, Vo = .slice (some ⟨g, 0, none⟩) LV.length cap ∧ w10.heap[g]? = some (.cells cur 9 (0, 0)) ∧ LV.length ≤ cap ∧ cur.toList.take LV.length = (LV.map fun t => t.data.toList).map encStr := by
    rcases hF10.own.2 with ⟨_, h0⟩ | ⟨g, cap, cur, rfl, _, hb, h1, _, _, h4⟩
    · omega
    · exact ⟨g, cap, cur, rfl, hb, h1, by rw [← encs_str, ← Nat.mul_one LV.length]; exact h4⟩
  have hH0 : Holds encStr w10 g 0 (LV.map fun t => t.data.toList).toArray := holds_of_block hgb (by rw [List.length_map]; exact hgc.2)
  have hlS : (LV.map fun t => t.data.toList).length = LV.length := List.length_map ..
  have hsort := Any.slices_Sort_string Try.lays190 g 0 cap (LV.map fun t => t.data.toList) w10 hH0 (lt_of hgb) (by omega)
  rw [hlS] at hsort
  obtain ⟨srt, hsrt⟩ : ∃ srt, ((LV.map fun t => t.data.toList).mergeSort fun x y => decide (x ≤ y)) = srt := ⟨_, rfl⟩
  rw [hsrt] at hsort
  have hsl : srt.length = LV.length := by rw [← hsrt, List.length_mergeSort, hlS]
  have hcl : (Lib.compact srt).length ≤ LV.length := by have := Lib.compact_length_le srt; omega
  have eT : sortedT LV = Lib.compact srt := by unfold sortedT; rw [hsrt]
  have co10 : w10.cell? ⟨bo, 0, none⟩ = some (.slice (some ⟨g, 0, none⟩) LV.length cap) := (blk_cell hF10.co 0).trans rfl
  have hhs : ∀ nn os, Holds encStr (grow (putRow encStr (Sort.ahead w10 nn) g 0 srt.toArray) os) g 0 srt.toArray := fun nn os => holds_grow encStr _ os g 0 _ (by simpa [putRow, mapBlock, Sort.ahead] using lt_of hgb) (holds_putRow encStr _ g 0 _ _ (holds_ahead encStr w10 nn g 0 _ hH0) (by simp [hsl]))
  have hgo : ¬ some bo = some g := fun e => ne_own hF10.own hF10.co (by decide) (by rw [e]; rfl)
  have hco11 : ∀ nn os, (grow (putRow encStr (Sort.ahead w10 nn) g 0 srt.toArray) os).cell? ⟨bo, 0, none⟩ = some (.slice (some ⟨g, 0, none⟩) LV.length cap) := fun nn os => (blk_cell (((grownBy_sorted (n := nn) (os := os) (g := g) srt.toArray).block _ (lt_of hF10.co) hgo).trans hF10.co) 0).trans rfl
  have hend := fun nn q os V => end_own (E := ⟨bw, bh, bm, bo, bf, x, y, .slice Am ml.length cm, ml⟩) (w := w) (nn := nn) (q := q) (os := os) (V := V) srt (Lib.compact srt) hsl hcl hF10 rfl
  have Y := Aside0.mk (And.intro hhs (And.intro hco11 (And.intro hend (And.intro eT (And.intro hsrt (And.intro hF10 hgc.1))))))
  clear hhs hco11 hend eT hsrt hF10 hH0 hgc hgb hgo hcall2 hlS
  go_upto_region 9 with (go_at_call 19; refine hsort.mono ?_; rintro e w11 ⟨rfl, nn, os, rfl⟩)
  have co11 := Y.out.2.1 nn os
  have hcomp := Any.slices_Compact_string Try.lays194 g 0 cap srt (grow (putRow encStr (Sort.ahead w10 nn) g 0 srt.toArray) os) (Y.out.1 nn os) (by omega) (by rw [hsl]; exact Y.out.2.2.2.2.2.2)
  rw [hsl] at hcomp
  have hendn := Aside0.mk (fun q V => Y.out.2.2.1 nn q os V)
  obtain ⟨w11, hw11⟩ : ∃ w11, grow (putRow encStr (Sort.ahead w10 nn) g 0 srt.toArray) os = w11 := ⟨_, rfl⟩
  rw [hw11] at co11 hcomp hendn ⊢
  clear hsort hw11 co10
  obtain ⟨cl, hcll⟩ : ∃ cl, (Lib.compact srt).length = cl := ⟨_, rfl⟩
  rw [hcll] at hcomp hcl
  go_upto_region 10 with (go_at_call 20; refine hcomp.mono ?_; rintro e w12 ⟨rfl, q, hq12⟩; have Z12 := Aside0.mk hq12; have hb12 : w12.heap[bo]? = some (.cells #[.slice (some ⟨g, 0, none⟩) LV.length cap] 22 (0, 0)) := (by rw [hq12, ← hcll]; exact (hendn.out q .nilFunc).1); have co12 : w12.cell? ⟨bo, 0, none⟩ = some (.slice (some ⟨g, 0, none⟩) LV.length cap) := (blk_cell hb12 0).trans rfl; have fo12 := blk_frozen hb12 0; clear hq12 co11)
  have hfin : (w12.setCell ⟨bo, 0, none⟩ (.slice (some ⟨g, 0, none⟩) cl cap)).ownsRow w.heap.size 9 1 (.slice (some ⟨g, 0, none⟩) (Lib.compact srt).length cap) (Lib.compact srt).length ((Lib.compact srt).map encStr) ∧ Below w.heap.size w (w12.setCell ⟨bo, 0, none⟩ (.slice (some ⟨g, 0, none⟩) cl cap)) := by
    rw [Z12.out, ← hcll]
    exact (hendn.out q _).2
  have hput := blk_put hb12 0 (.slice (some ⟨g, 0, none⟩) cl cap) rfl
  have co13 : (w12.setCell ⟨bo, 0, none⟩ (.slice (some ⟨g, 0, none⟩) cl cap)).cell? ⟨bo, 0, none⟩ = some (.slice (some ⟨g, 0, none⟩) cl cap) := (blk_cell hput 0).trans rfl
  have FIN := Aside0.mk (And.intro hfin hcll)
  clear hfin hput hb12 co12 fo12 hcll
  by_cases h2 : cl > 200
  · have hd2 : decide ((cl : Int) > 200) = true := decide_eq_true (by omega)
    go_wp2
    refine bodyPost_ret (results_tmp2 rfl _ _ _) rfl ?_
    refine ⟨.slice none 0 0, ?_, FIN.out.1.2⟩
    rw [HLV.out, Y.out.2.2.2.1, FIN.out.2, if_pos h2]
    rfl
  · have hd2 : decide ((cl : Int) > 200) = false := decide_eq_false (by omega)
    go_wp2
    refine bodyPost_ret (results_tmp2 rfl _ _ _) rfl ?_
    refine ⟨.slice (some ⟨g, 0, none⟩) cl cap, ?_, FIN.out.1.2⟩
    rw [HLV.out, Y.out.2.2.2.1, FIN.out.2, if_neg h2]
    have h := FIN.out.1.1
    rw [FIN.out.2] at h
    exact ⟨rfl, h⟩
end FL
end Go.Proofs.YtoojemnocncafaaV
