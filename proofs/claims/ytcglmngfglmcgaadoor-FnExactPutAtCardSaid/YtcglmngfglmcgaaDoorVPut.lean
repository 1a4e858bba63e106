/- Contract of the program's read, as a row that may be written: the bytes of a text's rows in a row of their own. -/
import Derived.WalkKit
import Derived.RangeFuncRecord
import Derived.Shelf.RegionOpenPlain
import Derived.Deep.LoopGhost
import Derived.Deep.RegionWith
import Derived.Lib.Walk
import Derived.Lib.ConvBytes
import Derived.Test.YtcglmngfglmcgaaDoorProg
import Derived.Test.YtcglmngfglmcgaaDoorWLast
import Derived.Test.YtcglmngfglmcgaaDoorWMore
set_option linter.unusedVariables false
set_option linter.unusedSimpArgs false
namespace Go.Proofs.YtcglmngfglmcgaaDoorV
open Go.RowKit Go.Proofs.YtcglmngfglmcgaaDoorW.PrintWords Go.Proofs.YtcglmngfglmcgaaDoorW.PrintLast
namespace PA
theorem cell_heap {W : World} {B j : Nat} {cur : Array Value} {t : TypeId} {fr : Nat × Nat} {v : Value} (h : W.heap[B]? = some (.cells cur t fr)) (hj : cur[j]? = some v) : W.cell? ⟨B, j, none⟩ = some v := by
  simp [World.cell?, h, hj]
theorem row_cells {w : World} {A : Option Addr} {l : List ByteArray} (hr : Kd.C Kd.string w A l.length l) (hpos : 0 < l.length) :
    ∃ b off : Nat, A = some ⟨b, off, none⟩ ∧ b < w.heap.size ∧ w.cell? ⟨b, off, none⟩ = some (.string l[0]) := by
  obtain ⟨ad, hA, hcell⟩ := hr.2.2 hpos
  obtain ⟨c, hl, hk, hcc⟩ := hcell 0 l[0] (List.getElem?_eq_getElem hpos)
  have hk' : c = [Value.string l[0]] := hk
  subst hk'
  have hz := hcc 0 (.string l[0]) rfl
  have e1 : 0 * (Kd.string).sz + 0 = 0 := by omega
  rw [e1, show ad.add 0 = ad from by simp [Addr.add]] at hz
  obtain ⟨b, off, sp⟩ := ad
  have hsp : sp = none := World.cell?_spot hz
  subst hsp
  exact ⟨b, off, hA, World.block_lt_of_cell? w _ hz, hz⟩
/-- The row of a conversion. -/
theorem conv_row (w : World) (s : ByteArray) : ∃ cur : Array Value, (Lib.bytesWorld w 5 s).heap[w.heap.size]? = some (.cells cur 5 (cur.size, cur.size + 1)) ∧ cur.size = grownCap w s.size 0 5 ∧ cur.toList.take s.size = (s.data.toList.map fun b => ((b.toNat : Nat) : Int)).map (Value.int .u8) := by
  refine ⟨Lib.bytesCells w 5 s, Lib.bytesWorld_at_new w 5 s, ?_, ?_⟩
  · have := grownCap_ge w s.size 0 5
    have e : s.data.size = s.size := rfl
    simp [Lib.bytesCells, e]
    omega
  · have e : s.data.toList.length = s.size := by rw [Array.length_toList]; rfl
    simp only [Lib.bytesCells, Array.toList_append, Array.toList_map]
    rw [List.take_append_of_le_length (by rw [List.length_map]; omega), List.take_of_length_le (by rw [List.length_map]; omega), List.map_map]
    rfl
theorem set_heap1 {W : World} {B j : Nat} {cur : Array Value} {t : TypeId} {fr : Nat × Nat} {v : Value} (h : W.heap[B]? = some (.cells cur t fr)) : (W.setCell ⟨B, j, none⟩ v).heap[B]? = some (.cells (cur.setIfInBounds j v) t fr) := by
  obtain ⟨hlt, hk⟩ := Array.getElem?_eq_some_iff.1 h
  show (W.heap.modify B _)[B]? = _
  rw [Array.getElem?_eq_getElem (by rw [Array.size_modify]; exact hlt), Array.getElem_modify_self, hk]
  rfl
theorem box3 {W : World} {B : Nat} {x y z : Value} {t : TypeId} (h : W.heap[B]? = some (.cells #[x, y, z] t (0, 0))) :
    (W.cell? ⟨B, 0, none⟩ = some x ∧ W.cell? ⟨B, 1, none⟩ = some y ∧ W.cell? ⟨B, 2, none⟩ = some z) ∧ W.frozen? ⟨B, 0, none⟩ = false ∧ W.frozen? ⟨B, 1, none⟩ = false ∧ W.frozen? ⟨B, 2, none⟩ = false :=
  ⟨⟨cell_heap h rfl, cell_heap h rfl, cell_heap h rfl⟩, by simp [World.frozen?, h], by simp [World.frozen?, h], by simp [World.frozen?, h]⟩
theorem two_new (w : World) (o1 o2 : Obj) : ((w.alloc o1).alloc o2).heap[w.heap.size]? = some o1 ∧ ((w.alloc o1).alloc o2).heap[w.heap.size + 1]? = some o2 ∧ ((w.alloc o1).alloc o2).heap.size = w.heap.size + 2 := by
  refine ⟨?_, ?_, by simp⟩
  · exact (Below.heap_alloc _ _ _ (by simp)).trans (World.alloc_heap_new w _)
  · have := World.alloc_heap_new (w.alloc o1) o2
    rwa [World.size_alloc] at this
theorem put3 {W : World} {B : Nat} {x y z x1 y1 z1 : Value} {t : TypeId} (h : W.heap[B]? = some (.cells #[x, y, z] t (0, 0))) :
    (((W.setCell ⟨B, 0, none⟩ x1).setCell ⟨B, 1, none⟩ y1).setCell ⟨B, 2, none⟩ z1).heap[B]? = some (.cells #[x1, y1, z1] t (0, 0)) := set_heap1 (set_heap1 (set_heap1 h))
theorem far3 {W : World} {B k : Nat} {x1 y1 z1 : Value} (h : k ≠ B) :
    (((W.setCell ⟨B, 0, none⟩ x1).setCell ⟨B, 1, none⟩ y1).setCell ⟨B, 2, none⟩ z1).heap[k]? = W.heap[k]? :=
  (Below.heap_setCell _ ⟨B, 2, none⟩ _ k h).trans ((Below.heap_setCell _ ⟨B, 1, none⟩ _ k h).trans (Below.heap_setCell _ ⟨B, 0, none⟩ _ k h))
theorem below3 {b B : Nat} {w0 W : World} {x1 y1 z1 : Value} (h : Below b w0 W) (hB : b ≤ B) : Below b w0 (((W.setCell ⟨B, 0, none⟩ x1).setCell ⟨B, 1, none⟩ y1).setCell ⟨B, 2, none⟩ z1) :=
  ((h.setCell (p := ⟨B, 0, none⟩) hB _).setCell (p := ⟨B, 1, none⟩) hB _).setCell (p := ⟨B, 2, none⟩) hB _
theorem v3 {W : World} {e base B : Nat} {ok : Nat → Prop} {v x1 y1 z1 : Value} {xs : List Int} (h : Kd.V (Kd.int .u8) e W base ok v xs) (hok : ∀ k, ok k → k ≠ B) :
    Kd.V (Kd.int .u8) e (((W.setCell ⟨B, 0, none⟩ x1).setCell ⟨B, 1, none⟩ y1).setCell ⟨B, 2, none⟩ z1) base ok v xs :=
  Kd.V_far (p := ⟨B, 2, none⟩) (Kd.V_far (p := ⟨B, 1, none⟩) (Kd.V_far (p := ⟨B, 0, none⟩) h hok _) hok _) hok _
theorem C_of_take {W : World} {g n e : Nat} {cu : Array Value} {fr : Nat × Nat} {l : List Int} (hg : W.heap[g]? = some (.cells cu e fr)) (hct : cu.toList.take n = l.map (Value.int .u8)) (hl : l.length = n) (hn : n ≤ 9223372036854775807) : Kd.C (Kd.int .u8) W (some ⟨g, 0, none⟩) n l := by
  refine ⟨hl, hn, fun _ => ⟨_, rfl, fun j p hj => ⟨[.int .u8 p], rfl, rfl, fun i u hu => ?_⟩⟩⟩
  have hjl := (List.getElem?_eq_some_iff.1 hj).1
  have hi : i = 0 := by
    have := (List.getElem?_eq_some_iff.1 hu).1
    simp at this
    omega
  subst hi
  have hu' : Value.int .u8 p = u := by simpa using hu
  subst hu'
  have e1 : j * (Kd.int .u8).sz + 0 = j := by show j * 1 + 0 = j; omega
  rw [e1, add_plain]
  refine cell_heap hg ?_
  have h1 : (cu.toList.take n)[j]? = (l.map (Value.int .u8))[j]? := by rw [hct]
  rw [List.getElem?_take_of_lt (by omega), Array.getElem?_toList, List.getElem?_map, hj] at h1
  simpa using h1
theorem take_set {cur : Array Value} {n : Nat} {st : List Int} {k : Nat} {v : Int} (ht : cur.toList.take n = st.map (Value.int .u8)) : (cur.setIfInBounds k (.int .u8 v)).toList.take n = (st.set k v).map (Value.int .u8) := by
  rw [Array.toList_setIfInBounds, List.take_set, ht, List.map_set]
end PA
open PA
set_option maxRecDepth 100000 in
set_option maxHeartbeats 2000000 in
theorem read2_calls (t : ByteArray) (rs : List ByteArray) (js : ByteArray) (w : World) (hpos : 0 < rs.length)
    (HS : ∀ W, Below w.heap.size w W → Calls Tryd.prog 48 #[.string t, .string ⟨#[47]⟩] W fun e w' => ∃ v0_ : Value, e = .returned v0_ ∧ Kd.R Kd.string 9 w' W.heap.size (fun _ => True) v0_ rs ∧ Below W.heap.size W w')
    (HJ : ∀ (A : Option Addr) (c : Nat) (W : World), Kd.C Kd.string W A rs.length rs → rs.length ≤ c → Calls Tryd.prog 49 #[.slice A rs.length c, .string ⟨#[]⟩] W fun e w' => e = .returned (.string js) ∧ Below W.heap.size W w') :
    Calls Tryd.prog 27 #[.string t] w fun e w' => ∃ (g cap : Nat) (cu : Array Value), e = .returned (.agg #[.int .i64 ((rs[0]'hpos).size : Int), .int .i64 (rs.length : Int), .slice (some ⟨g, 0, none⟩) js.size cap]) ∧ w'.heap[g]? = some (.cells cu 5 (cap, cap + 1)) ∧ cu.size = cap ∧ js.size ≤ cap ∧
      cu.toList.take js.size = (js.data.toList.map fun b => ((b.toNat : Nat) : Int)).map (Value.int .u8) ∧ w.heap.size ≤ g ∧ Below w.heap.size w w' := by
  have HS' := Aside0.mk HS
  have HJ' := Aside0.mk HJ
  clear HS HJ
  have hcv : ∀ W, (convert 9 39 (.string js)).run Tryd.prog W = .ok (.slice (some ⟨W.heap.size, 0, none⟩) js.size (grownCap W js.size 0 5)) (Lib.bytesWorld W 5 js) := fun W => Lib.run_convert_string_bytes (P := Tryd.prog) W 9 39 5 js Tryd.underlying9 Tryd.underlying39 Tryd.underlying5
  have hBa : Below w.heap.size w (w.alloc (.cells #[.int .i64 0, .int .i64 0, .slice none 0 0] 48)) := (Below.refl _ w).alloc (Nat.le_refl _) _
  have hx := World.alloc_heap_new w (.cells #[.int .i64 0, .int .i64 0, .slice none 0 0] 48)
  obtain ⟨b0, hb0⟩ : ∃ b0, w.heap.size = b0 := ⟨_, rfl⟩
  have BX := Aside0.mk (And.intro hBa hx)
  clear hBa hx
  go_enter Tryd.func27, Tryd.ntmps27
  go_wp2_with (go_at_call 48; refine (HS'.out _ BX.out.1).mono ?_; rintro e w1 ⟨v1, rfl, hR1, hb1⟩; obtain ⟨A1, c1, rfl, hc1, hC1⟩ := Kd.R_reads hR1; obtain ⟨b, off, rfl, hbl, hcl⟩ := row_cells hC1 hpos)
  have B1 : Below w.heap.size w w1 := BX.out.1.trans (hb1.mono BX.out.1.size)
  have hx1 : w1.heap[b0]? = some (.cells #[.int .i64 0, .int .i64 0, .slice none 0 0] 48 (0, 0)) := (hb1.block b0 (by simp; omega)).trans (by rw [← hb0]; exact BX.out.2)
  have HC1 := Aside0.mk hC1
  have HB1 := Aside0.mk (And.intro B1 hx1)
  clear hR1 hb1 hC1 B1 hx1
  go_wp2_with fail
  go_region_with (go_at_call 49; refine (HJ'.out _ c1 _ (Kd.C_below HC1.out (pw_below_drewN (Below.refl _ w1) 1)) hc1).mono ?_; rintro e w2 ⟨rfl, hb2⟩; have hcl2 := (hb2.cell (p := ⟨b, off, none⟩) hbl).trans hcl; have hx2 : w2.heap[b0]? = some (.cells #[.int .i64 0, .int .i64 0, .slice none 0 0] 48 (0, 0)) := (hb2.block b0 (by have := HB1.out.1.size; have := (Array.getElem?_eq_some_iff.1 HB1.out.2).1; exact this)).trans HB1.out.2; have hcv2 := hcv w2; obtain ⟨w3, hw3⟩ : ∃ w3, Lib.bytesWorld w2 5 js = w3 := ⟨_, rfl⟩; rw [hw3] at hcv2; have hx3 : w3.heap[b0]? = some (.cells #[.int .i64 0, .int .i64 0, .slice none 0 0] 48 (0, 0)) := (by rw [← hw3, Lib.bytesWorld_at_old w2 5 js b0 (Array.getElem?_eq_some_iff.1 hx2).1]; exact hx2); obtain ⟨⟨k0, k1, k2⟩, f0, f1, f2⟩ := box3 hx3; have hB3 : Below w2.heap.size w2 w3 := (by rw [← hw3]; exact ⟨rfl, rfl, rfl, by rw [Lib.bytesWorld_size]; omega, fun i hi => Lib.bytesWorld_at_old w2 5 js i hi⟩); have hcl3 := (hB3.cell (p := ⟨b, off, none⟩) (Nat.lt_of_lt_of_le hbl hb2.size)).trans hcl2; obtain ⟨cur, hg2, hcz, hct⟩ := conv_row w2 js; rw [hw3] at hg2; clear hcv)
  all_goals (go_wp2)
  all_goals (refine bodyPost_ret (results_cell_row rfl _ _ b0 48 _ (0, 0) _ rfl (PA.put3 hx3) Tryd.underlying48 rfl (by kernel_rfl)) rfl ?_)
  all_goals (have hlt2 := (Array.getElem?_eq_some_iff.1 hx2).1)
  all_goals (exact ⟨w2.heap.size, grownCap w2 js.size 0 5, cur, rfl, by rw [PA.far3 (by omega), hg2, hcz], hcz, grownCap_ge w2 js.size 0 5, hct, Nat.le_trans HB1.out.1.size hb2.size, PA.below3 (((pw_below_drewN HB1.out.1 1).trans (hb2.mono HB1.out.1.size)).trans (hB3.mono (Nat.le_trans HB1.out.1.size hb2.size))) (Nat.le_of_eq hb0)⟩)
set_option maxRecDepth 100000 in
set_option maxHeartbeats 2000000 in
theorem putAt_calls (t cell : ByteArray) (x y w0 h0 : Int) (js s : ByteArray) (r1 : ByteArray) (r2 : Bool) (idx : Nat) (w : World)
    (HP : Calls Tryd.prog 25 #[.string t, .int .i64 x, .int .i64 y] w fun e w' => e = .returned (.bool true) ∧ Below w.heap.size w w')
    (HC : ∀ W, Below w.heap.size w W → Calls Tryd.prog 26 #[.string cell] W fun e w' => e = .returned (.bool true) ∧ Below W.heap.size W w')
    (HR : ∀ W, Below w.heap.size w W → Calls Tryd.prog 27 #[.string t] W fun e w' => ∃ (g cap : Nat) (cu : Array Value), e = .returned (.agg #[.int .i64 w0, .int .i64 h0, .slice (some ⟨g, 0, none⟩) js.size cap]) ∧ w'.heap[g]? = some (.cells cu 5 (cap, cap + 1)) ∧ cu.size = cap ∧ js.size ≤ cap ∧
      cu.toList.take js.size = (js.data.toList.map fun b => ((b.toNat : Nat) : Int)).map (Value.int .u8) ∧ W.heap.size ≤ g ∧ Below W.heap.size W w')
    (hidx : wrap64 (wrap64 (y * w0) + x) = (idx : Int)) (hlt : idx < js.size) (hjs : js.size ≤ 1000000) (hcs : 0 < cell.size)
    (HT : ∀ (A : Option Addr) (c : Nat) (W : World), Kd.C (Kd.int .u8) W A js.size ((js.data.toList.map fun b => ((b.toNat : Nat) : Int)).set idx (bt cell 0)) → js.size ≤ c → Calls Tryd.prog 29 #[.agg #[.int .i64 w0, .int .i64 h0, .slice A js.size c]] W fun e w' => e = .returned (.string s) ∧ Below W.heap.size W w')
    (HW : ∀ W, Calls Tryd.prog 28 #[.string s] W fun e w' => e = .returned (.tuple #[.string r1, .bool r2]) ∧ Below W.heap.size W w') :
    Calls Tryd.prog 9 #[.string t, .int .i64 x, .int .i64 y, .string cell] w fun e w' => e = .returned (.tuple #[.string r1, .bool r2]) ∧ Below w.heap.size w w' := by
  have HC' := Aside0.mk HC
  have HR' := Aside0.mk HR
  have HT' := Aside0.mk HT
  have HW' := Aside0.mk HW
  have HI := Aside0.mk (And.intro hidx (And.intro hlt hcs))
  clear HC HR HT HW hidx hlt hcs
  go_enter Tryd.func9, Tryd.ntmps9
  go_wp2_with (first | (go_at_call 25; refine HP.mono ?_; rintro e w1 ⟨rfl, hb1⟩) | (go_at_call 26; refine (HC'.out _ hb1).mono ?_; rintro e w2 ⟨rfl, hb2'⟩; have hb2 := hb1.trans (hb2'.mono hb1.size); clear hb2') | (go_at_call 27; refine (HR'.out _ hb2).mono ?_; rintro e w3 ⟨g, cap, cu, rfl, hg, hcz, hcc, hct, hgb, hb3'⟩; have hb3 := hb2.trans (hb3'.mono hb2.size); have hgb2 := Nat.le_trans hb2.size hgb; have HG := Aside0.mk (And.intro hg (And.intro hcz (And.intro hcc (And.intro hct hgb2)))); clear hb3' hg hcz hcc hct hgb hgb2))
  have hgl : g < w3.heap.size := (Array.getElem?_eq_some_iff.1 HG.out.1).1
  have hx4 := World.alloc_heap_new w3 (.cells #[.int .i64 w0, .int .i64 h0, .slice (some ⟨g, 0, none⟩) js.size cap] 48)
  have hg4 := (Below.heap_alloc w3 (.cells #[.int .i64 w0, .int .i64 h0, .slice (some ⟨g, 0, none⟩) js.size cap] 48) g hgl).trans HG.out.1
  have hb4 := hb3.alloc hb3.size (.cells #[.int .i64 w0, .int .i64 h0, .slice (some ⟨g, 0, none⟩) js.size cap] 48)
  obtain ⟨W4, hW4⟩ : ∃ W4, w3.alloc (.cells #[.int .i64 w0, .int .i64 h0, .slice (some ⟨g, 0, none⟩) js.size cap] 48) = W4 := ⟨_, rfl⟩
  rw [hW4] at hx4 hg4 hb4 ⊢
  clear hW4
  obtain ⟨b1, hb1e⟩ : ∃ b1, w3.heap.size = b1 := ⟨_, rfl⟩
  rw [hb1e] at hx4 hgl ⊢
  obtain ⟨⟨k0, k1, k2⟩, f0, f1, f2⟩ := box3 hx4
  obtain ⟨hidx, hlt, hcs⟩ := HI.out
  obtain ⟨p, hp⟩ : ∃ p, wrap64 (y * w0) = p := ⟨_, rfl⟩
  rw [hp] at hidx
  have hpw : IntKind.i64.wrap (y * w0) = p := (i64_w _).trans hp
  have hqw : IntKind.i64.wrap (p + x) = (idx : Int) := (i64_w _).trans hidx
  have hlti : (idx : Int) < (js.size : Int) := by omega
  have hbc : cu.size = cap ∧ js.size ≤ cap := ⟨HG.out.2.1, HG.out.2.2.1⟩
  have hold : ∃ v, cu[idx]? = some v := ⟨_, Array.getElem?_eq_getElem (by omega : idx < cu.size)⟩
  obtain ⟨vo, hvo⟩ := hold
  have hcl : W4.cell? ⟨g, idx, none⟩ = some vo := PA.cell_heap hg4 hvo
  have hfz : W4.frozen? ⟨g, idx, none⟩ = false := by simp [World.frozen?, hg4]; omega
  have HB4 := Aside0.mk (And.intro hb4 (And.intro hx4 (And.intro hg4 (And.intro hb1e hb3.size))))
  have HH := Aside0.mk (And.intro hbc hvo)
  clear hb4 hx4 hg4 hb1e hb3 hbc hvo hp hidx hb1 hb2 f0 f1 f2
  have mixed : Tryd.prog.follows Departure.mixedOrders = true := by kernel_rfl
  have hbt : bt cell 0 = ((cell[0]'hcs).toNat : Int) := by
    unfold bt
    rw [dif_pos (show (0 : Int).toNat < cell.size from hcs)]
    rfl
  have hg5 : ((W4.setCell ⟨g, idx, none⟩ (.int .u8 ((cell[0]'hcs).toNat : Int))).drew).heap[g]? = some (.cells (cu.setIfInBounds idx (.int .u8 ((cell[0]'hcs).toNat : Int))) 5 (cap, cap + 1)) := PA.set_heap1 HB4.out.2.2.1
  have hC5 := PA.C_of_take hg5 (PA.take_set HG.out.2.2.2.1) (by rw [List.length_set, List.length_map, Array.length_toList]; rfl) (by omega)
  rw [← hbt] at hC5
  have hT5 := HT'.out (some ⟨g, 0, none⟩) cap _ hC5 HH.out.1.2
  rw [hbt] at hT5
  have hB5 : Below w.heap.size w ((W4.setCell ⟨g, idx, none⟩ (.int .u8 ((cell[0]'hcs).toNat : Int))).drew) := pw_below_drewN (HB4.out.1.setCell (p := ⟨g, idx, none⟩) HG.out.2.2.2.2 _) 1
  have HB5 := Aside0.mk hB5
  clear hg5 hC5 hbt hB5
  go_wp2_with fail
  go_region_o
  go_wp2_with (first | (go_at_call 29; refine hT5.mono ?_; rintro e w6 ⟨rfl, hb6⟩) | (go_at_call 28; refine (HW'.out _).mono ?_; rintro e w7 ⟨rfl, hb7⟩))
  go_ret2
  exact ⟨rfl, (HB5.out.trans (hb6.mono HB5.out.size)).trans (hb7.mono (HB5.out.trans (hb6.mono HB5.out.size)).size)⟩
end Go.Proofs.YtcglmngfglmcgaaDoorV
