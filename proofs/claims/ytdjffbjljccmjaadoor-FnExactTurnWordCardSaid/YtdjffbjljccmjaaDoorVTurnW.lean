/- Contract of the program's turnedWord: each direction of a word turned by quarters; the row of a conversion is written in place. -/
import Derived.WalkKit
import Derived.Deep.LoopGhost
import Derived.Lib.Walk
import Derived.Lib.ConvBytes
import Derived.Test.YtdjffbjljccmjaaDoorProg
import Derived.Test.YtdjffbjljccmjaaDoorWLast
import Derived.Test.YtdjffbjljccmjaaDoorWMore
import Derived.Test.YtdjffbjljccmjaaDoorShelf
set_option linter.unusedVariables false
set_option linter.unusedSimpArgs false
namespace Go.Proofs.YtdjffbjljccmjaaDoorV
open Go.Shelf Go.RowKit Go.Proofs.YtdjffbjljccmjaaDoorW.PrintWords Go.Proofs.YtdjffbjljccmjaaDoorW.PrintLast
namespace TW
def dirs : ByteArray := ⟨#[117, 114, 100, 108]⟩
/-- The number of a direction; -1: none. -/
def ixI (c : Int) : Int := if c = 117 then 0 else if c = 114 then 1 else if c = 100 then 2 else if c = 108 then 3 else -1
def dirQ (d : Int) : Int := if d = 0 then 117 else if d = 1 then 114 else if d = 2 then 100 else 108
def okI (c : Int) : Bool := ([117, 114, 100, 108] : List Int).contains c
def trnI (k c : Int) : Int := dirQ ((ixI c + k) % 4)
def trnL (k : Int) (l : List Int) (j : Nat) : List Int := (l.take j).map (trnI k) ++ l.drop j
theorem trnL_len (q : Int) (l : List Int) (k : Nat) : (trnL q l k).length = l.length := by
  unfold trnL
  rw [List.length_append, List.length_map, List.length_take, List.length_drop]
  omega
theorem trnL_at {q : Int} {l : List Int} {k : Nat} (h : k < l.length) : (trnL q l k)[k]? = some l[k] := by
  unfold trnL
  rw [List.getElem?_append_right (by rw [List.length_map, List.length_take]; omega), List.length_map, List.length_take, List.getElem?_drop]
  have e : k + (k - min k l.length) = k := by omega
  rw [e, List.getElem?_eq_getElem h]
theorem trnL_succ {q : Int} {l : List Int} {k : Nat} (h : k < l.length) : trnL q l (k + 1) = (trnL q l k).set k (trnI q l[k]) := by
  unfold trnL
  rw [List.take_succ_eq_append_getElem h, List.map_append, List.set_append_right _ _ (by rw [List.length_map, List.length_take]; omega), List.length_map, List.length_take, List.drop_eq_getElem_cons h]
  have e : k - min k l.length = 0 := by omega
  rw [e, List.set_cons_zero, List.append_assoc]
  rfl
theorem trnL_all (q : Int) (l : List Int) : trnL q l l.length = l.map (trnI q) := by unfold trnL; rw [List.take_length, List.drop_length, List.append_nil]
theorem cell_heap {W : World} {B j : Nat} {cur : Array Value} {t : TypeId} {fr : Nat × Nat} {v : Value} (h : W.heap[B]? = some (.cells cur t fr)) (hj : cur[j]? = some v) : W.cell? ⟨B, j, none⟩ = some v := by
  simp [World.cell?, h, hj]
theorem set_heap1 {W : World} {B j : Nat} {cur : Array Value} {t : TypeId} {fr : Nat × Nat} {v : Value} (h : W.heap[B]? = some (.cells cur t fr)) : (W.setCell ⟨B, j, none⟩ v).heap[B]? = some (.cells (cur.setIfInBounds j v) t fr) := by
  obtain ⟨hlt, hk⟩ := Array.getElem?_eq_some_iff.1 h
  show (W.heap.modify B _)[B]? = _
  rw [Array.getElem?_eq_getElem (by rw [Array.size_modify]; exact hlt), Array.getElem_modify_self, hk]
  rfl
theorem take_set {cur : Array Value} {st : List Int} {k : Nat} {v : Int} (ht : cur.toList.take st.length = st.map (Value.int .u8)) (h : k < st.length) : (cur.setIfInBounds k (.int .u8 v)).toList.take st.length = (st.set k v).map (Value.int .u8) := by
  rw [Array.toList_setIfInBounds, List.take_set, ht, List.map_set]
theorem idx_all : ((List.range 256).all fun (c : Nat) => Lib.indexByte dirs.data.toList ((c : Int).toNat.toUInt8) == ixI (c : Int)) = true := by decide +kernel
theorem idx_eq (c : Int) (h : okI c = true) : Lib.indexByte dirs.data.toList c.toNat.toUInt8 = ixI c := by
  unfold okI at h
  rw [List.contains_iff_mem] at h
  simp only [List.mem_cons, List.not_mem_nil, or_false] at h
  rcases h with rfl | rfl | rfl | rfl <;> decide +kernel
theorem ix_range (c : Int) (h : okI c = true) : 0 ≤ ixI c ∧ ixI c < 4 := by
  unfold okI at h
  rw [List.contains_iff_mem] at h
  simp only [List.mem_cons, List.not_mem_nil, or_false] at h
  rcases h with rfl | rfl | rfl | rfl <;> decide
theorem at_dirs (d : Int) (h0 : 0 ≤ d) (h1 : d < 4) : (Value.int .u8 ((dirs.data.toList.getD d.toNat 0).toNat : Int)) = Value.int .u8 (dirQ d) := by
  have : d = 0 ∨ d = 1 ∨ d = 2 ∨ d = 3 := by omega
  rcases this with rfl | rfl | rfl | rfl <;> rfl
/-- The row of a conversion, as a walk finds it. -/
theorem conv_row (w : World) (s : ByteArray) : ∃ cur : Array Value, (Lib.bytesWorld w 5 s).heap[w.heap.size]? = some (.cells cur 5 (cur.size, cur.size + 1)) ∧ cur.size = grownCap w s.size 0 5 ∧ cur.toList.take s.size = (s.data.toList.map fun b => ((b.toNat : Nat) : Int)).map (Value.int .u8) := by
  refine ⟨Lib.bytesCells w 5 s, Lib.bytesWorld_at_new w 5 s, ?_, ?_⟩
  · have := grownCap_ge w s.size 0 5
    have e : s.data.size = s.size := rfl
    simp [Lib.bytesCells, e]
    omega
  · have e : s.data.toList.length = s.size := by rw [Array.length_toList]; rfl
    simp only [Lib.bytesCells, Array.toList_append, Array.toList_map]
    rw [List.take_append_of_le_length (by rw [List.length_map]; omega), List.take_of_length_le (by rw [List.length_map]; omega), List.map_map]
    rfl
end TW
open TW
set_option maxRecDepth 100000 in
set_option maxHeartbeats 2000000 in
theorem turnedWord_calls (s : ByteArray) (q : Int) (w : World) (hs : s.size ≤ 1000000) (hq0 : 0 ≤ q) (hq1 : q < 4) (l : List Int) (hl : l = s.data.toList.map fun b => ((b.toNat : Nat) : Int)) (hok : l.all okI = true) :
    Calls Tryd.prog 43 #[.string s, .int .i64 q] w fun e w' => e = .returned (.string (strOfNums (l.map (trnI q)))) ∧ Below w.heap.size w w' := by
  have hln : l.length = s.size := by rw [hl, List.length_map, Array.length_toList]; rfl
  obtain ⟨cur, hg2, hcz, hct⟩ := conv_row w s
  rw [← hl, ← hln] at hct
  have hcap := grownCap_ge w s.size 0 5
  obtain ⟨cap, hC⟩ : ∃ cap, grownCap w s.size 0 5 = cap := ⟨_, rfl⟩
  have hB1 : Below w.heap.size w (Lib.bytesWorld w 5 s) := ⟨rfl, rfl, rfl, by rw [Lib.bytesWorld_size]; omega, fun i hi => Lib.bytesWorld_at_old w 5 s i (by omega)⟩
  have hcv := Lib.run_convert_string_bytes (P := Tryd.prog) w 9 51 5 s Tryd.underlying9 Tryd.underlying51 Tryd.underlying5
  rw [hC] at hcv hcz hcap
  rw [hcz] at hg2
  obtain ⟨w1, hw1⟩ : ∃ w1, Lib.bytesWorld w 5 s = w1 := ⟨_, rfl⟩
  rw [hw1] at hg2 hB1 hcv
  obtain ⟨g, hg⟩ : ∃ g, w.heap.size = g := ⟨_, rfl⟩
  rw [hg] at hcv hg2
  have hgB : w.heap.size ≤ g := by omega
  rw [← hln] at hcv hcap
  have HC := Aside0.mk hC
  have HS := Aside0.mk hl
  have HL := Aside0.mk hln
  have hs1 : l.length ≤ 1000000 := by omega
  clear hC hl hw1 hln
  go_enter Tryd.func43, Tryd.ntmps43
  go_wp2
  go_loopw [12] (fun s wr => ∃ (k : Nat) (cu : Array Value), k ≤ l.length ∧ s = .int .i64 (k : Int) ∧ wr.heap[g]? = some (.cells cu 5 (cap, cap + 1)) ∧ cu.size = cap ∧ cu.toList.take l.length = (trnL q l k).map (Value.int .u8) ∧ Below w.heap.size w wr)
    (fun s _ => l.length - (intOf s).toNat)
  case atStart => exact ⟨0, _, Nat.zero_le _, rfl, hg2, hcz, by simpa [trnL] using hct, hB1⟩
  case round =>
    obtain ⟨k, cu, hk, rfl, hcu, hcs, hct, hB⟩ := hrel
    by_cases hlt : k < l.length
    · have hcl : wr.cell? ⟨g, k, none⟩ = some (.int .u8 l[k]) := by
        refine cell_heap hcu ?_
        have h1 : (cu.toList.take l.length)[k]? = ((trnL q l k).map (Value.int .u8))[k]? := by rw [hct]
        rw [List.getElem?_take_of_lt hlt, Array.getElem?_toList, List.getElem?_map, trnL_at hlt] at h1
        exact h1
      have hfz : wr.frozen? ⟨g, k, none⟩ = false := by simp [World.frozen?, hcu]; omega
      have A1 := Aside0.mk hct
      clear hct
      have hok1 : okI l[k] = true := (List.all_eq_true.1 hok) _ (List.getElem_mem hlt)
      have hix := idx_eq _ hok1
      have hir := ix_range _ hok1
      obtain ⟨c, hc⟩ : ∃ c, l[k] = c := ⟨_, rfl⟩
      rw [hc] at hix hir hcl hok1
      obtain ⟨z, hz⟩ : ∃ z, ixI c = z := ⟨_, rfl⟩
      rw [hz] at hix hir
      have hw0 : wrap64 (z + q) = z + q := by unfold wrap64; omega
      have hm0 : 0 ≤ (z + q) % 4 := by omega
      have hm1 : (z + q) % 4 < 4 := by omega
      have hrem : (z + q).tmod 4 = (z + q) % 4 := Int.tmod_eq_emod_of_nonneg (by omega)
      obtain ⟨m, hm⟩ : ∃ m, (z + q) % 4 = m := ⟨_, rfl⟩
      rw [hm] at hm0 hm1 hrem
      have hT : trnI q l[k] = dirQ m := by unfold trnI; rw [hc, hz, hm]
      clear hok hc hz hm
      go_wp2_with (go_at_call 87; refine (Any.strings_IndexByte Tryd.lays137 _ _ _).mono ?_; rintro e w' ⟨rfl, rfl⟩; rw [show (⟨#[117, 114, 100, 108]⟩ : ByteArray).data.toList = dirs.data.toList from rfl, hix])
      have hv : (((⟨#[117, 114, 100, 108]⟩ : ByteArray)[m.toNat]'(by show m.toNat < 4; omega)).toNat : Int) = dirQ m := by
        have : m = 0 ∨ m = 1 ∨ m = 2 ∨ m = 3 := by omega
        rcases this with rfl | rfl | rfl | rfl <;> rfl
      have hgs := set_heap1 (j := k) (v := .int .u8 (dirQ m)) hcu
      have hts := take_set (k := k) (v := dirQ m) (by rw [trnL_len]; exact A1.out) (by rw [trnL_len]; exact hlt)
      rw [trnL_len] at hts
      refine ⟨⟨k + 1, _, by omega, by simp, by rw [hv]; exact hgs, by simp [hcs], by rw [trnL_succ hlt, hT]; exact hts, ?_⟩, by simp [intOf]; omega⟩
      exact hB.setCell (p := ⟨g, k, none⟩) hgB _
    · have e : k = l.length := by omega
      subst e
      rw [trnL_all] at hct
      have hC1 : Kd.C (Kd.int .u8) wr (some ⟨g, 0, none⟩) l.length (l.map (trnI q)) := by
        refine ⟨by rw [List.length_map], by omega, fun _ => ⟨_, rfl, fun j p hj => ⟨[.int .u8 p], rfl, rfl, fun i u hu => ?_⟩⟩⟩
        have hjl := (List.getElem?_eq_some_iff.1 hj).1
        rw [List.length_map] at hjl
        have hi : i = 0 := by
          have := (List.getElem?_eq_some_iff.1 hu).1
          simp at this
          omega
        subst hi
        have hu' : Value.int .u8 p = u := by simpa using hu
        subst hu'
        have e1 : j * (Kd.int .u8).sz + 0 = j := by show j * 1 + 0 = j; omega
        rw [e1, add_plain]
        refine cell_heap hcu ?_
        have h1 : (cu.toList.take l.length)[j]? = ((l.map (trnI q)).map (Value.int .u8))[j]? := by rw [hct]
        rw [List.getElem?_take_of_lt hjl, Array.getElem?_toList, List.getElem?_map, hj] at h1
        simpa using h1
      have hcvt := Kd.C_string (P := Tryd.prog) (c := cap) Tryd.underlying51 Tryd.underlying5 Tryd.underlying9 hC1
      have HB := Aside0.mk hB
      clear hB hcu hcs hcap hcz hs1 hs hq0 hq1 hok hg2 hgB hg hcv hk hlt
      have A1 := Aside0.mk hct
      clear hct hC1
      go_wp2
      go_ret
      exact ⟨rfl, HB.out⟩
end Go.Proofs.YtdjffbjljccmjaaDoorV
