/- Contracts of slices.Compact over bytes and of the program's ShortWord: a word's bytes in a row of their own, equal neighbours taken together. -/
import Derived.Shelf.Lays
import Derived.Shelf.RegionOpenPlain
import Derived.WalkKit
import Derived.Deep.LoopGhost
import Derived.Deep.Draws
import Derived.Lib.Walk
import Derived.Lib.SliceRun
import Derived.Sort.WalkB12
import Derived.Lib.SlicesS
import Derived.Lib.SlicesCompact
import Derived.Lib.ConvBytes
import Derived.Test.YtfpjnpfhglaboaaDoorProg
import Derived.Test.YtfpjnpfhglaboaaDoorWLast
import Derived.Test.YtfpjnpfhglaboaaDoorWMore
set_option linter.unusedVariables false
set_option linter.unusedSimpArgs false
namespace Go.Proofs.YtfpjnpfhglaboaaDoorV
open Go.Shelf Go.RowKit Go.Lib Go.Sort Go.Proofs.YtfpjnpfhglaboaaDoorW.PrintWords Go.Proofs.YtfpjnpfhglaboaaDoorW.PrintLast
namespace CP
abbrev eB : Int → Value := Value.int .u8
theorem stored8 {w wr : World} {n blk off : Nat} {dk : Array Int} {i : Nat} (hi : i < dk.size) (hwr : wr = putRow eB (Sort.ahead w n) blk off dk) (x : Int) :
    (wr.setCell ⟨blk, off + i, none⟩ (eB x)).drew = putRow eB (Sort.ahead w (n + 1)) blk off (dk.setIfInBounds i x) := by
  subst hwr
  rw [putRow_set eB _ blk off dk i x hi, ← ahead_drew]
  rfl
end CP
open CP
set_option maxHeartbeats 4000000 in
set_option maxRecDepth 1000000 in
theorem compact_arr (blk off cap : Nat) (d : Array Int) (w : World) (hH : Holds eB w blk off d) (hsz : d.size ≤ 1000000) (hcap : d.size ≤ cap) :
    Calls Tryd.prog 15 #[.slice (some ⟨blk, off, none⟩) d.size cap] w fun e w' => e = .returned (.slice (some ⟨blk, off, none⟩) (compactUpTo d d.size).length cap) ∧ ∃ q, w' = putRow eB (Sort.ahead w q) blk off (compactUpTo d d.size ++ List.replicate (d.size - (compactUpTo d d.size).length) 0).toArray := by
  have mixed : Tryd.prog.follows Departure.mixedOrders = true := by kernel_rfl
  have same : ∀ q, (∀ j, j < d.size → keeps d j = true) → (compactUpTo d d.size).length = d.size ∧ w.drewN q = putRow eB (Sort.ahead w q) blk off (compactUpTo d d.size ++ List.replicate (d.size - (compactUpTo d d.size).length) 0).toArray := by
    intro q hall
    have e : compactUpTo d d.size = d.toList := by rw [compactUpTo_all d _ hall, range_map_get]
    rw [e]
    refine ⟨by simp, ?_⟩
    simp only [Array.length_toList, Nat.sub_self, List.replicate_zero, List.append_nil, Array.toArray_toList]
    exact (putRow_self eB (Sort.ahead w q) blk off d (holds_ahead eB w q blk off d hH)).symm
  have HS := Aside0.mk same
  clear same
  by_cases h2 : d.size < 2
  · have HH := Aside0.mk hH
    clear hH
    go_enter Tryd.func15, Tryd.ntmps15
    go_wp2
    go_ret
    obtain ⟨e1, e2⟩ := HS.out 0 (fun j hj => keeps_lt_one d j (by omega))
    exact ⟨by rw [e1]; rfl, 0, e2⟩
  · go_enter Tryd.func15, Tryd.ntmps15
    go_wp2
    go_loopg [3] d.size (fun g s3 wr => ∃ k q : Nat, 1 ≤ k ∧ k ≤ d.size ∧ d.size - k ≤ g ∧ s3 = .int .i64 k ∧ wr = w.drewN q ∧ ∀ j, j < k → keeps d j = true)
    case atStart => exact ⟨1, 0, Nat.le_refl _, by omega, by omega, rfl, rfl, keeps_lt_one d⟩
    case round =>
      obtain ⟨k, q, hk1, hk, hg, rfl, rfl, hall⟩ := hrel
      by_cases hlt : k < d.size
      · obtain ⟨c1, f1⟩ := hH k hlt
        obtain ⟨c0, f0⟩ := hH (k - 1) (by omega)
        have A := Aside0.mk hall
        have HH := Aside0.mk hH
        clear hall hH
        generalize hx : d[k]! = x at c1
        generalize hy : d[k - 1]! = y at c0
        have B := Aside0.mk (And.intro hx hy)
        clear hx hy
        by_cases hdup : x = y
        · subst hdup
          go_wp2_with fail
          go_region_o
          go_wp2
          clear c0 c1 f0 f1
          go_loopg [3, 5] d.size (fun g s3 s5 wr => ∃ (kk k2 q2 : Nat) (dk : Array Int), s3 = .int .i64 kk ∧ s5 = .int .i64 k2 ∧ 1 ≤ k2 ∧ k + k2 ≤ d.size ∧ d.size - (k + k2) ≤ g ∧ wr = putRow eB (Sort.ahead w q2) blk off dk ∧ CompInv d (k + k2) kk dk)
          case atStart => exact ⟨k, 1, q + 1, d, rfl, rfl, Nat.le_refl _, by omega, by omega, (putRow_self eB (Sort.ahead w (q + 1)) blk off d (holds_ahead eB w (q + 1) blk off d HH.out)).symm, CompInv.start A.out (keeps_neg (by omega) (by rw [B.out.1, B.out.2]))⟩
          case round =>
            obtain ⟨kk, k2, q2, dk, rfl, rfl, h1, hle, hg2, hwr, hI⟩ := hrel
            have hkk := hI.lt
            have hds := hI.size
            have hHk : Holds eB wr blk off dk := by rw [hwr]; exact holds_putRow eB _ blk off d dk (holds_ahead eB w q2 blk off d HH.out) hds
            have W2 := Aside0.mk hwr
            have I2 := Aside0.mk hI
            clear hwr
            by_cases hlt2 : k + k2 < d.size
            · obtain ⟨cm, _⟩ := hHk (k + k2) (by omega)
              obtain ⟨cp, _⟩ := hHk (k + k2 - 1) (by omega)
              obtain ⟨ck, fk⟩ := hHk kk (by omega)
              rw [hI.high (k + k2) (by omega), show off + (k + k2) = off + k + k2 by omega] at cm
              rw [hI.high (k + k2 - 1) (by omega), show off + (k + k2 - 1) = off + k + (k2 - 1) by omega] at cp
              clear hHk hI
              generalize hu : d[k + k2]! = u at cm
              generalize hv : d[k + k2 - 1]! = v at cp
              generalize dk[kk]! = old at ck
              have C := Aside0.mk (And.intro hu hv)
              clear hu hv
              by_cases huv : u = v
              · subst huv
                go_wp2_with fail
                go_region_o
                go_wp2
                go_roundg (d.size - (k + (k2 + 1)))
                case measure => omega
                case rel => exact ⟨kk, k2 + 1, q2 + 1, dk, rfl, by go_num, by omega, by omega, Nat.le_refl _, by rw [W2.out]; rfl, I2.out.skip (keeps_neg (by omega) (by rw [C.out.1, C.out.2]))⟩
              · go_wp2_with fail
                go_region_o
                go_wp2
                go_roundg (d.size - (k + (k2 + 1)))
                case measure => omega
                case rel => exact ⟨kk + 1, k2 + 1, q2 + 1, dk.setIfInBounds kk u, by go_num, by go_num, by omega, by omega, Nat.le_refl _, CP.stored8 (by omega) W2.out u, by have := I2.out.keep hlt2 (keeps_pos (by rw [C.out.1, C.out.2]; exact huv)); rwa [C.out.1] at this⟩
            · have hend : k + k2 = d.size := by omega
              have hcl : ∀ ty, (Builtin.clear_ #[35] ty #[.slice (some ⟨blk, off + kk, none⟩) (d.size - kk) (cap - kk)]).run Tryd.prog wr = .ok (.tuple #[]) (wr.setCells blk (off + kk) (List.replicate (d.size - kk) (eB 0))) :=
                fun ty => Lib.run_clear_slice wr _ 5 ty (.int .u8 0) Tryd.underlying35 Tryd.zeroValue5 rfl rfl blk (off + kk) _ _ (by omega) (fun j hj => by rw [show off + kk + j = off + (kk + j) by omega, (hHk (kk + j) (by omega)).1]; rfl) (fun j hj => by rw [show off + kk + j = off + (kk + j) by omega]; exact (hHk (kk + j) (by omega)).2)
              clear hHk hI
              go_wp2
              go_ret
              have hI := I2.out
              rw [hend] at hI
              refine ⟨by rw [hI.len]; rfl, q2, ?_⟩
              rw [hI.len, ← hI.done 0, ← putRow_setCells eB _ blk off _ dk kk (by simp; omega), ← W2.out, List.map_replicate]
        · go_wp2_with fail
          go_region_o
          go_wp2
          go_roundg (d.size - (k + 1))
          case measure => omega
          case rel =>
            refine ⟨k + 1, q + 1, by omega, by omega, Nat.le_refl _, by go_num, rfl, fun j hj => ?_⟩
            by_cases e : j = k
            · subst e
              exact keeps_pos (by rw [B.out.1, B.out.2]; exact hdup)
            · exact A.out j (by omega)
      · have : k = d.size := by omega
        subst this
        have HH := Aside0.mk hH
        clear hH
        go_wp2
        go_ret
        obtain ⟨e1, e2⟩ := HS.out q hall
        exact ⟨by rw [e1]; rfl, q, e2⟩
set_option maxHeartbeats 4000000 in
set_option maxRecDepth 1000000 in
theorem shortWord_calls (s : ByteArray) (hs : s.size ≤ 1000000) (l : List Int) (hl : l = s.data.toList.map fun b => ((b.toNat : Nat) : Int)) (w : World)
    (HW : Calls Tryd.prog 14 #[.string s] w fun e w' => e = .returned (.bool true) ∧ Below w.heap.size w w') :
    Calls Tryd.prog 6 #[.string s] w fun e w' => e = .returned (.tuple #[.string (strOfNums (compactUpTo l.toArray l.length)), .bool true]) ∧ Below w.heap.size w w' := by
  have HW' := Aside0.mk HW
  clear HW
  have hln : l.length = s.size := by rw [hl, List.length_map, Array.length_toList]; rfl
  have hcv := fun w0 : World => Lib.run_convert_string_bytes (P := Tryd.prog) w0 9 35 5 s Tryd.underlying9 Tryd.underlying35 Tryd.underlying5
  have HC : ∀ (w0 : World), Calls Tryd.prog 15 #[.slice (some ⟨w0.heap.size, 0, none⟩) s.size (grownCap w0 s.size 0 5)] (Lib.bytesWorld w0 5 s) fun e w' => e = .returned (.slice (some ⟨w0.heap.size, 0, none⟩) (compactUpTo l.toArray l.length).length (grownCap w0 s.size 0 5)) ∧ Kd.C (Kd.int .u8) w' (some ⟨w0.heap.size, 0, none⟩) (compactUpTo l.toArray l.length).length (compactUpTo l.toArray l.length) ∧ Below w0.heap.size w0 w' := by
    intro w0
    have hH : Holds eB (Lib.bytesWorld w0 5 s) w0.heap.size 0 l.toArray := by
      intro j hj
      have hj' : j < s.size := by rw [← hln]; simpa using hj
      have hc := Lib.bytesWorld_cell w0 5 s j hj'
      have hnew := Lib.bytesWorld_at_new w0 5 s
      have hcz : s.size ≤ (Lib.bytesCells w0 5 s).size := by
        have e : s.data.size = s.size := rfl
        simp [Lib.bytesCells, e]
      rw [Nat.zero_add]
      refine ⟨?_, ?_⟩
      · rw [hc]
        congr 1
        have hjl : j < s.data.toList.length := by rw [Array.length_toList]; exact hj'
        have h2 : l.toArray[j]! = (((s.data.toList)[j]).toNat : Int) := by
          rw [getElem!_pos l.toArray j hj]
          subst hl
          simp
        rw [h2, List.getD_eq_getElem?_getD, List.getElem?_eq_getElem hjl]
        rfl
      · simp [World.frozen?, hnew]
        omega
    have hsz : l.toArray.size = s.size := by simpa using hln
    have hcap := grownCap_ge w0 s.size 0 5
    have h := compact_arr w0.heap.size 0 (grownCap w0 s.size 0 5) l.toArray (Lib.bytesWorld w0 5 s) hH (by omega) (by omega)
    rw [hsz] at h
    rw [hln]
    have hB1 : Below w0.heap.size w0 (Lib.bytesWorld w0 5 s) := ⟨rfl, rfl, rfl, by rw [Lib.bytesWorld_size]; omega, fun i hi => Lib.bytesWorld_at_old w0 5 s i (by omega)⟩
    refine h.mono ?_
    rintro e w' ⟨rfl, q, rfl⟩
    obtain ⟨C, hC⟩ : ∃ C, compactUpTo l.toArray s.size = C := ⟨_, rfl⟩
    rw [hC]
    have hCl : C.length ≤ s.size := by
      rw [← hC]
      unfold compactUpTo
      rw [List.length_map]
      refine Nat.le_trans (List.length_filter_le _ _) ?_
      rw [List.length_range]
      exact Nat.le_refl _
    have hH2 := holds_putRow eB _ w0.heap.size 0 l.toArray (C ++ List.replicate (s.size - C.length) 0).toArray (holds_ahead eB (Lib.bytesWorld w0 5 s) q w0.heap.size 0 l.toArray hH) (by simp; omega)
    refine ⟨rfl, ⟨rfl, by omega, fun _ => ⟨_, rfl, fun j p hj => ⟨[.int .u8 p], rfl, rfl, fun i u hu => ?_⟩⟩⟩, ?_⟩
    · have hjl := (List.getElem?_eq_some_iff.1 hj).1
      have hi : i = 0 := by
        have := (List.getElem?_eq_some_iff.1 hu).1
        simp at this
        omega
      subst hi
      have hu' : Value.int .u8 p = u := by simpa using hu
      subst hu'
      have e1 : j * (Kd.int .u8).sz + 0 = j := by show j * 1 + 0 = j; omega
      rw [e1, add_plain]
      have := (hH2 j (by simp; omega)).1
      rw [Nat.zero_add] at this
      rw [this, getElem!_pos _ j (by simp; omega)]
      simp [hjl, List.getElem?_eq_getElem hjl] at hj ⊢
      exact hj
    · refine hB1.grown (row := some w0.heap.size) ⟨rfl, rfl, rfl, by simp [putRow, mapBlock, Sort.ahead], fun k hk hne => ?_⟩ (by rw [Lib.bytesWorld_size]; omega) (fun k hk => by cases hk; exact Nat.le_refl _)
      have : w0.heap.size ≠ k := fun e => hne (by rw [e])
      simp [putRow, mapBlock, Sort.ahead, Array.getElem?_modify, this]
  have HC' := Aside0.mk HC
  have HL := Aside0.mk (And.intro hl hln)
  clear HC hl hln
  obtain ⟨C, hC⟩ : ∃ C, compactUpTo l.toArray l.length = C := ⟨_, rfl⟩
  rw [hC] at HC' ⊢
  clear hC HL
  go_enter Tryd.func6, Tryd.ntmps6
  go_wp2_with (first
    | (go_at_call 14; refine HW'.out.mono ?_; rintro e w1 ⟨rfl, b1⟩)
    | (go_at_call 15; refine (HC'.out _).mono ?_; rintro e w2 ⟨rfl, c2, b2⟩; have hst := Kd.C_string (P := Tryd.prog) (c := grownCap w1 s.size 0 5) Tryd.underlying35 Tryd.underlying5 Tryd.underlying9 c2))
  go_ret2
  exact ⟨rfl, b1.trans (b2.mono b1.size)⟩
end Go.Proofs.YtfpjnpfhglaboaaDoorV
