/- slices.SortFunc over a row of boards that the call has made: the boards come to lie by their rank, each in memory of its own. -/
import Derived.WalkKit
import Derived.Lib.SlBy
import Derived.Shelf.SlSortCmp.WholeK
import Derived.Test.YtmplgijnmjdogaaDoorShelf
import Derived.Test.YtmplgijnmjdogaaDoorVMem
import Derived.Test.YtmplgijnmjdogaaDoorQx10
import Derived.Deep.LoopGhost
import Derived.Deep.CutBlock
import Derived.Test.YtmplgijnmjdogaaDoorVSearchR
import Derived.Deep.AppendSrc
import Derived.Deep.Upon
import Derived.Test.YtmplgijnmjdogaaDoorVOrc
set_option linter.unusedVariables false
set_option linter.unusedSimpArgs false
namespace Go.Proofs.YtmplgijnmjdogaaDoorV
open Go.Sort hiding rd
open Go.RowKit Go.Shelf Go.Proofs.YtmplgijnmjdogaaDoor.Q Go.Proofs.YtmplgijnmjdogaaDoorW.PrintWords Go.Proofs.YtmplgijnmjdogaaDoorW.PrintLast
namespace SO
open RB
open SE (Ent St encB)
section
variable {α : Type} [Inhabited α] (enc : α → List Value) (k : Nat) (w : World) (blk off m : Nat) (dk : Array α) (os : Array Obj)
theorem heap_other (j : Nat) (hj : j ≠ blk) (hlt : j < w.heap.size) : (sortWorldK enc k w blk off m dk os).heap[j]? = w.heap[j]? := by
  show ((w.heap.modify blk (onCells (putCells id off (flatK enc k dk)))) ++ os)[j]? = w.heap[j]?
  rw [Array.getElem?_append_left (by simpa using hlt), Array.getElem?_modify, if_neg (fun h => hj h.symm)]
theorem heap_at {c : Array Value} {e : TypeId} {fr : Nat × Nat} (hb : w.heap[blk]? = some (.cells c e fr)) : (sortWorldK enc k w blk off m dk os).heap[blk]? = some (.cells (putCells id off (flatK enc k dk) c) e fr) := by
  have hlt : blk < w.heap.size := (Array.getElem?_eq_some_iff.1 hb).1
  show ((w.heap.modify blk (onCells (putCells id off (flatK enc k dk)))) ++ os)[blk]? = _
  rw [Array.getElem?_append_left (by simpa using hlt), Array.getElem?_modify, if_pos rfl, hb]
  rfl
theorem below_sort (n : Nat) (hn : n ≤ blk) (hlt : n ≤ w.heap.size) : Below n w (sortWorldK enc k w blk off m dk os) :=
  ⟨rfl, rfl, rfl, size_sortWorldK_c enc k w blk off m dk os, fun j hj => heap_other enc k w blk off m dk os j (by omega) (by omega)⟩
end
theorem ext_all {β : Type} (d : Array β) (n : Nat) (h : d.size = n) : d.extract 0 n = d := by
  subst h
  simp
theorem C_inj {W : World} {A : Option Addr} : ∀ {l1 l2 : List Int}, l1.length = l2.length → Kd.C (Kd.int .i64) W A l1.length l1 → Kd.C (Kd.int .i64) W A l2.length l2 → l1 = l2 := by
  intro l1 l2 hl h1 h2
  apply List.ext_getElem hl
  intro i hi1 hi2
  obtain ⟨ad, ha, hc⟩ := Kd.at_int h1 (i : Int) (by omega) (by omega)
  obtain ⟨ad2, ha2, hc2⟩ := Kd.at_int h2 (i : Int) (by omega) (by omega)
  rw [ha] at ha2
  obtain rfl := Option.some.inj ha2
  rw [hc] at hc2
  have e := Option.some.inj hc2
  have r1 : rd l1 (i : Int) = l1[i] := by
    unfold rd
    rw [Int.toNat_natCast, List.getD_eq_getElem?_getD, List.getElem?_eq_getElem hi1]
    rfl
  have r2 : rd l2 (i : Int) = l2[i] := by
    unfold rd
    rw [Int.toNat_natCast, List.getD_eq_getElem?_getD, List.getElem?_eq_getElem hi2]
    rfl
  rw [r1, r2] at e
  simpa using e
/-- slices.Compare answers by cf. -/
def CmpC (P : Program) (cf : List Int → List Int → Int) (l l2 : List Int) : Prop := ∀ (A A2 : Option Addr) (c c2 : Nat) (W : World), Kd.C (Kd.int .i64) W A l.length l → l.length ≤ c → Kd.C (Kd.int .i64) W A2 l2.length l2 → l2.length ≤ c2 →
  Calls P 37 #[.slice A l.length c, .slice A2 l2.length c2] W fun e w' => e = .returned (.int .i64 (cf l l2)) ∧ Drawn0 W w'
theorem isAggB (w : World) : (isAgg 28).run Tryd.prog w = .ok true w := by kernel_rfl
theorem sizeB (w : World) : (Go.sizeOf 28).run Tryd.prog w = .ok 2 w := by kernel_rfl
theorem egS : ∀ args w, (callFunc 36 args).run Tryd.prog w = .ok (.enter 36 args) w := enters_of Tryd.func36 (by kernel_rfl) rfl
set_option maxRecDepth 100000 in
set_option maxHeartbeats 4000000 in
theorem cmp1_calls (a : Int) (c c2 : Nat) (A A2 : Option Addr) (l l2 : List Int) (cf : List Int → List Int → Int) (W : World) (HE : CmpC Tryd.prog cf l l2) (hC : Kd.C (Kd.int .i64) W A l.length l) (hle : l.length ≤ c) (hC2 : Kd.C (Kd.int .i64) W A2 l2.length l2) (hle2 : l2.length ≤ c2) :
    Calls Tryd.prog 36 #[.agg #[.int .i64 a, .slice A l.length c], .agg #[.int .i64 a, .slice A2 l2.length c2]] W fun e w' => e = .returned (.int .i64 (cf l l2)) ∧ ∃ q os', w' = grow (W.drewN q) os' := by
  have HE' := Aside0.mk HE
  have hC' := Kd.C_alloc (Kd.C_alloc hC (.cells #[.int .i64 a, .slice A l.length c] 28 (0, 0))) (.cells #[.int .i64 a, .slice A2 l2.length c2] 28 (0, 0))
  have hC2' := Kd.C_alloc (Kd.C_alloc hC2 (.cells #[.int .i64 a, .slice A l.length c] 28 (0, 0))) (.cells #[.int .i64 a, .slice A2 l2.length c2] 28 (0, 0))
  clear HE hC hC2
  go_enter Tryd.func36, Tryd.ntmps36
  go_wp2_with (go_at_call 37; refine (HE'.out A A2 c c2 _ hC' hle hC2' hle2).mono ?_; rintro e w1 ⟨rfl, ⟨n, rfl⟩⟩)
  go_ret
  refine ⟨rfl, n, #[.cells #[.int .i64 a, .slice A l.length c] 28 (0, 0), .cells #[.int .i64 a, .slice A2 l2.length c2] 28 (0, 0)], ?_⟩
  rw [alloc_eq_grow, alloc_eq_grow, grow_grow]
  rfl
open Classical in
set_option maxRecDepth 100000 in
set_option maxHeartbeats 4000000 in
theorem sort_row (a : Int) (nb n1 : Nat) (W : World) (Vo : Value) (xs : List Ent) (N : Nat) (rk : List Int → Int) (cf : List Int → List Int → Int) (hn : 0 < xs.length) (hl : xs.length ≤ 1000000) (hnb : nb ≤ n1)
    (h : Row (some nb) n1 28 2 (encB a) (fun e => e.1) W (fun k => k < n1) Vo xs)
    (hN : 0 < N) (hlen : ∀ e ∈ xs, e.1.length = N) (hnd : (xs.map fun e => e.1).Nodup) (HC : ∀ e ∈ xs, ∀ e2 ∈ xs, CmpC Tryd.prog cf e.1 e2.1) (hrk : ∀ e ∈ xs, ∀ e2 ∈ xs, (cf e.1 e2.1 < 0 ↔ rk e.1 < rk e2.1)) :
    Calls Tryd.prog 35 #[Vo, .func (.func 36) #[] #[]] W fun e w' => e = .returned (.tuple #[]) ∧
      ∃ L : List (List Int), L.Perm (xs.map fun e => e.1) ∧ L.Pairwise (fun x y => rk x ≤ rk y) ∧ Kd.S k28 28 w' nb (fun _ => True) Vo (L.map fun l => ⟨a, l⟩) ∧ Below n1 W w' := by
  obtain ⟨g, cL, _, _, rfl, hcL, hgL, hgn, _, _, _, _, cur, hcur⟩ := h.getE (sz := 2) (fun _ _ => rfl) (List.getElem?_eq_getElem hn)
  obtain ⟨vs, hvs, hown, hel⟩ := h
  haveI : Inhabited (Fin xs.length) := ⟨⟨0, hn⟩⟩
  have hvj : ∀ j : Fin xs.length, j.val < vs.length := fun j => by rw [hvs]; exact j.2
  have hE : ∀ j : Fin xs.length, Kd.R (Kd.int .i64) 3 W nb (fun k => k < n1) (vs[j.val]'(hvj j)) xs[j].1 := fun j => hel j.val _ _ (List.getElem?_eq_getElem (hvj j)) (List.getElem?_eq_getElem j.2)
  have hz : ∀ j (hj : j < xs.length), ((List.finRange xs.length).toArray)[j]! = ⟨j, hj⟩ := fun j hj => by
    simp [hj]
  have hsz : ((List.finRange xs.length).toArray).size = xs.length := by simp
  obtain ⟨E, hEq⟩ : ∃ E : Fin xs.length → List Value, ∀ j, E j = [.int .i64 a, vs[j.val]'(hvj j)] := ⟨_, fun _ => rfl⟩
  have hE2 : ∀ j, (E j).length = 2 := fun j => by rw [hEq]; rfl
  have hHK : HoldsK E 2 W g 0 (List.finRange xs.length).toArray := by
    intro t ht
    rw [size_flatK, hsz] at ht
    refine ⟨?_, blk_frozen hcur _⟩
    rw [get_flatK _ _ _ _ (by rw [hsz]; exact ht), hz (t / 2) (by omega), hEq]
    have hf : (flat (encB a) xs vs)[t / 2 * 2 + t % 2]? = some ((encB a (xs[t / 2]'(by omega)) (vs[t / 2]'(by omega)))[t % 2]'(by show t % 2 < 2; omega)) := by
      rw [flat_at (encB a) 2 (fun _ _ => rfl) xs vs (t / 2) (xs[t / 2]'(by omega)) (vs[t / 2]'(by omega)) (t % 2) (List.getElem?_eq_getElem _) (List.getElem?_eq_getElem _) (by omega)]
      exact List.getElem?_eq_getElem _
    have h1 := hown.cells (g := g) rfl (t / 2 * 2 + t % 2) _ hf
    rw [add0, show t / 2 * 2 + t % 2 = 0 + t by omega] at h1
    rw [h1]
    have h2 : t % 2 < 2 := by omega
    simp [encB, h2]
  have hcmp : CmpLays Tryd.prog 36 #[] E 2 (fun i j => cf xs[i].1 xs[j].1) g 0 ((List.finRange xs.length).toArray).size W := by
    intro m os dk hdk x y
    have mv : ∀ j : Fin xs.length, ∃ A c, E j = [.int .i64 a, .slice A xs[j].1.length c] ∧ xs[j].1.length ≤ c ∧ Kd.C (Kd.int .i64) (sortWorldK E 2 W g 0 m dk os) A xs[j].1.length xs[j].1 := fun j => by
      have hr := Kd.R_step (w1 := sortWorldK E 2 W g 0 m dk os) (hE j) (fun k hk hlt => heap_other _ _ _ _ _ _ _ _ k (by omega) hlt)
      obtain ⟨A, c, hv⟩ := Kd.R_slice hr
      rw [hv] at hr
      exact ⟨A, c, by rw [hEq, hv], (Kd.R_reads' hr).2.1, (Kd.R_reads' hr).2.2⟩
    obtain ⟨A, c, e1, hle, hC⟩ := mv x
    obtain ⟨A2, c2, e2, hle2, hC2⟩ := mv y
    rw [e1, e2]
    exact cmp1_calls a c c2 A A2 _ _ cf _ (HC _ (List.getElem_mem x.2) _ (List.getElem_mem y.2)) hC hle hC2 hle2
  have hltO : ∀ i j : Fin xs.length, ltOf (fun i j : Fin xs.length => cf xs[i].1 xs[j].1) i j = decide (rk xs[i].1 < rk xs[j].1) := fun i j => by
    unfold ltOf
    exact decide_eq_decide.2 (hrk _ (List.getElem_mem i.2) _ (List.getElem_mem j.2))
  have hO : SWO (ltOf (fun i j : Fin xs.length => cf xs[i].1 xs[j].1)) := by
    refine ⟨fun x => by rw [hltO]; simp, fun x y z h1 h2 => ?_, fun x y z h1 h2 => ?_⟩
    · rw [hltO, decide_eq_true_eq] at h1 h2 ⊢
      omega
    · rw [hltO, decide_eq_false_iff_not] at h1 h2 ⊢
      omega
  have hone : ∀ (j : Fin xs.length), ∀ v ∈ E j, v.oneCell' = true := fun j v hv => by
    obtain ⟨A, c, hv2⟩ := Kd.R_slice (hE j)
    rw [hEq, hv2] at hv
    rcases List.mem_cons.1 hv with rfl | hv
    · rfl
    · obtain rfl := List.mem_singleton.1 hv
      rfl
  have hs := AnyQ.slices_SortFunc Tryd.laysSlF06 2 isAggB sizeB E hE2 hone (fun i j => cf xs[i].1 xs[j].1) hO 36 #[] g 0 cL (List.finRange xs.length).toArray W egS hcmp hHK hgL (by rw [hsz]; omega)
  rw [hsz] at hs
  refine hs.mono ?_
  rintro e w' ⟨rfl, d', n, os, hp, hso, rfl⟩
  obtain ⟨hps, _, hpp⟩ := hp
  rw [hsz] at hps
  have hd1 : d'.extract 0 xs.length = d' := ext_all d' _ hps
  have hd2 : ((List.finRange xs.length).toArray).extract 0 xs.length = (List.finRange xs.length).toArray := ext_all _ _ hsz
  rw [hd1, hd2] at hpp
  have hat := heap_at E 2 W g 0 n d' os hcur
  have hfin : ∀ j (hj : j < d'.toList.length), d'[j]! = d'.toList[j] := fun j hj => by simp at hj; simp [hj]
  refine ⟨rfl, d'.toList.map fun j => xs[j].1, ?_, ?_, ?_, below_sort E 2 W g 0 n d' os n1 hgn (by omega)⟩
  · have := hpp.map (fun j : Fin xs.length => xs[j].1)
    refine this.trans (List.Perm.of_eq ?_)
    apply List.ext_getElem
    · simp
    · intro i h1 h2
      simp
  · rw [List.pairwise_map, List.pairwise_iff_getElem]
    intro i j hi hj hij
    have := hso i j (Nat.zero_le _) hij (by rw [← hps]; simpa using hj)
    rw [hfin i hi, hfin j hj, hltO, decide_eq_false_iff_not] at this
    omega
  · have hdl : d'.toList.length = xs.length := by simpa using hps
    have hcs : (putCells id 0 (flatK E 2 d') cur).size = cur.size := by unfold putCells; simp
    obtain ⟨hc0, hcm, hcsz⟩ : xs.length ≤ cL ∧ cL ≤ maxLen ∧ cur.size = cL * 2 := by
      rcases hown.2 with ⟨z, _⟩ | ⟨g2, cap2, cur2, e2, _, hh, h3, h4, h5, _⟩
      · cases z
      · simp only [Value.slice.injEq, Option.some.injEq, Addr.mk.injEq] at e2
        obtain ⟨⟨rfl, _⟩, _, rfl⟩ := e2
        rw [hcur] at hh
        simp only [Option.some.injEq, Obj.cells.injEq] at hh
        obtain ⟨rfl, _⟩ := hh
        exact ⟨h3, h4, h5⟩
    have hcell : ∀ j (hj : j < d'.toList.length) i, i < 2 → (putCells id 0 (flatK E 2 d') cur)[j * 2 + i]? = (E d'.toList[j])[i]? := by
      intro j hj i hi
      have ht : j * 2 + i < cur.size := by omega
      have ht2 : j * 2 + i < d'.size * 2 := by omega
      have e1 : (j * 2 + i) / 2 = j := by omega
      have e2 : (j * 2 + i) % 2 = i := by omega
      have e3 : (flatK E 2 d')[j * 2 + i]! = (E d'.toList[j])[i]! := by
        rw [get_flatK _ _ _ _ ht2, e1, e2, hfin j hj]
      have e4 : (E d'.toList[j])[i]? = some (E d'.toList[j])[i]! := by
        have : i < (E d'.toList[j]).length := by rw [hE2]; exact hi
        rw [List.getElem?_eq_getElem this, List.getElem!_eq_getElem?_getD, List.getElem?_eq_getElem this]
        rfl
      rw [e4, ← e3]
      unfold putCells
      rw [Array.getElem?_mapIdx, Array.getElem?_eq_getElem ht]
      simp only [Option.map_some, Nat.zero_add, Nat.sub_zero, id]
      rw [if_pos ⟨Nat.zero_le _, by rw [size_flatK]; exact ht2⟩]
    have hR' : ∀ j : Fin xs.length, Kd.R (Kd.int .i64) 3 (sortWorldK E 2 W g 0 n d' os) nb (fun k => k < n1) (vs[j.val]'(hvj j)) xs[j].1 := fun j => Kd.R_step (hE j) (fun k hk hlt => heap_other _ _ _ _ _ _ _ _ k (by omega) hlt)
    have hlj : ∀ j : Fin xs.length, xs[j].1.length = N := fun j => hlen _ (List.getElem_mem j.2)
    have hown' : ∀ j : Fin xs.length, ∃ b, (vs[j.val]'(hvj j)).ownBlock = some b := fun j => by
      obtain ⟨b, cap, e1, _⟩ := Kd.R_form (hR' j) (by rw [hlj j]; exact hN)
      exact ⟨b, by rw [e1]; rfl⟩
    have hdis : ∀ i j : Fin xs.length, (vs[i.val]'(hvj i)).ownBlock = (vs[j.val]'(hvj j)).ownBlock → i = j := fun i j he => by
      obtain ⟨b, cap, e1, _⟩ := Kd.R_form (hR' i) (by rw [hlj i]; exact hN)
      obtain ⟨b2, cap2, e2, _⟩ := Kd.R_form (hR' j) (by rw [hlj j]; exact hN)
      have r1 := hR' i
      have r2 := hR' j
      rw [e1] at r1 he
      rw [e2] at r2 he
      simp only [Value.ownBlock, Option.some.injEq] at he
      subst he
      have := C_inj (by rw [hlj i, hlj j]) (Kd.R_reads' r1).2.2 (Kd.R_reads' r2).2.2
      have h5 := (List.getElem_inj (xs := xs.map fun e => e.1) (i := i.val) (j := j.val) (h₀ := by simp) (h₁ := by simp) hnd).1 (by simpa using this)
      exact Fin.ext h5
    have hpl : ((d'.toList.map fun j => xs[j].1).map fun l => (⟨a, l⟩ : S28)).zipIdx.length = xs.length := by simpa using hps
    have hlt : (putCells id 0 (flatK E 2 d') cur).toList.length = cL * 2 := by rw [Array.length_toList, hcs, hcsz]
    have htk : ((putCells id 0 (flatK E 2 d') cur).toList.take (xs.length * 2)).length = xs.length * 2 := by
      rw [List.length_take, hlt]
      omega
    refine ⟨fun k => if hk : ∃ j, ∃ hj : j < d'.toList.length, some k = (vs[(d'.toList[j]).val]'(hvj _)).ownBlock then Classical.choose hk else 0, fun _ _ => trivial, (putCells id 0 (flatK E 2 d') cur).toList.take (xs.length * 2), ?_, ?_⟩
    · rw [hpl]
      refine ⟨?_, .inr ⟨g, cL, _, rfl, by omega, hat, hc0, hcm, by rw [hcs]; exact hcsz, rfl⟩⟩
      exact htk
    · refine ⟨?_, fun j p hp => ?_⟩
      · rw [hpl]
        exact htk
      · have hjl : j < d'.toList.length := by
          have := (List.getElem?_eq_some_iff.1 hp).1
          simpa using this
        have hp2 : p = (⟨a, xs[d'.toList[j]].1⟩, j) := by
          obtain ⟨h1, h2⟩ := List.getElem?_eq_some_iff.1 hp
          rw [← h2]
          simp
        subst hp2
        have hdt : (((putCells id 0 (flatK E 2 d') cur).toList.take (xs.length * 2)).drop (j * 2)).take 2 = [.int .i64 a, vs[(d'.toList[j]).val]'(hvj _)] := by
          rw [← hEq]
          apply List.ext_getElem?
          intro i
          by_cases hi : i < 2
          · rw [List.getElem?_take_of_lt hi, List.getElem?_drop, List.getElem?_take_of_lt (by omega), Array.getElem?_toList, hcell j hjl i hi]
          · rw [List.getElem?_eq_none (by rw [List.length_take]; omega), List.getElem?_eq_none (by rw [hE2]; omega)]
        show (k28).M _ _ _ _ (((((putCells id 0 (flatK E 2 d') cur).toList.take (xs.length * 2)).drop (j * 2)).take 2))
        rw [hdt]
        refine k28_mkM _ _ _ ⟨a, xs[d'.toList[j]].1⟩ (Kd.R_mono (Kd.R_tight2 rfl (hR' d'.toList[j])) (fun k hk => ⟨⟨trivial, fun e => ?_⟩, ?_⟩))
        · have h1 := hk.2
          have h2 : k = g := by simpa [Value.ownBlock] using e
          omega
        · have hex : ∃ j, ∃ hj : j < d'.toList.length, some k = (vs[(d'.toList[j]).val]'(hvj _)).ownBlock := ⟨j, hjl, hk.1⟩
          show (if hk : ∃ j, ∃ hj : j < d'.toList.length, some k = (vs[(d'.toList[j]).val]'(hvj _)).ownBlock then Classical.choose hk else 0) = j
          rw [dif_pos hex]
          obtain ⟨h3, h4⟩ := Classical.choose_spec hex
          have h5 := hdis _ _ (h4.symm.trans hk.1)
          have hnodup : d'.toList.Nodup := (hpp.nodup_iff).2 (by simpa using List.nodup_finRange xs.length)
          exact (List.getElem_inj hnodup).1 h5
end SO
end Go.Proofs.YtmplgijnmjdogaaDoorV
namespace Go.Proofs.YtmplgijnmjdogaaDoorV
open Go.RowKit Go.Proofs.YtmplgijnmjdogaaDoor.Q Go.Proofs.YtmplgijnmjdogaaDoorW.PrintWords Go.Proofs.YtmplgijnmjdogaaDoorW.PrintLast
namespace SO
open RB
open SE (Ent St encB)
theorem Row_bound {α : Type} {o : Option Nat} {n₀ : Nat} {T : TypeId} {sz : Nat} {enc : α → Value → List Value} {cells : α → List Int} {W : World} {ok : Nat → Prop} {V : Value} {xs : List α} (h : Row o n₀ T sz enc cells W ok V xs) : Row o n₀ T sz enc cells W (fun k => k < W.heap.size) V xs := h.step (fun k _ hlt => ⟨rfl, hlt⟩) (fun _ _ => rfl)
theorem Row_push1 {α : Type} {o : Option Nat} {n₀ : Nat} {T : TypeId} {sz : Nat} {enc : α → Value → List Value} {cells : α → List Int} {W : World} {ok : Nat → Prop} {V v : Value} {xs : List α} {x : α} {vs : List Value} (h1 : vs.length = xs.length)
    (h3 : ∀ (j : Nat) (v : Value) (x : α), vs[j]? = some v → xs[j]? = some x → El o W ok v (cells x)) (h2 : W.ownsRow n₀ T sz V (xs.length + 1) (flat enc xs vs ++ enc x v)) (hv : El o W ok v (cells x)) : Row o n₀ T sz enc cells W ok V (xs ++ [x]) := by
  refine ⟨vs ++ [v], by simp [h1], ?_, fun j u y hu hy => ?_⟩
  · rw [flat_snoc enc x v xs vs h1, List.length_append, List.length_singleton]
    exact h2
  · by_cases hj : j < xs.length
    · rw [List.getElem?_append_left (by omega)] at hu
      rw [List.getElem?_append_left hj] at hy
      exact h3 j u y hu hy
    · have hj2 : j = xs.length := by
        have := (List.getElem?_eq_some_iff.1 hy).1
        simp at this
        omega
      subst hj2
      rw [← h1, List.getElem?_concat_length] at hu
      rw [List.getElem?_concat_length] at hy
      obtain rfl := Option.some.inj hu
      obtain rfl := Option.some.inj hy
      exact hv
theorem words_form {W : World} {n₀ i : Nat} {VW : Value} {s : List Ent} {e : Ent} (h : W.ownsRow n₀ 9 1 VW s.length (s.map fun e => Value.string e.2.1)) (hi : s[i]? = some e) : ∃ gw cw, VW = .slice (some ⟨gw, 0, none⟩) s.length cw ∧ n₀ ≤ gw := by
  have hj := (List.getElem?_eq_some_iff.1 hi).1
  rcases h.2 with ⟨_, h0⟩ | ⟨g, cap, cur, rfl, hb, _⟩
  · omega
  · exact ⟨g, cap, rfl, hb⟩
theorem words_cell {W : World} {n₀ i gw cw : Nat} {s : List Ent} {e : Ent} (h : W.ownsRow n₀ 9 1 (.slice (some ⟨gw, 0, none⟩) s.length cw) s.length (s.map fun e => Value.string e.2.1)) (hi : s[i]? = some e) : W.cell? ⟨gw, i, none⟩ = some (.string e.2.1) := by
  have := h.cells (g := gw) rfl i (.string e.2.1) (by rw [List.getElem?_map, hi]; rfl)
  rwa [add0] at this
set_option maxRecDepth 100000 in
set_option maxHeartbeats 8000000 in
theorem hard_yes (x y a : Int) (w : World) (gl : List Int) (res : List Ent) (e0 : Ent) (N : Nat) (rk : List Int → Int) (cf : List Int → List Int → Int) (hxy : ¬ wrap64 (x * y) > 6)
    (HI : ∀ W, Calls Tryd.prog 34 #[.int .i64 x, .int .i64 y] W fun e w' => e = .returned (.bool true) ∧ Below W.heap.size W w')
    (HS : ∀ W, Calls Tryd.prog 26 #[.int .i64 x, .int .i64 y] W fun e w' => ∃ v1_ : Value, e = .returned (.agg #[.int .i64 a, v1_]) ∧ Kd.R (Kd.int .i64) 3 w' W.heap.size (fun _ => True) v1_ gl ∧ Below W.heap.size W w')
    (HSr : ∀ nb A c W, nb ≤ W.heap.size → Kd.R (Kd.int .i64) 3 W nb (fun k => k < W.heap.size) (.slice A gl.length c) gl → Calls Tryd.prog 25 #[.agg #[.int .i64 a, .slice A gl.length c]] W fun e w' => ∃ VL VW bm, e = .returned (.tuple #[VL, VW]) ∧ St (some nb) a W.heap.size W w' VL VW bm res (res.map fun e => e.2.2) none)
    (hlast : res[res.length - 1]? = some e0) (hl : res.length ≤ 1000000) (hN : 0 < N) (hlen : ∀ e ∈ res, e.1.length = N) (hnd : (res.map fun e => e.1).Nodup)
    (HC : ∀ e ∈ res, ∀ e2 ∈ res, CmpC Tryd.prog cf e.1 e2.1) (hrk : ∀ e ∈ res, ∀ e2 ∈ res, (cf e.1 e2.1 < 0 ↔ rk e.1 < rk e2.1)) :
    Calls Tryd.prog 11 #[.int .i64 x, .int .i64 y] w fun e w' => ∃ (V : Value) (L : List (List Int)), e = .returned (.tuple #[.int .i64 (e0.2.1.size : Int), V, .bool true]) ∧
      L.Perm ((res.filter fun e => decide (e.2.1.size = e0.2.1.size)).map fun e => e.1) ∧ L.Pairwise (fun x y => rk x ≤ rk y) ∧ Kd.S k28 28 w' w.heap.size (fun _ => True) V (L.map fun l => ⟨a, l⟩) ∧ Below w.heap.size w w' := by
  have hxy0 : decide (wrap64 (x * y) > 6) = false := decide_eq_false hxy
  have hxy1 : decide (6 < wrap64 (x * y)) = false := decide_eq_false (by omega)
  have h0 : 0 < res.length := by have := (List.getElem?_eq_some_iff.1 hlast).1; omega
  have K := Aside0.mk (And.intro HI (And.intro HS (And.intro HSr (And.intro HC (And.intro hrk (And.intro hlen hnd))))))
  clear HI HS HSr HC hrk hxy hlen hnd
  go_enter Tryd.func11, Tryd.ntmps11
  go_upto_region 4 with (first | (go_at_call 34; refine (K.out.1 _).mono ?_; rintro e w1 ⟨rfl, hb1⟩) | (go_at_call 26; refine (K.out.2.1 _).mono ?_; rintro e w2 ⟨v1, rfl, hv1, hb2⟩; obtain ⟨A1, c1, rfl⟩ := Kd.R_slice hv1) | (go_at_call 25; refine (K.out.2.2.1 w1.heap.size A1 c1 w2 hb2.size (Kd.R_mono (Kd.R_bound hv1) (fun k hk => hk.2.2.1))).mono ?_; rintro e w3 ⟨VL, VW, bm, rfl, hst⟩))
  have hrow := Row_bound hst.row
  have hwords := hst.words
  have hb3 : Below w.heap.size w w3 := (hb1.trans (hb2.mono hb1.size)).trans (hst.below.mono (Nat.le_trans hb1.size hb2.size))
  have hge : w.heap.size ≤ w1.heap.size ∧ w1.heap.size ≤ w3.heap.size := ⟨hb1.size, Nat.le_trans hb2.size hst.below.size⟩
  clear hst hb1 hb2 hv1
  obtain ⟨nb, hnb⟩ : ∃ nb, w1.heap.size = nb := ⟨_, rfl⟩
  rw [hnb] at hrow hge
  obtain ⟨n2, hn2⟩ : ∃ n2, w2.heap.size = n2 := ⟨_, rfl⟩
  rw [hn2] at hrow hwords
  obtain ⟨gw, cw, rfl, hgw⟩ := words_form hwords hlast
  obtain ⟨gL, cL, _, _, rfl, hcL, hgL, hgn, _⟩ := hrow.get (sz := 2) (fun _ _ => rfl) hlast
  have hlc := words_cell hwords hlast
  have hgwl : gw < w3.heap.size := World.block_lt_of_cell? w3 _ hlc
  have hidx : ((res.length : Int) - 1).toNat = res.length - 1 := by omega
  have hwr : wrap64 ((res.length : Int) - 1) = ((res.length - 1 : Nat) : Int) := by unfold wrap64; omega
  have hltl : ((res.length - 1 : Nat) : Int) < (res.length : Int) := by omega
  go_wp2
  obtain ⟨n1, hn1⟩ : ∃ n1, w3.heap.size = n1 := ⟨_, rfl⟩
  have HR := Aside0.mk (And.intro hrow (And.intro hwords hb3))
  have hrow0 : Row (some nb) n1 28 2 (encB a) (fun e : Ent => e.1) (w3.alloc (.cells #[] 28 (0, 0))) (fun k => k < n1) (.slice (some ⟨w3.heap.size, 0, none⟩) 0 0) [] :=
    ⟨[], rfl, ⟨rfl, .inr ⟨n1, 0, #[], by rw [hn1]; rfl, Nat.le_refl _, by rw [← hn1]; exact (Go.MapKept.heap_alloc w3 _).1, Nat.le_refl _, by simp [maxLen], rfl, rfl⟩⟩, fun j v x hv hx => by simp at hx⟩
  clear hlc hrow hwords hidx hltl hb3
  rw [hn1]
  go_loopw [10, 40] (fun s10 s40 wr => ∃ (i : Nat) (Vo : Value), i ≤ res.length ∧ s10 = Vo ∧ s40 = .int .i64 (i : Int) ∧ Aside0 (Row (some nb) n1 28 2 (encB a) (fun e : Ent => e.1) wr (fun k => k < n1) Vo ((res.take i).filter fun e => decide (e.2.1.size = e0.2.1.size))) ∧ Aside0 (Below w3.heap.size w3 wr))
    (fun _ s40 _ => res.length - (intOf s40).toNat)
  case atStart => exact ⟨0, _, Nat.zero_le _, rfl, rfl, Aside0.mk (by rw [hn1] at hrow0; exact hrow0), Aside0.mk (below_alloc (Below.refl _ w3) _)⟩
  case round =>
    obtain ⟨i, Vo, hi, rfl, rfl, HRr, HBr⟩ := hrel
    clear hrow0
    by_cases hlt : i < res.length
    · have hlti : (i : Int) < (res.length : Int) := by omega
      obtain ⟨e, he⟩ : ∃ e, res[i]? = some e := ⟨_, List.getElem?_eq_getElem hlt⟩
      have hrow := HR.out.1.step (W' := wr) (ok' := fun k => k < n1) (fun k hk hlt => ⟨HBr.out.block k hk, by rw [← hn1]; exact hk⟩) (fun k hk => HBr.out.block k (HR.out.1.lt k hk))
      have hwords : wr.ownsRow n2 9 1 (.slice (some ⟨gw, 0, none⟩) res.length cw) res.length (res.map fun e => Value.string e.2.1) := own_move HR.out.2.1 (fun k hk => HBr.out.block k (own_lt HR.out.2.1 k hk))
      obtain ⟨g2, cL2, A2, cc2, e2, hcL2, hgL2, hgn2, hcells, hle2, hC2, hel2, cur2, hcur2⟩ := hrow.getE (sz := 2) (fun _ _ => rfl) he
      obtain ⟨rfl, rfl⟩ : gL = g2 ∧ cL = cL2 := by simpa using e2
      have m0 : wr.cell? ⟨gL, i * 2, none⟩ = some (.int .i64 a) := hcells 0 _ rfl
      have m1 : wr.cell? ⟨gL, i * 2 + 1, none⟩ = some (.slice A2 e.1.length cc2) := hcells 1 _ rfl
      have hwc := words_cell hwords he
      have hgwl2 : gw < wr.heap.size := World.block_lt_of_cell? wr _ hwc
      have X := Aside0.mk (And.intro hel2 (And.intro hrow hwords))
      clear hrow hwords hcells hcur2 hel2 hC2 e2 hwc
      go_upto_region 8 with (first | ((with_reducible refine gate_dst (N := 12) rfl ?_); refine box_event ?hg (N := 12) ?hd (cs := #[.int .i64 0, .slice none 0 0]) (t := 28) ?hr ?_; (case hd => rfl); (case hg => rfl); (case hr => first | (go_simp; done) | (go_simp; rfl)); intro gb hg w9 hbox hb; have hcz0 : w9.cell? ⟨gb, 0, none⟩ = some (.int .i64 0) := (blk_cell hbox 0).trans rfl; have hcz1 : w9.cell? ⟨gb, 1, none⟩ = some (.slice none 0 0) := (blk_cell hbox 1).trans rfl; have hfz0 := blk_frozen hbox 0; have hfz1 := blk_frozen hbox 1; have HB9 := Aside0.mk (And.intro hb (And.intro hbox hg)); clear hb hbox hg))
      have hgb : gb = wr.heap.size := HB9.out.2.2
      have hBx : Below wr.heap.size wr ((w9.setCell ⟨gb, 0, none⟩ (.int .i64 a)).setCell ⟨gb, 1, none⟩ (.slice A2 e.1.length cc2)) := below_set (below_set HB9.out.1 (by omega)) (by omega)
      have hxx : ((w9.setCell ⟨gb, 0, none⟩ (.int .i64 a)).setCell ⟨gb, 1, none⟩ (.slice A2 e.1.length cc2)).heap[gb]? = some (.cells #[.int .i64 a, .slice A2 e.1.length cc2] 28 (0, 0)) := blk_put (blk_put HB9.out.2.1 0 _ rfl) 1 _ rfl
      clear HB9 hcz0 hcz1 hfz0 hfz1 hgb
      obtain ⟨wX, hwX⟩ : ∃ wX, ((w9.setCell ⟨gb, 0, none⟩ (.int .i64 a)).setCell ⟨gb, 1, none⟩ (.slice A2 e.1.length cc2)) = wX := ⟨_, rfl⟩
      rw [hwX] at hBx hxx ⊢
      clear hwX
      have q0 : wX.cell? ⟨gb, 0, none⟩ = some (.int .i64 a) := (blk_cell hxx 0).trans rfl
      have q1 : wX.cell? ⟨gb, 1, none⟩ = some (.slice A2 e.1.length cc2) := (blk_cell hxx 1).trans rfl
      have hwcX : wX.cell? ⟨gw, i, none⟩ = some (.string e.2.1) := (hBx.cell (p := ⟨gw, i, none⟩) hgwl2).trans (words_cell X.out.2.2 he)
      have hBX : Below w3.heap.size w3 wX := HBr.out.trans (hBx.mono HBr.out.size)
      have hrX := HRr.out.step (W' := wX) (ok' := fun k => k < n1) (fun k hk hlt => ⟨hBx.block k hlt, hk⟩) (fun k hk => hBx.block k (HRr.out.lt k hk))
      have hXl : n1 ≤ wX.heap.size := by rw [← hn1]; exact hBX.size
      by_cases hp : e.2.1.size = e0.2.1.size
      · have hp1 : decide ((e.2.1.size : Int) = (e0.2.1.size : Int)) = true := decide_eq_true (by omega)
        have hp2 : ((e.2.1.size : Int) == (e0.2.1.size : Int)) = true := by simp [hp]
        have htk : (res.take (i + 1)).filter (fun e => decide (e.2.1.size = e0.2.1.size)) = (res.take i).filter (fun e => decide (e.2.1.size = e0.2.1.size)) ++ [e] := by
          rw [List.take_add_one, he, List.filter_append]
          simp [hp]
        have hlenf : ((res.take i).filter fun e => decide (e.2.1.size = e0.2.1.size)).length ≤ 1000000 := Nat.le_trans (List.length_filter_le _ _) (by rw [List.length_take]; omega)
        obtain ⟨i0, hi0, hz0, hz1, hz2⟩ := info_parts SE.infoB
        have hgr := hrX.ge
        obtain ⟨vs, hvs, hown, helv⟩ := hrX
        have helX := X.out.1.step (W' := wX) (ok' := fun k => k < n1) (fun k hk hlt => ⟨hBx.block k hlt, hk⟩)
        have Y := Aside0.mk (And.intro helv (And.intro hBX (And.intro htk (And.intro hvs (And.intro helX hgr)))))
        clear helv hBX htk X hvs helX hgr
        go_wp2_with (at_builtin; refine wpList_append_keep _ rfl _ _ _ rfl n1 28 i0 _ 2 32 Tryd.underlying32 hi0 hz0 hz1 hz2 rfl (by omega) u10 _ _ rfl (own_move hown (fun k hk => (below_alloc (Below.refl _ wX) (.cells #[.int .i64 a, .slice A2 e.1.length cc2] 28 (0, 0))).block k (own_lt hown k hk))) ⟨wX.heap.size, 0, none⟩ 1 1 [.int .i64 a, .slice A2 e.1.length cc2] rfl rfl (SE.cells_of (Go.MapKept.heap_alloc wX (.cells #[.int .i64 a, .slice A2 e.1.length cc2] 28 (0, 0))).1) (by simp [Value.oneCell']) (by omega) (by simp only [maxLen]; omega) (by omega) (Nat.le_trans hXl (below_alloc (Below.refl _ wX) (.cells #[.int .i64 a, .slice A2 e.1.length cc2] 28 (0, 0))).size) ?_; intro V2 w6 hown6 hg6 hat6 hold6)
        have hst6 : ∀ k, k < n1 → k < wX.heap.size → w6.heap[k]? = wX.heap[k]? ∧ k < n1 := fun k hk hlt => ⟨(hg6.block k (Nat.lt_of_lt_of_le hlt (below_alloc (Below.refl _ wX) _).size) (fun e => by have := Y.out.2.2.2.2.2 k e.symm; omega)).trans ((below_alloc (Below.refl _ wX) _).block k hlt), hk⟩
        have hB6 : Below w3.heap.size w3 w6 := Y.out.2.1.trans ⟨hg6.os, hg6.tape, hg6.output, Nat.le_trans (below_alloc (Below.refl _ wX) _).size hg6.size, fun k hk => (hst6 k (by omega) (by omega)).1⟩
        have hR6 : Row (some nb) n1 28 2 (encB a) (fun e : Ent => e.1) w6 (fun k => k < n1) V2 ((res.take (i + 1)).filter fun e => decide (e.2.1.size = e0.2.1.size)) := by
          rw [Y.out.2.2.1]
          exact Row_push1 Y.out.2.2.2.1 (fun j v x hv hx => (Y.out.1 j v x hv hx).step hst6) hown6 (Y.out.2.2.2.2.1.step hst6)
        exact ⟨⟨i + 1, _, by omega, rfl, by simp, Aside0.mk hR6, Aside0.mk hB6⟩, by simp [intOf]; omega⟩
      · have hp1 : decide ((e.2.1.size : Int) = (e0.2.1.size : Int)) = false := decide_eq_false (by omega)
        have hp2 : ((e.2.1.size : Int) == (e0.2.1.size : Int)) = false := by simp; omega
        have htk : (res.take (i + 1)).filter (fun e => decide (e.2.1.size = e0.2.1.size)) = (res.take i).filter (fun e => decide (e.2.1.size = e0.2.1.size)) := by
          rw [List.take_add_one, he, List.filter_append]
          simp [hp]
        rw [← htk] at hrX
        have Y := Aside0.mk (And.intro hrX hBX)
        clear hrX hBX htk X
        go_wp2
        exact ⟨⟨i + 1, _, by omega, rfl, by simp, Aside0.mk Y.out.1, Aside0.mk Y.out.2⟩, by simp [intOf]; omega⟩
    · have e : i = res.length := by omega
      subst e
      have hRr := HRr.out
      rw [List.take_length] at hRr
      have hfn : 0 < (res.filter fun e => decide (e.2.1.size = e0.2.1.size)).length := List.length_pos_of_mem (List.mem_filter.2 ⟨List.mem_of_getElem? hlast, by simp⟩)
      have hsub : ∀ e ∈ (res.filter fun e => decide (e.2.1.size = e0.2.1.size)), e ∈ res := fun e he => (List.mem_filter.1 he).1
      have hsort := sort_row a nb n1 wr u10 (res.filter fun e => decide (e.2.1.size = e0.2.1.size)) N rk cf hfn (Nat.le_trans (List.length_filter_le _ _) hl) (by omega) hRr hN (fun e he => K.out.2.2.2.2.2.1 e (hsub e he)) ((List.filter_sublist.map _).nodup K.out.2.2.2.2.2.2) (fun e he e2 he2 => K.out.2.2.2.1 e (hsub e he) e2 (hsub e2 he2)) (fun e he e2 he2 => K.out.2.2.2.2.1 e (hsub e he) e2 (hsub e2 he2))
      have hB0 := HR.out.2.2
      have HB := Aside0.mk (HBr.out)
      clear hRr HRr HBr
      go_wp2_with (go_at_call 35; refine hsort.mono ?_; rintro e w5 ⟨rfl, L, hL1, hL2, hS5, hB5⟩)
      refine bodyPost_ret (results_tmp3 rfl _ _ _) rfl ?_
      exact ⟨_, L, rfl, hL1, hL2, Kd.S_lower hS5 hge.1, hB0.trans ((HB.out.trans (by rw [hn1]; exact hB5)).mono hB0.size)⟩
set_option maxRecDepth 100000 in
set_option maxHeartbeats 4000000 in
theorem hard_no (x y : Int) (w : World) (ib : Bool) (hxy : ib = true → wrap64 (x * y) > 6)
    (HI : ∀ W, Calls Tryd.prog 34 #[.int .i64 x, .int .i64 y] W fun e w' => e = .returned (.bool ib) ∧ Below W.heap.size W w') :
    Calls Tryd.prog 11 #[.int .i64 x, .int .i64 y] w fun e w' => e = .returned (.tuple #[.int .i64 0, .slice none 0 0, .bool false]) ∧ Below w.heap.size w w' := by
  have K := Aside0.mk HI
  clear HI
  cases ib with
  | false =>
    clear hxy
    go_enter Tryd.func11, Tryd.ntmps11
    go_wp2_with (go_at_call 34; refine (K.out _).mono ?_; rintro e w1 ⟨rfl, hb1⟩)
    refine bodyPost_ret (results_tmp3 rfl _ _ _) rfl ?_
    exact ⟨rfl, hb1⟩
  | true =>
    have hxy0 : decide (wrap64 (x * y) > 6) = true := decide_eq_true (hxy rfl)
    have hxy1 : decide (6 < wrap64 (x * y)) = true := decide_eq_true (hxy rfl)
    clear hxy
    go_enter Tryd.func11, Tryd.ntmps11
    go_wp2_with (go_at_call 34; refine (K.out _).mono ?_; rintro e w1 ⟨rfl, hb1⟩)
    refine bodyPost_ret (results_tmp3 rfl _ _ _) rfl ?_
    exact ⟨rfl, hb1⟩
end SO
end Go.Proofs.YtmplgijnmjdogaaDoorV
set_option linter.unusedSectionVars false
namespace Go.Proofs.YtmplgijnmjdogaaDoorV
open Go.RowKit Go.Proofs.YtmplgijnmjdogaaDoorW.PrintWords Go.Proofs.YtmplgijnmjdogaaDoorW.PrintLast
namespace HS
open RB
open SE (run_step cells_of own_same)
/-- What an append takes out of: nothing, or cells behind an address. -/
def SrcS (W : World) (V : Value) (m : Nat) (cs : List Value) : Prop := (V = .slice none 0 0 ∧ m = 0 ∧ cs = []) ∨ ∃ ad c, V = .slice (some ad) m c ∧ ∀ j u, cs[j]? = some u → W.cell? (ad.add j) = some u
theorem add_block (ad : Addr) (j : Nat) : (ad.add j).block = ad.block := by
  unfold Addr.add
  split <;> rfl
theorem SrcS.step {W W' : World} {V : Value} {m : Nat} {cs : List Value} (h : SrcS W V m cs) (hB : Below W.heap.size W W') : SrcS W' V m cs := by
  rcases h with h | ⟨ad, c, h1, h2⟩
  · exact .inl h
  · exact .inr ⟨ad, c, h1, fun j u hu => (hB.cell (World.block_lt_of_cell? W _ (h2 j u hu))).trans (h2 j u hu)⟩
theorem run_append_src {P : Program} (w : World) (base : Nat) (t ty e : TypeId) (i : TypeInfo) (z : Value) (size bytes : Nat) (ht : P.underlying t = some (.slice e)) (hi : P.info? e = some i) (hz : i.zero = some z)
    (hsize : i.size = size) (hby : i.bytes = bytes) (hzs : z.cells.size = size) (hsz : 0 < size)
    (v : Value) (n : Nat) (xs : List Value) (hown : w.ownsRow base e size v n xs)
    (V : Value) (m : Nat) (news : List Value) (hs : SrcS w V m news) (hl : news.length = m * size) (h1 : ∀ u ∈ news, u.oneCell' = true)
    (h63 : n + m ≤ maxLen) (hbytes : (n + m) * bytes ≤ 140737488355328) (hbase : base ≤ w.heap.size) :
    ∃ v' w', (Builtin.append_ #[t, t] ty #[v, V]).run P w = .ok v' w' ∧ w'.ownsRow base e size v' (n + m) (xs ++ news) ∧ w.grownBy w' v.ownBlock ∧ (v'.ownBlock = v.ownBlock ∨ v'.ownBlock = some w.heap.size) := by
  rcases hs with ⟨rfl, rfl, rfl⟩ | ⟨ad, c, rfl, hc⟩
  · have hsrc : Src P i.size t (.slice none 0 0) 0 [] w := Src.ofNil w ht 0
    have hsh : ∃ a c, v = .slice a n c ∧ n ≤ c := by
      rcases hown.2 with ⟨rfl, h0⟩ | ⟨g, cap, cur, rfl, _, _, hcap, _⟩
      · exact ⟨_, _, by rw [h0], by omega⟩
      · exact ⟨_, _, rfl, hcap⟩
    obtain ⟨a0, c0, rfl, hle⟩ := hsh
    refine ⟨_, w, run_append_nothing w t t ty e i ht hi a0 n c0 hle _ hsrc, by simpa using hown, ⟨rfl, rfl, rfl, Nat.le_refl _, fun _ _ _ => rfl⟩, .inl rfl⟩
  · obtain ⟨v', w', hr, h2, h3, _, h5⟩ := run_append_own_at (P := P) w base t ty e i z size bytes ht hi hz hsize hby hzs hsz v n xs hown ad m c news hl hc h1 h63 hbytes hbase
    exact ⟨v', w', hr, h2, h3, h5⟩
/-- What an append onto the call's own row says behind it. -/
def AppS (w : World) (base : Nat) (e : TypeId) (size : Nat) (v : Value) (n : Nat) (xs news : List Value) (m : Nat) (K : Value → World → Prop) : Prop :=
  ∀ v' w', w'.ownsRow base e size v' (n + m) (xs ++ news) → w.grownBy w' v.ownBlock → (v'.ownBlock = v.ownBlock ∨ v'.ownBlock = some w.heap.size) → K v' w'
theorem wp_append_src {P : Program} (w : World) {o : Oper} {a : Act} {K : Act → World → Prop} {Q : Exit → Act → World → Prop} (s x : Operand) (t : TypeId)
    (ho : o.op = .call { callee := .builtin .append, args := #[s, x], argTypes := #[t, t] })
    (base : Nat) (e : TypeId) (i : TypeInfo) (z : Value) (size bytes : Nat) (ht : P.underlying t = some (.slice e)) (hi : P.info? e = some i) (hz : i.zero = some z)
    (hsize : i.size = size) (hby : i.bytes = bytes) (hzs : z.cells.size = size) (hsz : 0 < size)
    (v : Value) (n : Nat) (xs : List Value) (hs : a.eval s = v) (hown : w.ownsRow base e size v n xs)
    (V : Value) (m : Nat) (news : List Value) (hx : a.eval x = V) (hsrc : SrcS w V m news) (hl : news.length = m * size) (h1 : ∀ u ∈ news, u.oneCell' = true)
    (h63 : n + m ≤ maxLen) (hbytes : (n + m) * bytes ≤ 140737488355328) (hbase : base ≤ w.heap.size)
    (h : AppS w base e size v n xs news m fun v' w' => K (a.put o.dst v') w') : Oper.wp P o a w K Q := by
  obtain ⟨v', w', hr, h2, h3, h4⟩ := run_append_src (P := P) w base t o.type e i z size bytes ht hi hz hsize hby hzs hsz v n xs hown V m news hsrc hl h1 h63 hbytes hbase
  unfold Oper.wp
  simp [execOp, ho, resolve, invoke, builtin, hs, hx, hr, Result.andThen]
  exact h v' w' h2 h3 h4
theorem wpList_append_src {P : Program} (w : World) {ops : Array Oper} {rest : List Oper} {o : Oper} {a : Act} {Q : Exit → Act → World → Prop} (hgd : o.guard = none) (s x : Operand) (t : TypeId)
    (ho : o.op = .call { callee := .builtin .append, args := #[s, x], argTypes := #[t, t] })
    (base : Nat) (e : TypeId) (i : TypeInfo) (z : Value) (size bytes : Nat) (ht : P.underlying t = some (.slice e)) (hi : P.info? e = some i) (hz : i.zero = some z)
    (hsize : i.size = size) (hby : i.bytes = bytes) (hzs : z.cells.size = size) (hsz : 0 < size)
    (v : Value) (n : Nat) (xs : List Value) (hs : a.eval s = v) (hown : w.ownsRow base e size v n xs)
    (V : Value) (m : Nat) (news : List Value) (hx : a.eval x = V) (hsrc : SrcS w V m news) (hl : news.length = m * size) (h1 : ∀ u ∈ news, u.oneCell' = true)
    (h63 : n + m ≤ maxLen) (hbytes : (n + m) * bytes ≤ 140737488355328) (hbase : base ≤ w.heap.size)
    (h : AppS w base e size v n xs news m fun v' w' => wpList P ops Q rest (a.put o.dst v') w') : wpList P ops Q (o :: rest) a w :=
  wpList_plain hgd fun _ hK => wp_append_src w s x t ho base e i z size bytes ht hi hz hsize hby hzs hsz v n xs hs hown V m news hx hsrc hl h1 h63 hbytes hbase fun v' w' h2 h3 h4 => hK _ _ (h v' w' h2 h3 h4)
theorem step_append_src {P : Program} (w : World) {ops : Array Oper} {o : Oper} {a : Act} {K : Act → World → Prop} {Q : Exit → Act → World → Prop} {E : Prop} (hgd : o.guard = none) (s x : Operand) (t : TypeId)
    (ho : o.op = .call { callee := .builtin .append, args := #[s, x], argTypes := #[t, t] })
    (base : Nat) (e : TypeId) (i : TypeInfo) (z : Value) (size bytes : Nat) (ht : P.underlying t = some (.slice e)) (hi : P.info? e = some i) (hz : i.zero = some z)
    (hsize : i.size = size) (hby : i.bytes = bytes) (hzs : z.cells.size = size) (hsz : 0 < size)
    (v : Value) (n : Nat) (xs : List Value) (hs : a.eval s = v) (hown : w.ownsRow base e size v n xs)
    (V : Value) (m : Nat) (news : List Value) (hx : a.eval x = V) (hsrc : SrcS w V m news) (hl : news.length = m * size) (h1 : ∀ u ∈ news, u.oneCell' = true)
    (h63 : n + m ≤ maxLen) (hbytes : (n + m) * bytes ≤ 140737488355328) (hbase : base ≤ w.heap.size)
    (h : AppS w base e size v n xs news m fun v' w' => K (a.put o.dst v') w') :
    if Region.wanted o (yielded ops a.tmps) = true then Oper.wp P o a w K Q else E := by
  have hw : Region.wanted o (yielded ops a.tmps) = true := by simp [Region.wanted, hgd]
  rw [if_pos hw]
  exact wp_append_src w s x t ho base e i z size bytes ht hi hz hsize hby hzs hsz v n xs hs hown V m news hx hsrc hl h1 h63 hbytes hbase h
theorem below_grown {w0 W W' : World} {V : Value} (B : Below w0.heap.size w0 W) (hV : ∀ k, V.ownBlock = some k → w0.heap.size ≤ k) (hg : W.grownBy W' V.ownBlock) : Below w0.heap.size w0 W' :=
  B.trans ⟨hg.os, hg.tape, hg.output, hg.size, fun k hk => hg.block k (Nat.lt_of_lt_of_le hk B.size) (fun e => by have := hV k e.symm; omega)⟩
def R11.T : Bool × List (List Nat × List Nat) := (true, [([], []), ([0], [0]), ([1], [1]), ([2], [2]), ([2], [2]), ([4, 2], [2, 4]), ([3, 5, 2], [2, 3, 5]), ([6, 2], [2, 6]), ([7, 2, 2], [2, 7]), ([2], [2]), ([9, 2], [2, 9]), ([10, 8, 2], [2, 10]), ([8, 11, 2], [2, 8, 11]), ([2, 12], [2, 12])])
def R11.B : List Nat := [0, 1, 3, 7, 7, 23, 63, 127, 255, 7, 519, 2047, 4095, 8191]
theorem R11.tab : rtab .any (opsOf Tryd.f10 11) = R11.T := by kernel_rfl
theorem R11.bits : waitsOk R11.T.2 R11.B = true := by kernel_rfl
section
variable {P : Program} {ops : Array Oper} {Q : Exit → Act → World → Prop} (hP : P = Tryd.prog) (tab : rtab .any ops = R11.T) (hq : ∀ (c : List PanicEntry) (a : Act) (d : Tmp) (v : Value) (w : World), Q (.panic c) (a.put (some d) v) w → Q (.panic c) a w)
variable {o0 : Oper} (h0 : ops[0]? = some o0) (d0 : o0.dst = some 46) (p0 : o0.op = .move (.tmp 12)) (g0 : o0.guard = none)
variable {o1 : Oper} (h1 : ops[1]? = some o1) (d1 : o1.dst = some 47) (p1 : o1.op = .binOp .gtr 3 (.tmp 46) (.const (.int .i64 0)) 3) (g1 : o1.guard = none)
variable {o2 : Oper} (h2 : ops[2]? = some o2) (d2 : o2.dst = some 48) (p2 : o2.op = .move (.tmp 47)) (g2 : o2.guard = none)
variable {o3 : Oper} (h3 : ops[3]? = some o3) (d3 : o3.dst = some 49) (p3 : o3.op = .move (.tmp 9)) (g3 : o3.guard = some (2, true))
variable {o4 : Oper} (h4 : ops[4]? = some o4) (d4 : o4.dst = some 50) (p4 : o4.op = .move (.tmp 12)) (g4 : o4.guard = some (2, true))
variable {o5 : Oper} (h5 : ops[5]? = some o5) (d5 : o5.dst = some 51) (p5 : o5.op = .binOp .sub 3 (.tmp 50) (.const (.int .i64 1)) 3) (g5 : o5.guard = some (2, true))
variable {o6 : Oper} (h6 : ops[6]? = some o6) (d6 : o6.dst = some 52) (p6 : o6.op = .indexAddr 32 (.tmp 49) (.tmp 51)) (g6 : o6.guard = some (2, true))
variable {o7 : Oper} (h7 : ops[7]? = some o7) (d7 : o7.dst = some 53) (p7 : o7.op = .load 28 (.tmp 52)) (g7 : o7.guard = some (2, true))
variable {o8 : Oper} (h8 : ops[8]? = some o8) (d8 : o8.dst = some 54) (p8 : o8.op = .call { callee := .value (.func 33), args := #[.tmp 53], argTypes := #[28] }) (g8 : o8.guard = some (2, true))
variable {o9 : Oper} (h9 : ops[9]? = some o9) (d9 : o9.dst = some 55) (p9 : o9.op = .fieldAddr 55 (.tmp 11) 0) (g9 : o9.guard = some (2, true))
variable {o10 : Oper} (h10 : ops[10]? = some o10) (d10 : o10.dst = some 56) (p10 : o10.op = .load 28 (.tmp 55)) (g10 : o10.guard = some (2, true))
variable {o11 : Oper} (h11 : ops[11]? = some o11) (d11 : o11.dst = some 57) (p11 : o11.op = .call { callee := .value (.func 33), args := #[.tmp 56], argTypes := #[28] }) (g11 : o11.guard = some (2, true))
variable {o12 : Oper} (h12 : ops[12]? = some o12) (d12 : o12.dst = some 58) (p12 : o12.op = .binOp .gtr 3 (.tmp 54) (.tmp 57) 3) (g12 : o12.guard = some (2, true))
variable {o13 : Oper} (h13 : ops[13]? = some o13) (d13 : o13.dst = some 59) (p13 : o13.op = .pick (.tmp 48) (.tmp 58) (.const (.bool false))) (g13 : o13.guard = none)
variable {u0 u1 u2 u3 u4 u5 u6 u7 u8 u9 u10 u11 u12 u13 u14 u15 u16 u17 u18 u19 u20 u21 u22 u23 u24 u25 u26 u27 u28 u29 u30 u31 u32 u33 u34 u35 u36 u37 u38 u39 u40 u41 u42 u43 u44 u45 u46 u47 u48 u49 u50 u51 u52 u53 u54 u55 u56 u57 u58 u59 u60 u61 u62 u63 u64 u65 u66 u67 u68 u69 u70 u71 u72 u73 u74 u75 u76 u77 u78 : Value}
variable {a r1 r2 : Int} {gO gx n m cO c1 c2 : Nat} {A1 A2 : Option Addr} {w0 : World} {l1 l2 : List Int}
variable (hmn : m < n) (hn : n ≤ 1000000) (lO : gO < w0.heap.size) (lx : gx < w0.heap.size) (q0 : w0.cell? ⟨gO, m * 2, none⟩ = some (.int .i64 a)) (q1 : w0.cell? ⟨gO, m * 2 + 1, none⟩ = some (.slice A1 l1.length c1)) (x0 : w0.cell? ⟨gx, 0, none⟩ = some (.int .i64 a)) (x1 : w0.cell? ⟨gx, 1, none⟩ = some (.slice A2 l2.length c2))
variable (hw1 : IntKind.i64.wrap (m : Int) = (m : Int)) (hmi : (m : Int) < (n : Int)) (hm0 : (0 : Int) ≤ (m : Int)) (hg0 : decide (((m + 1 : Nat) : Int) > 0) = true)
variable (H1 : ∀ W, Below w0.heap.size w0 W → Calls Tryd.prog 33 #[.agg #[.int .i64 a, .slice A1 l1.length c1]] W fun e w' => e = .returned (.int .i64 r1) ∧ Below W.heap.size W w')
variable (H2 : ∀ W, Below w0.heap.size w0 W → Calls Tryd.prog 33 #[.agg #[.int .i64 a, .slice A2 l2.length c2]] W fun e w' => e = .returned (.int .i64 r2) ∧ Below W.heap.size W w')
variable (hQ : ∀ W', Below w0.heap.size w0 W' → Q .normal ⟨#[u0, u1, u2, u3, u4, u5, u6, u7, u8, .slice (some ⟨gO, 0, none⟩) n cO, u10, .pointer (some ⟨gx, 0, none⟩), .int .i64 ((m + 1 : Nat) : Int), u13, u14, u15, u16, u17, u18, u19, u20, u21, u22, u23, u24, u25, u26, u27, u28, u29, u30, u31, u32, u33, u34, u35, u36, u37, u38, u39, u40, u41, u42, u43, u44, u45, .int .i64 ((m + 1 : Nat) : Int), .bool true, .bool true, .slice (some ⟨gO, 0, none⟩) n cO, .int .i64 ((m + 1 : Nat) : Int), .int .i64 (m : Int), .pointer (some ⟨gO, m * 2, none⟩), .agg #[.int .i64 a, .slice A1 l1.length c1], .int .i64 r1, .pointer (some ⟨gx, 0, none⟩), .agg #[.int .i64 a, .slice A2 l2.length c2], .int .i64 r2, .bool (decide (r2 < r1)), .bool (decide (r2 < r1)), u60, u61, u62, u63, u64, u65, u66, u67, u68, u69, u70, u71, u72, u73, u74, u75, u76, u77, u78], []⟩ W')
include hP tab hq h0 d0 p0 g0 h1 d1 p1 g1 h2 d2 p2 g2 h3 d3 p3 g3 h4 d4 p4 g4 h5 d5 p5 g5 h6 d6 p6 g6 h7 d7 p7 g7 h8 d8 p8 g8 h9 d9 p9 g9 h10 d10 p10 g10 h11 d11 p11 g11 h12 d12 p12 g12 h13 d13 p13 g13 hmn hn lO lx q0 q1 x0 x1 hw1 hmi hm0 hg0 H1 H2 hQ
set_option maxRecDepth 100000 in
set_option maxHeartbeats 2000000 in
theorem R11_11 (W : World) (hS : (fun w' => Below w0.heap.size w0 w') W) : wpAnyLast P .any ops Q (fun w' => Below w0.heap.size w0 w') [] 0 #[true, true, true, true, true, true, true, true, true, true, true, true, true, true] ⟨#[u0, u1, u2, u3, u4, u5, u6, u7, u8, .slice (some ⟨gO, 0, none⟩) n cO, u10, .pointer (some ⟨gx, 0, none⟩), .int .i64 ((m + 1 : Nat) : Int), u13, u14, u15, u16, u17, u18, u19, u20, u21, u22, u23, u24, u25, u26, u27, u28, u29, u30, u31, u32, u33, u34, u35, u36, u37, u38, u39, u40, u41, u42, u43, u44, u45, .int .i64 ((m + 1 : Nat) : Int), .bool true, .bool true, .slice (some ⟨gO, 0, none⟩) n cO, .int .i64 ((m + 1 : Nat) : Int), .int .i64 (m : Int), .pointer (some ⟨gO, m * 2, none⟩), .agg #[.int .i64 a, .slice A1 l1.length c1], .int .i64 r1, .pointer (some ⟨gx, 0, none⟩), .agg #[.int .i64 a, .slice A2 l2.length c2], .int .i64 r2, .bool (decide (r2 < r1)), .bool (decide (r2 < r1)), u60, u61, u62, u63, u64, u65, u66, u67, u68, u69, u70, u71, u72, u73, u74, u75, u76, u77, u78], []⟩ W := by
  refine done_ (done_of tab (by kernel_rfl)) ?_
  exact hQ W hS
set_option maxRecDepth 100000 in
set_option maxHeartbeats 2000000 in
theorem R11_10 (W : World) (hS : (fun w' => Below w0.heap.size w0 w') W) : wpAnyLast P .any ops Q (fun w' => Below w0.heap.size w0 w') [] 3 #[true, true, true, true, true, true, true, true, true, true, true, false, false, false] ⟨#[u0, u1, u2, u3, u4, u5, u6, u7, u8, .slice (some ⟨gO, 0, none⟩) n cO, u10, .pointer (some ⟨gx, 0, none⟩), .int .i64 ((m + 1 : Nat) : Int), u13, u14, u15, u16, u17, u18, u19, u20, u21, u22, u23, u24, u25, u26, u27, u28, u29, u30, u31, u32, u33, u34, u35, u36, u37, u38, u39, u40, u41, u42, u43, u44, u45, .int .i64 ((m + 1 : Nat) : Int), .bool true, .bool true, .slice (some ⟨gO, 0, none⟩) n cO, .int .i64 ((m + 1 : Nat) : Int), .int .i64 (m : Int), .pointer (some ⟨gO, m * 2, none⟩), .agg #[.int .i64 a, .slice A1 l1.length c1], .int .i64 r1, .pointer (some ⟨gx, 0, none⟩), .agg #[.int .i64 a, .slice A2 l2.length c2], u57, u58, u59, u60, u61, u62, u63, u64, u65, u66, u67, u68, u69, u70, u71, u72, u73, u74, u75, u76, u77, u78], []⟩ W := by
  refine one_ (i := 11) (N := some 57) #[true, true, true, true, true, true, true, true, true, true, true, true, false, false] h11 d11 (one_of tab (by kernel_rfl)) (by decide) (fun K hK => ?_)
  · -- 11
    subst hP
    refine goes_ Tryd.func33 (by kernel_rfl) rfl #[.agg #[.int .i64 a, .slice A2 l2.length c2]] (by simp [Region.wanted, yielded, g11, h2, d2, Act.put]) d11 p11 (by simp [Act.eval]) ?_
    refine (H2 W hS).mono ?_
    rintro e W' ⟨rfl, hB⟩
    refine ⟨_, rfl, ?_⟩
    refine hK.out _ _ (hS.trans (hB.mono hS.size)) (fun hHeld => ?_)
    clear hK K
    refine norm_ (a' := ⟨#[u0, u1, u2, u3, u4, u5, u6, u7, u8, .slice (some ⟨gO, 0, none⟩) n cO, u10, .pointer (some ⟨gx, 0, none⟩), .int .i64 ((m + 1 : Nat) : Int), u13, u14, u15, u16, u17, u18, u19, u20, u21, u22, u23, u24, u25, u26, u27, u28, u29, u30, u31, u32, u33, u34, u35, u36, u37, u38, u39, u40, u41, u42, u43, u44, u45, .int .i64 ((m + 1 : Nat) : Int), .bool true, .bool true, .slice (some ⟨gO, 0, none⟩) n cO, .int .i64 ((m + 1 : Nat) : Int), .int .i64 (m : Int), .pointer (some ⟨gO, m * 2, none⟩), .agg #[.int .i64 a, .slice A1 l1.length c1], .int .i64 r1, .pointer (some ⟨gx, 0, none⟩), .agg #[.int .i64 a, .slice A2 l2.length c2], .int .i64 r2, u58, u59, u60, u61, u62, u63, u64, u65, u66, u67, u68, u69, u70, u71, u72, u73, u74, u75, u76, u77, u78], []⟩) (by rfl) ?_
    refine pure_ (i := 12) (N := some 58) (v := .bool (decide (r2 < r1))) (a' := ⟨#[u0, u1, u2, u3, u4, u5, u6, u7, u8, .slice (some ⟨gO, 0, none⟩) n cO, u10, .pointer (some ⟨gx, 0, none⟩), .int .i64 ((m + 1 : Nat) : Int), u13, u14, u15, u16, u17, u18, u19, u20, u21, u22, u23, u24, u25, u26, u27, u28, u29, u30, u31, u32, u33, u34, u35, u36, u37, u38, u39, u40, u41, u42, u43, u44, u45, .int .i64 ((m + 1 : Nat) : Int), .bool true, .bool true, .slice (some ⟨gO, 0, none⟩) n cO, .int .i64 ((m + 1 : Nat) : Int), .int .i64 (m : Int), .pointer (some ⟨gO, m * 2, none⟩), .agg #[.int .i64 a, .slice A1 l1.length c1], .int .i64 r1, .pointer (some ⟨gx, 0, none⟩), .agg #[.int .i64 a, .slice A2 l2.length c2], .int .i64 r2, .bool (decide (r2 < r1)), u59, u60, u61, u62, u63, u64, u65, u66, u67, u68, u69, u70, u71, u72, u73, u74, u75, u76, u77, u78], []⟩) #[true, true, true, true, true, true, true, true, true, true, true, true, true, false] h12 d12 (any_of tab (by kernel_rfl)) (fun c a w z => hq c a _ _ w (by rw [d12] at z; exact z)) (Or.inl ⟨by simp [Region.wanted, yielded, g12, h2, d2, Act.put], fun w' => ?_⟩) (by rfl) ?_
    · simp only [execOp, p12, Act.eval, Act.put]
      first | (go_simp; done) | (go_simp; rfl)
    refine pure_ (i := 13) (N := some 59) (v := .bool (decide (r2 < r1))) (a' := ⟨#[u0, u1, u2, u3, u4, u5, u6, u7, u8, .slice (some ⟨gO, 0, none⟩) n cO, u10, .pointer (some ⟨gx, 0, none⟩), .int .i64 ((m + 1 : Nat) : Int), u13, u14, u15, u16, u17, u18, u19, u20, u21, u22, u23, u24, u25, u26, u27, u28, u29, u30, u31, u32, u33, u34, u35, u36, u37, u38, u39, u40, u41, u42, u43, u44, u45, .int .i64 ((m + 1 : Nat) : Int), .bool true, .bool true, .slice (some ⟨gO, 0, none⟩) n cO, .int .i64 ((m + 1 : Nat) : Int), .int .i64 (m : Int), .pointer (some ⟨gO, m * 2, none⟩), .agg #[.int .i64 a, .slice A1 l1.length c1], .int .i64 r1, .pointer (some ⟨gx, 0, none⟩), .agg #[.int .i64 a, .slice A2 l2.length c2], .int .i64 r2, .bool (decide (r2 < r1)), .bool (decide (r2 < r1)), u60, u61, u62, u63, u64, u65, u66, u67, u68, u69, u70, u71, u72, u73, u74, u75, u76, u77, u78], []⟩) #[true, true, true, true, true, true, true, true, true, true, true, true, true, true] h13 d13 (any_of tab (by kernel_rfl)) (fun c a w z => hq c a _ _ w (by rw [d13] at z; exact z)) (Or.inl ⟨by simp [Region.wanted, g13], fun w' => ?_⟩) (by rfl) ?_
    · simp only [execOp, p13, Act.eval, Act.put]
      first | (go_simp; done) | (go_simp; rfl)
    exact R11_11 rfl tab hq h0 d0 p0 g0 h1 d1 p1 g1 h2 d2 p2 g2 h3 d3 p3 g3 h4 d4 p4 g4 h5 d5 p5 g5 h6 d6 p6 g6 h7 d7 p7 g7 h8 d8 p8 g8 h9 d9 p9 g9 h10 d10 p10 g10 h11 d11 p11 g11 h12 d12 p12 g12 h13 d13 p13 g13 hmn hn lO lx q0 q1 x0 x1 hw1 hmi hm0 hg0 H1 H2 hQ W' hHeld
set_option maxRecDepth 100000 in
set_option maxHeartbeats 2000000 in
theorem R11_00 (W : World) (hS : (fun w' => Below w0.heap.size w0 w') W) : wpAnyLast P .any ops Q (fun w' => Below w0.heap.size w0 w') [] 4 #[true, true, true, true, true, true, true, true, false, true, true, false, false, false] ⟨#[u0, u1, u2, u3, u4, u5, u6, u7, u8, .slice (some ⟨gO, 0, none⟩) n cO, u10, .pointer (some ⟨gx, 0, none⟩), .int .i64 ((m + 1 : Nat) : Int), u13, u14, u15, u16, u17, u18, u19, u20, u21, u22, u23, u24, u25, u26, u27, u28, u29, u30, u31, u32, u33, u34, u35, u36, u37, u38, u39, u40, u41, u42, u43, u44, u45, .int .i64 ((m + 1 : Nat) : Int), .bool true, .bool true, .slice (some ⟨gO, 0, none⟩) n cO, .int .i64 ((m + 1 : Nat) : Int), .int .i64 (m : Int), .pointer (some ⟨gO, m * 2, none⟩), .agg #[.int .i64 a, .slice A1 l1.length c1], u54, .pointer (some ⟨gx, 0, none⟩), .agg #[.int .i64 a, .slice A2 l2.length c2], u57, u58, u59, u60, u61, u62, u63, u64, u65, u66, u67, u68, u69, u70, u71, u72, u73, u74, u75, u76, u77, u78], []⟩ W := by
  refine one_ (i := 8) (N := some 54) #[true, true, true, true, true, true, true, true, true, true, true, false, false, false] h8 d8 (one_of tab (by kernel_rfl)) (by decide) (fun K hK => ?_)
  · -- 8
    subst hP
    refine goes_ Tryd.func33 (by kernel_rfl) rfl #[.agg #[.int .i64 a, .slice A1 l1.length c1]] (by simp [Region.wanted, yielded, g8, h2, d2, Act.put]) d8 p8 (by simp [Act.eval]) ?_
    refine (H1 W hS).mono ?_
    rintro e W' ⟨rfl, hB⟩
    refine ⟨_, rfl, ?_⟩
    refine hK.out _ _ (hS.trans (hB.mono hS.size)) (fun hHeld => ?_)
    clear hK K
    refine norm_ (a' := ⟨#[u0, u1, u2, u3, u4, u5, u6, u7, u8, .slice (some ⟨gO, 0, none⟩) n cO, u10, .pointer (some ⟨gx, 0, none⟩), .int .i64 ((m + 1 : Nat) : Int), u13, u14, u15, u16, u17, u18, u19, u20, u21, u22, u23, u24, u25, u26, u27, u28, u29, u30, u31, u32, u33, u34, u35, u36, u37, u38, u39, u40, u41, u42, u43, u44, u45, .int .i64 ((m + 1 : Nat) : Int), .bool true, .bool true, .slice (some ⟨gO, 0, none⟩) n cO, .int .i64 ((m + 1 : Nat) : Int), .int .i64 (m : Int), .pointer (some ⟨gO, m * 2, none⟩), .agg #[.int .i64 a, .slice A1 l1.length c1], .int .i64 r1, .pointer (some ⟨gx, 0, none⟩), .agg #[.int .i64 a, .slice A2 l2.length c2], u57, u58, u59, u60, u61, u62, u63, u64, u65, u66, u67, u68, u69, u70, u71, u72, u73, u74, u75, u76, u77, u78], []⟩) (by rfl) ?_
    exact R11_10 rfl tab hq h0 d0 p0 g0 h1 d1 p1 g1 h2 d2 p2 g2 h3 d3 p3 g3 h4 d4 p4 g4 h5 d5 p5 g5 h6 d6 p6 g6 h7 d7 p7 g7 h8 d8 p8 g8 h9 d9 p9 g9 h10 d10 p10 g10 h11 d11 p11 g11 h12 d12 p12 g12 h13 d13 p13 g13 hmn hn lO lx q0 q1 x0 x1 hw1 hmi hm0 hg0 H1 H2 hQ W' hHeld
set_option maxRecDepth 100000 in
set_option maxHeartbeats 2000000 in
theorem R11_region {id : Nat} (hsize : ops.size = 14)  : (Code.region id ops true).wp P Q ⟨#[u0, u1, u2, u3, u4, u5, u6, u7, u8, .slice (some ⟨gO, 0, none⟩) n cO, u10, .pointer (some ⟨gx, 0, none⟩), .int .i64 ((m + 1 : Nat) : Int), u13, u14, u15, u16, u17, u18, u19, u20, u21, u22, u23, u24, u25, u26, u27, u28, u29, u30, u31, u32, u33, u34, u35, u36, u37, u38, u39, u40, u41, u42, u43, u44, u45, u46, u47, u48, u49, u50, u51, u52, u53, u54, u55, u56, u57, u58, u59, u60, u61, u62, u63, u64, u65, u66, u67, u68, u69, u70, u71, u72, u73, u74, u75, u76, u77, u78], []⟩ w0 := by
  refine start_ (n := 14) (S := (fun w' => Below w0.heap.size w0 w')) (ds := []) #[false, false, false, false, false, false, false, false, false, false, false, false, false, false] (by rw [hP]; kernel_rfl) hsize rfl (below_drew (Below.refl _ w0)) (fun hHeld => ?_)
  refine pure_ (i := 0) (N := some 46) (v := .int .i64 ((m + 1 : Nat) : Int)) (a' := ⟨#[u0, u1, u2, u3, u4, u5, u6, u7, u8, .slice (some ⟨gO, 0, none⟩) n cO, u10, .pointer (some ⟨gx, 0, none⟩), .int .i64 ((m + 1 : Nat) : Int), u13, u14, u15, u16, u17, u18, u19, u20, u21, u22, u23, u24, u25, u26, u27, u28, u29, u30, u31, u32, u33, u34, u35, u36, u37, u38, u39, u40, u41, u42, u43, u44, u45, .int .i64 ((m + 1 : Nat) : Int), u47, u48, u49, u50, u51, u52, u53, u54, u55, u56, u57, u58, u59, u60, u61, u62, u63, u64, u65, u66, u67, u68, u69, u70, u71, u72, u73, u74, u75, u76, u77, u78], []⟩) #[true, false, false, false, false, false, false, false, false, false, false, false, false, false] h0 d0 (any_of tab (by kernel_rfl)) (fun c a w z => hq c a _ _ w (by rw [d0] at z; exact z)) (Or.inl ⟨by simp [Region.wanted, g0], fun w' => ?_⟩) (by rfl) ?_
  · simp only [execOp, p0, Act.eval, Act.put]
    first | (go_simp; done) | (go_simp; rfl)
  refine pure_ (i := 1) (N := some 47) (v := .bool true) (a' := ⟨#[u0, u1, u2, u3, u4, u5, u6, u7, u8, .slice (some ⟨gO, 0, none⟩) n cO, u10, .pointer (some ⟨gx, 0, none⟩), .int .i64 ((m + 1 : Nat) : Int), u13, u14, u15, u16, u17, u18, u19, u20, u21, u22, u23, u24, u25, u26, u27, u28, u29, u30, u31, u32, u33, u34, u35, u36, u37, u38, u39, u40, u41, u42, u43, u44, u45, .int .i64 ((m + 1 : Nat) : Int), .bool true, u48, u49, u50, u51, u52, u53, u54, u55, u56, u57, u58, u59, u60, u61, u62, u63, u64, u65, u66, u67, u68, u69, u70, u71, u72, u73, u74, u75, u76, u77, u78], []⟩) #[true, true, false, false, false, false, false, false, false, false, false, false, false, false] h1 d1 (any_of tab (by kernel_rfl)) (fun c a w z => hq c a _ _ w (by rw [d1] at z; exact z)) (Or.inl ⟨by simp [Region.wanted, g1], fun w' => ?_⟩) (by rfl) ?_
  · simp only [execOp, p1, Act.eval, Act.put]
    first | (go_simp; done) | (go_simp; simp)
  refine pure_ (i := 2) (N := some 48) (v := .bool true) (a' := ⟨#[u0, u1, u2, u3, u4, u5, u6, u7, u8, .slice (some ⟨gO, 0, none⟩) n cO, u10, .pointer (some ⟨gx, 0, none⟩), .int .i64 ((m + 1 : Nat) : Int), u13, u14, u15, u16, u17, u18, u19, u20, u21, u22, u23, u24, u25, u26, u27, u28, u29, u30, u31, u32, u33, u34, u35, u36, u37, u38, u39, u40, u41, u42, u43, u44, u45, .int .i64 ((m + 1 : Nat) : Int), .bool true, .bool true, u49, u50, u51, u52, u53, u54, u55, u56, u57, u58, u59, u60, u61, u62, u63, u64, u65, u66, u67, u68, u69, u70, u71, u72, u73, u74, u75, u76, u77, u78], []⟩) #[true, true, true, false, false, false, false, false, false, false, false, false, false, false] h2 d2 (any_of tab (by kernel_rfl)) (fun c a w z => hq c a _ _ w (by rw [d2] at z; exact z)) (Or.inl ⟨by simp [Region.wanted, g2], fun w' => ?_⟩) (by rfl) ?_
  · simp only [execOp, p2, Act.eval, Act.put]
    first | (go_simp; done) | (go_simp; rfl)
  refine pure_ (i := 3) (N := some 49) (v := .slice (some ⟨gO, 0, none⟩) n cO) (a' := ⟨#[u0, u1, u2, u3, u4, u5, u6, u7, u8, .slice (some ⟨gO, 0, none⟩) n cO, u10, .pointer (some ⟨gx, 0, none⟩), .int .i64 ((m + 1 : Nat) : Int), u13, u14, u15, u16, u17, u18, u19, u20, u21, u22, u23, u24, u25, u26, u27, u28, u29, u30, u31, u32, u33, u34, u35, u36, u37, u38, u39, u40, u41, u42, u43, u44, u45, .int .i64 ((m + 1 : Nat) : Int), .bool true, .bool true, .slice (some ⟨gO, 0, none⟩) n cO, u50, u51, u52, u53, u54, u55, u56, u57, u58, u59, u60, u61, u62, u63, u64, u65, u66, u67, u68, u69, u70, u71, u72, u73, u74, u75, u76, u77, u78], []⟩) #[true, true, true, true, false, false, false, false, false, false, false, false, false, false] h3 d3 (any_of tab (by kernel_rfl)) (fun c a w z => hq c a _ _ w (by rw [d3] at z; exact z)) (Or.inl ⟨by simp [Region.wanted, yielded, g3, h2, d2, Act.put], fun w' => ?_⟩) (by rfl) ?_
  · simp only [execOp, p3, Act.eval, Act.put]
    first | (go_simp; done) | (go_simp; rfl)
  refine pure_ (i := 4) (N := some 50) (v := .int .i64 ((m + 1 : Nat) : Int)) (a' := ⟨#[u0, u1, u2, u3, u4, u5, u6, u7, u8, .slice (some ⟨gO, 0, none⟩) n cO, u10, .pointer (some ⟨gx, 0, none⟩), .int .i64 ((m + 1 : Nat) : Int), u13, u14, u15, u16, u17, u18, u19, u20, u21, u22, u23, u24, u25, u26, u27, u28, u29, u30, u31, u32, u33, u34, u35, u36, u37, u38, u39, u40, u41, u42, u43, u44, u45, .int .i64 ((m + 1 : Nat) : Int), .bool true, .bool true, .slice (some ⟨gO, 0, none⟩) n cO, .int .i64 ((m + 1 : Nat) : Int), u51, u52, u53, u54, u55, u56, u57, u58, u59, u60, u61, u62, u63, u64, u65, u66, u67, u68, u69, u70, u71, u72, u73, u74, u75, u76, u77, u78], []⟩) #[true, true, true, true, true, false, false, false, false, false, false, false, false, false] h4 d4 (any_of tab (by kernel_rfl)) (fun c a w z => hq c a _ _ w (by rw [d4] at z; exact z)) (Or.inl ⟨by simp [Region.wanted, yielded, g4, h2, d2, Act.put], fun w' => ?_⟩) (by rfl) ?_
  · simp only [execOp, p4, Act.eval, Act.put]
    first | (go_simp; done) | (go_simp; rfl)
  refine pure_ (i := 5) (N := some 51) (v := .int .i64 (m : Int)) (a' := ⟨#[u0, u1, u2, u3, u4, u5, u6, u7, u8, .slice (some ⟨gO, 0, none⟩) n cO, u10, .pointer (some ⟨gx, 0, none⟩), .int .i64 ((m + 1 : Nat) : Int), u13, u14, u15, u16, u17, u18, u19, u20, u21, u22, u23, u24, u25, u26, u27, u28, u29, u30, u31, u32, u33, u34, u35, u36, u37, u38, u39, u40, u41, u42, u43, u44, u45, .int .i64 ((m + 1 : Nat) : Int), .bool true, .bool true, .slice (some ⟨gO, 0, none⟩) n cO, .int .i64 ((m + 1 : Nat) : Int), .int .i64 (m : Int), u52, u53, u54, u55, u56, u57, u58, u59, u60, u61, u62, u63, u64, u65, u66, u67, u68, u69, u70, u71, u72, u73, u74, u75, u76, u77, u78], []⟩) #[true, true, true, true, true, true, false, false, false, false, false, false, false, false] h5 d5 (any_of tab (by kernel_rfl)) (fun c a w z => hq c a _ _ w (by rw [d5] at z; exact z)) (Or.inl ⟨by simp [Region.wanted, yielded, g5, h2, d2, Act.put], fun w' => ?_⟩) (by rfl) ?_
  · simp only [execOp, p5, Act.eval, Act.put]
    go_simp
  refine pure_ (i := 6) (N := some 52) (v := .pointer (some ⟨gO, m * 2, none⟩)) (a' := ⟨#[u0, u1, u2, u3, u4, u5, u6, u7, u8, .slice (some ⟨gO, 0, none⟩) n cO, u10, .pointer (some ⟨gx, 0, none⟩), .int .i64 ((m + 1 : Nat) : Int), u13, u14, u15, u16, u17, u18, u19, u20, u21, u22, u23, u24, u25, u26, u27, u28, u29, u30, u31, u32, u33, u34, u35, u36, u37, u38, u39, u40, u41, u42, u43, u44, u45, .int .i64 ((m + 1 : Nat) : Int), .bool true, .bool true, .slice (some ⟨gO, 0, none⟩) n cO, .int .i64 ((m + 1 : Nat) : Int), .int .i64 (m : Int), .pointer (some ⟨gO, m * 2, none⟩), u53, u54, u55, u56, u57, u58, u59, u60, u61, u62, u63, u64, u65, u66, u67, u68, u69, u70, u71, u72, u73, u74, u75, u76, u77, u78], []⟩) #[true, true, true, true, true, true, true, false, false, false, false, false, false, false] h6 d6 (any_of tab (by kernel_rfl)) (fun c a w z => hq c a _ _ w (by rw [d6] at z; exact z)) (Or.inl ⟨by simp [Region.wanted, yielded, g6, h2, d2, Act.put], fun w' => ?_⟩) (by rfl) ?_
  · simp only [execOp, p6, Act.eval, Act.put]
    first | (go_simp; done) | (go_simp; rfl)
  refine pure_ (i := 9) (N := some 55) (v := .pointer (some ⟨gx, 0, none⟩)) (a' := ⟨#[u0, u1, u2, u3, u4, u5, u6, u7, u8, .slice (some ⟨gO, 0, none⟩) n cO, u10, .pointer (some ⟨gx, 0, none⟩), .int .i64 ((m + 1 : Nat) : Int), u13, u14, u15, u16, u17, u18, u19, u20, u21, u22, u23, u24, u25, u26, u27, u28, u29, u30, u31, u32, u33, u34, u35, u36, u37, u38, u39, u40, u41, u42, u43, u44, u45, .int .i64 ((m + 1 : Nat) : Int), .bool true, .bool true, .slice (some ⟨gO, 0, none⟩) n cO, .int .i64 ((m + 1 : Nat) : Int), .int .i64 (m : Int), .pointer (some ⟨gO, m * 2, none⟩), u53, u54, .pointer (some ⟨gx, 0, none⟩), u56, u57, u58, u59, u60, u61, u62, u63, u64, u65, u66, u67, u68, u69, u70, u71, u72, u73, u74, u75, u76, u77, u78], []⟩) #[true, true, true, true, true, true, true, false, false, true, false, false, false, false] h9 d9 (any_of tab (by kernel_rfl)) (fun c a w z => hq c a _ _ w (by rw [d9] at z; exact z)) (Or.inl ⟨by simp [Region.wanted, yielded, g9, h2, d2, Act.put], fun w' => ?_⟩) (by rfl) ?_
  · simp only [execOp, p9, Act.eval, Act.put]
    first | (go_simp; done) | (go_simp; rfl)
  refine take_ (i := 7) (N := some 53) (v := .agg #[.int .i64 a, .slice A1 l1.length c1]) (a' := ⟨#[u0, u1, u2, u3, u4, u5, u6, u7, u8, .slice (some ⟨gO, 0, none⟩) n cO, u10, .pointer (some ⟨gx, 0, none⟩), .int .i64 ((m + 1 : Nat) : Int), u13, u14, u15, u16, u17, u18, u19, u20, u21, u22, u23, u24, u25, u26, u27, u28, u29, u30, u31, u32, u33, u34, u35, u36, u37, u38, u39, u40, u41, u42, u43, u44, u45, .int .i64 ((m + 1 : Nat) : Int), .bool true, .bool true, .slice (some ⟨gO, 0, none⟩) n cO, .int .i64 ((m + 1 : Nat) : Int), .int .i64 (m : Int), .pointer (some ⟨gO, m * 2, none⟩), .agg #[.int .i64 a, .slice A1 l1.length c1], u54, .pointer (some ⟨gx, 0, none⟩), u56, u57, u58, u59, u60, u61, u62, u63, u64, u65, u66, u67, u68, u69, u70, u71, u72, u73, u74, u75, u76, u77, u78], []⟩) #[true, true, true, true, true, true, true, true, false, true, false, false, false, false] h7 d7 (take_ofW tab R11.bits (by kernel_rfl)) (fun c a w z => hq c a _ _ w (by rw [d7] at z; exact z)) (Or.inl ⟨by simp [Region.wanted, yielded, g7, h2, d2, Act.put], ?_⟩) hHeld (by rfl) ?_
  · intro w' hs
    have s0 := (hs.cell (p := ⟨gO, m * 2, none⟩) lO).trans q0
    have s1 := (hs.cell (p := ⟨gO, m * 2 + 1, none⟩) lO).trans q1
    have s2 := (hs.cell (p := ⟨gx, 0, none⟩) lx).trans x0
    have s3 := (hs.cell (p := ⟨gx, 1, none⟩) lx).trans x1
    simp only [execOp, p7, Act.eval, Act.put]
    first | (go_simp; done) | (go_simp; rfl)
  refine take_ (i := 10) (N := some 56) (v := .agg #[.int .i64 a, .slice A2 l2.length c2]) (a' := ⟨#[u0, u1, u2, u3, u4, u5, u6, u7, u8, .slice (some ⟨gO, 0, none⟩) n cO, u10, .pointer (some ⟨gx, 0, none⟩), .int .i64 ((m + 1 : Nat) : Int), u13, u14, u15, u16, u17, u18, u19, u20, u21, u22, u23, u24, u25, u26, u27, u28, u29, u30, u31, u32, u33, u34, u35, u36, u37, u38, u39, u40, u41, u42, u43, u44, u45, .int .i64 ((m + 1 : Nat) : Int), .bool true, .bool true, .slice (some ⟨gO, 0, none⟩) n cO, .int .i64 ((m + 1 : Nat) : Int), .int .i64 (m : Int), .pointer (some ⟨gO, m * 2, none⟩), .agg #[.int .i64 a, .slice A1 l1.length c1], u54, .pointer (some ⟨gx, 0, none⟩), .agg #[.int .i64 a, .slice A2 l2.length c2], u57, u58, u59, u60, u61, u62, u63, u64, u65, u66, u67, u68, u69, u70, u71, u72, u73, u74, u75, u76, u77, u78], []⟩) #[true, true, true, true, true, true, true, true, false, true, true, false, false, false] h10 d10 (take_ofW tab R11.bits (by kernel_rfl)) (fun c a w z => hq c a _ _ w (by rw [d10] at z; exact z)) (Or.inl ⟨by simp [Region.wanted, yielded, g10, h2, d2, Act.put], ?_⟩) hHeld (by rfl) ?_
  · intro w' hs
    have s0 := (hs.cell (p := ⟨gO, m * 2, none⟩) lO).trans q0
    have s1 := (hs.cell (p := ⟨gO, m * 2 + 1, none⟩) lO).trans q1
    have s2 := (hs.cell (p := ⟨gx, 0, none⟩) lx).trans x0
    have s3 := (hs.cell (p := ⟨gx, 1, none⟩) lx).trans x1
    simp only [execOp, p10, Act.eval, Act.put]
    first | (go_simp; done) | (go_simp; rfl)
  exact R11_00 hP tab hq h0 d0 p0 g0 h1 d1 p1 g1 h2 d2 p2 g2 h3 d3 p3 g3 h4 d4 p4 g4 h5 d5 p5 g5 h6 d6 p6 g6 h7 d7 p7 g7 h8 d8 p8 g8 h9 d9 p9 g9 h10 d10 p10 g10 h11 d11 p11 g11 h12 d12 p12 g12 h13 d13 p13 g13 hmn hn lO lx q0 q1 x0 x1 hw1 hmi hm0 hg0 H1 H2 hQ _ hHeld
end
section
variable {P : Program} {ops : Array Oper} {Q : Exit → Act → World → Prop} (hP : P = Tryd.prog) (tab : rtab .any ops = R11.T) (hq : ∀ (c : List PanicEntry) (a : Act) (d : Tmp) (v : Value) (w : World), Q (.panic c) (a.put (some d) v) w → Q (.panic c) a w)
variable {o0 : Oper} (h0 : ops[0]? = some o0) (d0 : o0.dst = some 46) (p0 : o0.op = .move (.tmp 12)) (g0 : o0.guard = none)
variable {o1 : Oper} (h1 : ops[1]? = some o1) (d1 : o1.dst = some 47) (p1 : o1.op = .binOp .gtr 3 (.tmp 46) (.const (.int .i64 0)) 3) (g1 : o1.guard = none)
variable {o2 : Oper} (h2 : ops[2]? = some o2) (d2 : o2.dst = some 48) (p2 : o2.op = .move (.tmp 47)) (g2 : o2.guard = none)
variable {o3 : Oper} (h3 : ops[3]? = some o3) (d3 : o3.dst = some 49) (p3 : o3.op = .move (.tmp 9)) (g3 : o3.guard = some (2, true))
variable {o4 : Oper} (h4 : ops[4]? = some o4) (d4 : o4.dst = some 50) (p4 : o4.op = .move (.tmp 12)) (g4 : o4.guard = some (2, true))
variable {o5 : Oper} (h5 : ops[5]? = some o5) (d5 : o5.dst = some 51) (p5 : o5.op = .binOp .sub 3 (.tmp 50) (.const (.int .i64 1)) 3) (g5 : o5.guard = some (2, true))
variable {o6 : Oper} (h6 : ops[6]? = some o6) (d6 : o6.dst = some 52) (p6 : o6.op = .indexAddr 32 (.tmp 49) (.tmp 51)) (g6 : o6.guard = some (2, true))
variable {o7 : Oper} (h7 : ops[7]? = some o7) (d7 : o7.dst = some 53) (p7 : o7.op = .load 28 (.tmp 52)) (g7 : o7.guard = some (2, true))
variable {o8 : Oper} (h8 : ops[8]? = some o8) (d8 : o8.dst = some 54) (p8 : o8.op = .call { callee := .value (.func 33), args := #[.tmp 53], argTypes := #[28] }) (g8 : o8.guard = some (2, true))
variable {o9 : Oper} (h9 : ops[9]? = some o9) (d9 : o9.dst = some 55) (p9 : o9.op = .fieldAddr 55 (.tmp 11) 0) (g9 : o9.guard = some (2, true))
variable {o10 : Oper} (h10 : ops[10]? = some o10) (d10 : o10.dst = some 56) (p10 : o10.op = .load 28 (.tmp 55)) (g10 : o10.guard = some (2, true))
variable {o11 : Oper} (h11 : ops[11]? = some o11) (d11 : o11.dst = some 57) (p11 : o11.op = .call { callee := .value (.func 33), args := #[.tmp 56], argTypes := #[28] }) (g11 : o11.guard = some (2, true))
variable {o12 : Oper} (h12 : ops[12]? = some o12) (d12 : o12.dst = some 58) (p12 : o12.op = .binOp .gtr 3 (.tmp 54) (.tmp 57) 3) (g12 : o12.guard = some (2, true))
variable {o13 : Oper} (h13 : ops[13]? = some o13) (d13 : o13.dst = some 59) (p13 : o13.op = .pick (.tmp 48) (.tmp 58) (.const (.bool false))) (g13 : o13.guard = none)
variable {u0 u1 u2 u3 u4 u5 u6 u7 u8 u9 u10 u11 u12 u13 u14 u15 u16 u17 u18 u19 u20 u21 u22 u23 u24 u25 u26 u27 u28 u29 u30 u31 u32 u33 u34 u35 u36 u37 u38 u39 u40 u41 u42 u43 u44 u45 u46 u47 u48 u49 u50 u51 u52 u53 u54 u55 u56 u57 u58 u59 u60 u61 u62 u63 u64 u65 u66 u67 u68 u69 u70 u71 u72 u73 u74 u75 u76 u77 u78 : Value} {w0 : World}
variable (hQ : ∀ W', Below w0.heap.size w0 W' → Q .normal ⟨#[u0, u1, u2, u3, u4, u5, u6, u7, u8, u9, u10, u11, .int .i64 0, u13, u14, u15, u16, u17, u18, u19, u20, u21, u22, u23, u24, u25, u26, u27, u28, u29, u30, u31, u32, u33, u34, u35, u36, u37, u38, u39, u40, u41, u42, u43, u44, u45, .int .i64 0, .bool false, .bool false, undef, undef, undef, undef, undef, undef, undef, undef, undef, undef, .bool false, u60, u61, u62, u63, u64, u65, u66, u67, u68, u69, u70, u71, u72, u73, u74, u75, u76, u77, u78], []⟩ W')
include hP tab hq h0 d0 p0 g0 h1 d1 p1 g1 h2 d2 p2 g2 h3 d3 p3 g3 h4 d4 p4 g4 h5 d5 p5 g5 h6 d6 p6 g6 h7 d7 p7 g7 h8 d8 p8 g8 h9 d9 p9 g9 h10 d10 p10 g10 h11 d11 p11 g11 h12 d12 p12 g12 h13 d13 p13 g13 hQ
set_option maxRecDepth 100000 in
set_option maxHeartbeats 2000000 in
theorem R11z_region {id : Nat} (hsize : ops.size = 14) : (Code.region id ops true).wp P Q ⟨#[u0, u1, u2, u3, u4, u5, u6, u7, u8, u9, u10, u11, .int .i64 0, u13, u14, u15, u16, u17, u18, u19, u20, u21, u22, u23, u24, u25, u26, u27, u28, u29, u30, u31, u32, u33, u34, u35, u36, u37, u38, u39, u40, u41, u42, u43, u44, u45, u46, u47, u48, u49, u50, u51, u52, u53, u54, u55, u56, u57, u58, u59, u60, u61, u62, u63, u64, u65, u66, u67, u68, u69, u70, u71, u72, u73, u74, u75, u76, u77, u78], []⟩ w0 := by
  refine start_ (n := 14) (S := (fun w' => Below w0.heap.size w0 w')) (ds := []) #[false, false, false, false, false, false, false, false, false, false, false, false, false, false] (by rw [hP]; kernel_rfl) hsize rfl (below_drew (Below.refl _ w0)) (fun hHeld => ?_)
  refine pure_ (i := 0) (N := some 46) (v := .int .i64 0) (a' := ⟨#[u0, u1, u2, u3, u4, u5, u6, u7, u8, u9, u10, u11, .int .i64 0, u13, u14, u15, u16, u17, u18, u19, u20, u21, u22, u23, u24, u25, u26, u27, u28, u29, u30, u31, u32, u33, u34, u35, u36, u37, u38, u39, u40, u41, u42, u43, u44, u45, .int .i64 0, u47, u48, u49, u50, u51, u52, u53, u54, u55, u56, u57, u58, u59, u60, u61, u62, u63, u64, u65, u66, u67, u68, u69, u70, u71, u72, u73, u74, u75, u76, u77, u78], []⟩) #[true, false, false, false, false, false, false, false, false, false, false, false, false, false] h0 d0 (any_of tab (by kernel_rfl)) (fun c a w z => hq c a _ _ w (by rw [d0] at z; exact z)) (Or.inl ⟨by simp [Region.wanted, g0], fun w' => ?_⟩) (by rfl) ?_
  · simp only [execOp, p0, Act.eval, Act.put]
    first | (go_simp; done) | (go_simp; rfl) | (go_simp; simp)
  refine pure_ (i := 1) (N := some 47) (v := .bool false) (a' := ⟨#[u0, u1, u2, u3, u4, u5, u6, u7, u8, u9, u10, u11, .int .i64 0, u13, u14, u15, u16, u17, u18, u19, u20, u21, u22, u23, u24, u25, u26, u27, u28, u29, u30, u31, u32, u33, u34, u35, u36, u37, u38, u39, u40, u41, u42, u43, u44, u45, .int .i64 0, .bool false, u48, u49, u50, u51, u52, u53, u54, u55, u56, u57, u58, u59, u60, u61, u62, u63, u64, u65, u66, u67, u68, u69, u70, u71, u72, u73, u74, u75, u76, u77, u78], []⟩) #[true, true, false, false, false, false, false, false, false, false, false, false, false, false] h1 d1 (any_of tab (by kernel_rfl)) (fun c a w z => hq c a _ _ w (by rw [d1] at z; exact z)) (Or.inl ⟨by simp [Region.wanted, g1], fun w' => ?_⟩) (by rfl) ?_
  · simp only [execOp, p1, Act.eval, Act.put]
    first | (go_simp; done) | (go_simp; rfl) | (go_simp; simp)
  refine pure_ (i := 2) (N := some 48) (v := .bool false) (a' := ⟨#[u0, u1, u2, u3, u4, u5, u6, u7, u8, u9, u10, u11, .int .i64 0, u13, u14, u15, u16, u17, u18, u19, u20, u21, u22, u23, u24, u25, u26, u27, u28, u29, u30, u31, u32, u33, u34, u35, u36, u37, u38, u39, u40, u41, u42, u43, u44, u45, .int .i64 0, .bool false, .bool false, u49, u50, u51, u52, u53, u54, u55, u56, u57, u58, u59, u60, u61, u62, u63, u64, u65, u66, u67, u68, u69, u70, u71, u72, u73, u74, u75, u76, u77, u78], []⟩) #[true, true, true, false, false, false, false, false, false, false, false, false, false, false] h2 d2 (any_of tab (by kernel_rfl)) (fun c a w z => hq c a _ _ w (by rw [d2] at z; exact z)) (Or.inl ⟨by simp [Region.wanted, g2], fun w' => ?_⟩) (by rfl) ?_
  · simp only [execOp, p2, Act.eval, Act.put]
    first | (go_simp; done) | (go_simp; rfl) | (go_simp; simp)
  refine pure_ (i := 3) (N := some 49) (v := undef) (a' := ⟨#[u0, u1, u2, u3, u4, u5, u6, u7, u8, u9, u10, u11, .int .i64 0, u13, u14, u15, u16, u17, u18, u19, u20, u21, u22, u23, u24, u25, u26, u27, u28, u29, u30, u31, u32, u33, u34, u35, u36, u37, u38, u39, u40, u41, u42, u43, u44, u45, .int .i64 0, .bool false, .bool false, undef, u50, u51, u52, u53, u54, u55, u56, u57, u58, u59, u60, u61, u62, u63, u64, u65, u66, u67, u68, u69, u70, u71, u72, u73, u74, u75, u76, u77, u78], []⟩) #[true, true, true, true, false, false, false, false, false, false, false, false, false, false] h3 d3 (any_of tab (by kernel_rfl)) (fun c a w z => hq c a _ _ w (by rw [d3] at z; exact z)) (Or.inr ⟨by simp [Region.wanted, yielded, g3, h2, d2, Act.put], rfl⟩) (by rfl) ?_
  refine pure_ (i := 4) (N := some 50) (v := undef) (a' := ⟨#[u0, u1, u2, u3, u4, u5, u6, u7, u8, u9, u10, u11, .int .i64 0, u13, u14, u15, u16, u17, u18, u19, u20, u21, u22, u23, u24, u25, u26, u27, u28, u29, u30, u31, u32, u33, u34, u35, u36, u37, u38, u39, u40, u41, u42, u43, u44, u45, .int .i64 0, .bool false, .bool false, undef, undef, u51, u52, u53, u54, u55, u56, u57, u58, u59, u60, u61, u62, u63, u64, u65, u66, u67, u68, u69, u70, u71, u72, u73, u74, u75, u76, u77, u78], []⟩) #[true, true, true, true, true, false, false, false, false, false, false, false, false, false] h4 d4 (any_of tab (by kernel_rfl)) (fun c a w z => hq c a _ _ w (by rw [d4] at z; exact z)) (Or.inr ⟨by simp [Region.wanted, yielded, g4, h2, d2, Act.put], rfl⟩) (by rfl) ?_
  refine pure_ (i := 5) (N := some 51) (v := undef) (a' := ⟨#[u0, u1, u2, u3, u4, u5, u6, u7, u8, u9, u10, u11, .int .i64 0, u13, u14, u15, u16, u17, u18, u19, u20, u21, u22, u23, u24, u25, u26, u27, u28, u29, u30, u31, u32, u33, u34, u35, u36, u37, u38, u39, u40, u41, u42, u43, u44, u45, .int .i64 0, .bool false, .bool false, undef, undef, undef, u52, u53, u54, u55, u56, u57, u58, u59, u60, u61, u62, u63, u64, u65, u66, u67, u68, u69, u70, u71, u72, u73, u74, u75, u76, u77, u78], []⟩) #[true, true, true, true, true, true, false, false, false, false, false, false, false, false] h5 d5 (any_of tab (by kernel_rfl)) (fun c a w z => hq c a _ _ w (by rw [d5] at z; exact z)) (Or.inr ⟨by simp [Region.wanted, yielded, g5, h2, d2, Act.put], rfl⟩) (by rfl) ?_
  refine pure_ (i := 6) (N := some 52) (v := undef) (a' := ⟨#[u0, u1, u2, u3, u4, u5, u6, u7, u8, u9, u10, u11, .int .i64 0, u13, u14, u15, u16, u17, u18, u19, u20, u21, u22, u23, u24, u25, u26, u27, u28, u29, u30, u31, u32, u33, u34, u35, u36, u37, u38, u39, u40, u41, u42, u43, u44, u45, .int .i64 0, .bool false, .bool false, undef, undef, undef, undef, u53, u54, u55, u56, u57, u58, u59, u60, u61, u62, u63, u64, u65, u66, u67, u68, u69, u70, u71, u72, u73, u74, u75, u76, u77, u78], []⟩) #[true, true, true, true, true, true, true, false, false, false, false, false, false, false] h6 d6 (any_of tab (by kernel_rfl)) (fun c a w z => hq c a _ _ w (by rw [d6] at z; exact z)) (Or.inr ⟨by simp [Region.wanted, yielded, g6, h2, d2, Act.put], rfl⟩) (by rfl) ?_
  refine pure_ (i := 9) (N := some 55) (v := undef) (a' := ⟨#[u0, u1, u2, u3, u4, u5, u6, u7, u8, u9, u10, u11, .int .i64 0, u13, u14, u15, u16, u17, u18, u19, u20, u21, u22, u23, u24, u25, u26, u27, u28, u29, u30, u31, u32, u33, u34, u35, u36, u37, u38, u39, u40, u41, u42, u43, u44, u45, .int .i64 0, .bool false, .bool false, undef, undef, undef, undef, u53, u54, undef, u56, u57, u58, u59, u60, u61, u62, u63, u64, u65, u66, u67, u68, u69, u70, u71, u72, u73, u74, u75, u76, u77, u78], []⟩) #[true, true, true, true, true, true, true, false, false, true, false, false, false, false] h9 d9 (any_of tab (by kernel_rfl)) (fun c a w z => hq c a _ _ w (by rw [d9] at z; exact z)) (Or.inr ⟨by simp [Region.wanted, yielded, g9, h2, d2, Act.put], rfl⟩) (by rfl) ?_
  refine take_ (i := 7) (N := some 53) (v := undef) (a' := ⟨#[u0, u1, u2, u3, u4, u5, u6, u7, u8, u9, u10, u11, .int .i64 0, u13, u14, u15, u16, u17, u18, u19, u20, u21, u22, u23, u24, u25, u26, u27, u28, u29, u30, u31, u32, u33, u34, u35, u36, u37, u38, u39, u40, u41, u42, u43, u44, u45, .int .i64 0, .bool false, .bool false, undef, undef, undef, undef, undef, u54, undef, u56, u57, u58, u59, u60, u61, u62, u63, u64, u65, u66, u67, u68, u69, u70, u71, u72, u73, u74, u75, u76, u77, u78], []⟩) #[true, true, true, true, true, true, true, true, false, true, false, false, false, false] h7 d7 (take_ofW tab R11.bits (by kernel_rfl)) (fun c a w z => hq c a _ _ w (by rw [d7] at z; exact z)) (Or.inr ⟨by simp [Region.wanted, yielded, g7, h2, d2, Act.put], rfl⟩) hHeld (by rfl) ?_
  refine take_ (i := 10) (N := some 56) (v := undef) (a' := ⟨#[u0, u1, u2, u3, u4, u5, u6, u7, u8, u9, u10, u11, .int .i64 0, u13, u14, u15, u16, u17, u18, u19, u20, u21, u22, u23, u24, u25, u26, u27, u28, u29, u30, u31, u32, u33, u34, u35, u36, u37, u38, u39, u40, u41, u42, u43, u44, u45, .int .i64 0, .bool false, .bool false, undef, undef, undef, undef, undef, u54, undef, undef, u57, u58, u59, u60, u61, u62, u63, u64, u65, u66, u67, u68, u69, u70, u71, u72, u73, u74, u75, u76, u77, u78], []⟩) #[true, true, true, true, true, true, true, true, false, true, true, false, false, false] h10 d10 (take_ofW tab R11.bits (by kernel_rfl)) (fun c a w z => hq c a _ _ w (by rw [d10] at z; exact z)) (Or.inr ⟨by simp [Region.wanted, yielded, g10, h2, d2, Act.put], rfl⟩) hHeld (by rfl) ?_
  refine one_ (i := 8) (N := some 54) #[true, true, true, true, true, true, true, true, true, true, true, false, false, false] h8 d8 (one_of tab (by kernel_rfl)) (by decide) (fun K hK => ?_)
  rw [if_neg (by simp [Region.wanted, yielded, g8, h2, d2, Act.put])]
  refine hK.out _ _ hHeld (fun hHeld => ?_)
  clear hK K
  refine norm_ (a' := ⟨#[u0, u1, u2, u3, u4, u5, u6, u7, u8, u9, u10, u11, .int .i64 0, u13, u14, u15, u16, u17, u18, u19, u20, u21, u22, u23, u24, u25, u26, u27, u28, u29, u30, u31, u32, u33, u34, u35, u36, u37, u38, u39, u40, u41, u42, u43, u44, u45, .int .i64 0, .bool false, .bool false, undef, undef, undef, undef, undef, undef, undef, undef, u57, u58, u59, u60, u61, u62, u63, u64, u65, u66, u67, u68, u69, u70, u71, u72, u73, u74, u75, u76, u77, u78], []⟩) (by rfl) ?_
  refine one_ (i := 11) (N := some 57) #[true, true, true, true, true, true, true, true, true, true, true, true, false, false] h11 d11 (one_of tab (by kernel_rfl)) (by decide) (fun K hK => ?_)
  rw [if_neg (by simp [Region.wanted, yielded, g11, h2, d2, Act.put])]
  refine hK.out _ _ hHeld (fun hHeld => ?_)
  clear hK K
  refine norm_ (a' := ⟨#[u0, u1, u2, u3, u4, u5, u6, u7, u8, u9, u10, u11, .int .i64 0, u13, u14, u15, u16, u17, u18, u19, u20, u21, u22, u23, u24, u25, u26, u27, u28, u29, u30, u31, u32, u33, u34, u35, u36, u37, u38, u39, u40, u41, u42, u43, u44, u45, .int .i64 0, .bool false, .bool false, undef, undef, undef, undef, undef, undef, undef, undef, undef, u58, u59, u60, u61, u62, u63, u64, u65, u66, u67, u68, u69, u70, u71, u72, u73, u74, u75, u76, u77, u78], []⟩) (by rfl) ?_
  refine pure_ (i := 12) (N := some 58) (v := undef) (a' := ⟨#[u0, u1, u2, u3, u4, u5, u6, u7, u8, u9, u10, u11, .int .i64 0, u13, u14, u15, u16, u17, u18, u19, u20, u21, u22, u23, u24, u25, u26, u27, u28, u29, u30, u31, u32, u33, u34, u35, u36, u37, u38, u39, u40, u41, u42, u43, u44, u45, .int .i64 0, .bool false, .bool false, undef, undef, undef, undef, undef, undef, undef, undef, undef, undef, u59, u60, u61, u62, u63, u64, u65, u66, u67, u68, u69, u70, u71, u72, u73, u74, u75, u76, u77, u78], []⟩) #[true, true, true, true, true, true, true, true, true, true, true, true, true, false] h12 d12 (any_of tab (by kernel_rfl)) (fun c a w z => hq c a _ _ w (by rw [d12] at z; exact z)) (Or.inr ⟨by simp [Region.wanted, yielded, g12, h2, d2, Act.put], rfl⟩) (by rfl) ?_
  refine pure_ (i := 13) (N := some 59) (v := .bool false) (a' := ⟨#[u0, u1, u2, u3, u4, u5, u6, u7, u8, u9, u10, u11, .int .i64 0, u13, u14, u15, u16, u17, u18, u19, u20, u21, u22, u23, u24, u25, u26, u27, u28, u29, u30, u31, u32, u33, u34, u35, u36, u37, u38, u39, u40, u41, u42, u43, u44, u45, .int .i64 0, .bool false, .bool false, undef, undef, undef, undef, undef, undef, undef, undef, undef, undef, .bool false, u60, u61, u62, u63, u64, u65, u66, u67, u68, u69, u70, u71, u72, u73, u74, u75, u76, u77, u78], []⟩) #[true, true, true, true, true, true, true, true, true, true, true, true, true, true] h13 d13 (any_of tab (by kernel_rfl)) (fun c a w z => hq c a _ _ w (by rw [d13] at z; exact z)) (Or.inl ⟨by simp [Region.wanted, g13], fun w' => ?_⟩) (by rfl) ?_
  · simp only [execOp, p13, Act.eval, Act.put]
    first | (go_simp; done) | (go_simp; rfl) | (go_simp; simp)
  refine done_ (done_of tab (by kernel_rfl)) ?_
  exact hQ _ hHeld
end
def R13.T : Bool × List (List Nat × List Nat) := (true, [([], []), ([], []), ([], []), ([1, 2], [1, 2]), ([0, 3], [0, 3]), ([], []), ([5], [5]), ([6], [6]), ([4, 7, 4], [4, 7]), ([8, 8, 0, 1, 2, 3, 4, 5, 6, 7, 8], [8])])
def R13.B : List Nat := [0, 0, 0, 6, 15, 0, 32, 96, 255, 511]
theorem R13.tab : rtab .any (opsOf Tryd.f10 13) = R13.T := by kernel_rfl
theorem R13.bits : waitsOk R13.T.2 R13.B = true := by kernel_rfl
section
variable {P : Program} {ops : Array Oper} {Q : Exit → Act → World → Prop} (hP : P = Tryd.prog) (tab : rtab .any ops = R13.T) (hq : ∀ (c : List PanicEntry) (a : Act) (d : Tmp) (v : Value) (w : World), Q (.panic c) (a.put (some d) v) w → Q (.panic c) a w)
variable {o0 : Oper} (h0 : ops[0]? = some o0) (d0 : o0.dst = some 62) (p0 : o0.op = .buildSlice 32 0 #[]) (g0 : o0.guard = none)
variable {o1 : Oper} (h1 : ops[1]? = some o1) (d1 : o1.dst = some 63) (p1 : o1.op = .move (.tmp 9)) (g1 : o1.guard = none)
variable {o2 : Oper} (h2 : ops[2]? = some o2) (d2 : o2.dst = some 64) (p2 : o2.op = .move (.tmp 12)) (g2 : o2.guard = none)
variable {o3 : Oper} (h3 : ops[3]? = some o3) (d3 : o3.dst = some 65) (p3 : o3.op = .slice 32 (.tmp 63) none (some (.tmp 64)) none) (g3 : o3.guard = none)
variable {o4 : Oper} (h4 : ops[4]? = some o4) (d4 : o4.dst = some 66) (p4 : o4.op = .call { callee := .builtin .append, args := #[.tmp 62, .tmp 65], argTypes := #[32, 32] }) (g4 : o4.guard = none)
variable {o5 : Oper} (h5 : ops[5]? = some o5) (d5 : o5.dst = some 67) (p5 : o5.op = .fieldAddr 55 (.tmp 11) 0) (g5 : o5.guard = none)
variable {o6 : Oper} (h6 : ops[6]? = some o6) (d6 : o6.dst = some 68) (p6 : o6.op = .load 28 (.tmp 67)) (g6 : o6.guard = none)
variable {o7 : Oper} (h7 : ops[7]? = some o7) (d7 : o7.dst = some 69) (p7 : o7.op = .buildSlice 32 1 #[(0, .tmp 68)]) (g7 : o7.guard = none)
variable {o8 : Oper} (h8 : ops[8]? = some o8) (d8 : o8.dst = some 70) (p8 : o8.op = .call { callee := .builtin .append, args := #[.tmp 66, .tmp 69], argTypes := #[32, 32] }) (g8 : o8.guard = none)
variable {o9 : Oper} (h9 : ops[9]? = some o9) (d9 : o9.dst = some 13) (p9 : o9.op = .assign (.tmp 70)) (g9 : o9.guard = none)
variable {u0 u1 u2 u3 u4 u5 u6 u7 u8 u9 u10 u11 u12 u13 u14 u15 u16 u17 u18 u19 u20 u21 u22 u23 u24 u25 u26 u27 u28 u29 u30 u31 u32 u33 u34 u35 u36 u37 u38 u39 u40 u41 u42 u43 u44 u45 u46 u47 u48 u49 u50 u51 u52 u53 u54 u55 u56 u57 u58 u59 u60 u61 u62 u63 u64 u65 u66 u67 u68 u69 u70 u71 u72 u73 u74 u75 u76 u77 u78 : Value}
variable {a : Int} {gx k : Nat} {w0 : World} {VO VC v : Value} {cs : List Value}
variable (hcut : ∀ w' : World, (Sem.run P ((fun v => Next.value v) <$> Instr.sliceAt 32 VO none (some (.int .i64 (k : Int))) none) w') = .ok (.value VC) w')
variable (hsrc : SrcS w0 VC k cs) (hcl : cs.length = k * 2) (hc1 : ∀ u ∈ cs, u.oneCell' = true) (hk : k ≤ 1000000) (lx : gx < w0.heap.size) (x0 : w0.cell? ⟨gx, 0, none⟩ = some (.int .i64 a)) (x1 : w0.cell? ⟨gx, 1, none⟩ = some v) (hv1 : v.oneCell' = true)
variable (hQ : ∀ (x1 x2 x3 V2 : Value) (W' : World), Below w0.heap.size w0 W' → W'.ownsRow w0.heap.size 28 2 V2 (k + 1) (cs ++ [.int .i64 a, v]) → Q .normal ⟨#[u0, u1, u2, u3, u4, u5, u6, u7, u8, VO, u10, .pointer (some ⟨gx, 0, none⟩), .int .i64 (k : Int), V2, u14, u15, u16, u17, u18, u19, u20, u21, u22, u23, u24, u25, u26, u27, u28, u29, u30, u31, u32, u33, u34, u35, u36, u37, u38, u39, u40, u41, u42, u43, u44, u45, u46, u47, u48, u49, u50, u51, u52, u53, u54, u55, u56, u57, u58, u59, u60, u61, x1, VO, .int .i64 (k : Int), VC, x2, .pointer (some ⟨gx, 0, none⟩), .agg #[.int .i64 a, v], x3, V2, u71, u72, u73, u74, u75, u76, u77, u78], []⟩ W')
include hP tab hq h0 d0 p0 g0 h1 d1 p1 g1 h2 d2 p2 g2 h3 d3 p3 g3 h4 d4 p4 g4 h5 d5 p5 g5 h6 d6 p6 g6 h7 d7 p7 g7 h8 d8 p8 g8 h9 d9 p9 g9 hcut hsrc hcl hc1 hk lx x0 x1 hv1 hQ
set_option maxRecDepth 100000 in
set_option maxHeartbeats 2000000 in
theorem R13_1111 (W : World) (V0 : Value) (V1 : Value) (gA : Nat) (V2 : Value) (hS : (fun w' => Below w0.heap.size w0 w') W) (h2' : W.ownsRow w0.heap.size 28 2 V2 (k + 1) (cs ++ [.int .i64 a, v])) : wpAnyLast P .any ops Q (fun w' => Below w0.heap.size w0 w') [] 0 #[true, true, true, true, true, true, true, true, true, true] ⟨#[u0, u1, u2, u3, u4, u5, u6, u7, u8, VO, u10, .pointer (some ⟨gx, 0, none⟩), .int .i64 (k : Int), V2, u14, u15, u16, u17, u18, u19, u20, u21, u22, u23, u24, u25, u26, u27, u28, u29, u30, u31, u32, u33, u34, u35, u36, u37, u38, u39, u40, u41, u42, u43, u44, u45, u46, u47, u48, u49, u50, u51, u52, u53, u54, u55, u56, u57, u58, u59, u60, u61, V0, VO, .int .i64 (k : Int), VC, V1, .pointer (some ⟨gx, 0, none⟩), .agg #[.int .i64 a, v], .slice (some ⟨gA, 0, none⟩) 1 1, V2, u71, u72, u73, u74, u75, u76, u77, u78], []⟩ W := by
  refine done_ (done_of tab (by kernel_rfl)) ?_
  exact hQ _ _ _ V2 W hS h2'
set_option maxRecDepth 100000 in
set_option maxHeartbeats 2000000 in
theorem R13_1110 (W : World) (V0 : Value) (V1 : Value) (gA : Nat) (hS : (fun w' => Below w0.heap.size w0 w') W) (h1' : W.ownsRow w0.heap.size 28 2 V1 k cs) (bA : W.heap[gA]? = some (.cells #[.int .i64 a, v] 28 (0, 0))) : wpAnyLast P .any ops Q (fun w' => Below w0.heap.size w0 w') [] 2 #[true, true, true, true, true, true, true, true, false, false] ⟨#[u0, u1, u2, u3, u4, u5, u6, u7, u8, VO, u10, .pointer (some ⟨gx, 0, none⟩), .int .i64 (k : Int), u13, u14, u15, u16, u17, u18, u19, u20, u21, u22, u23, u24, u25, u26, u27, u28, u29, u30, u31, u32, u33, u34, u35, u36, u37, u38, u39, u40, u41, u42, u43, u44, u45, u46, u47, u48, u49, u50, u51, u52, u53, u54, u55, u56, u57, u58, u59, u60, u61, V0, VO, .int .i64 (k : Int), VC, V1, .pointer (some ⟨gx, 0, none⟩), .agg #[.int .i64 a, v], .slice (some ⟨gA, 0, none⟩) 1 1, u70, u71, u72, u73, u74, u75, u76, u77, u78], []⟩ W := by
  refine one_ (i := 8) (N := some 70) #[true, true, true, true, true, true, true, true, true, false] h8 d8 (one_of tab (by kernel_rfl)) (by decide) (fun K hK => ?_)
  · -- 8
    obtain ⟨i0, hi0, hz0, hz1, hz2⟩ := info_parts SE.infoB
    subst hP
    refine step_append_src W g8 _ _ _ p8 w0.heap.size 28 i0 _ 2 32 Tryd.underlying32 hi0 hz0 hz1 hz2 rfl (by omega) V1 k cs (by rfl) h1' (.slice (some ⟨gA, 0, none⟩) 1 1) 1 [.int .i64 a, v] (by rfl) (.inr ⟨_, _, rfl, cells_of bA⟩) rfl (fun u hu => by rcases List.mem_cons.1 hu with rfl | hu; rfl; obtain rfl := List.mem_singleton.1 hu; exact hv1) (by simp only [maxLen]; omega) (by omega) hS.size ?_
    intro V2 W' hown' hg hat
    have hB' := below_grown hS (own_base h1') hg
    rw [d8]
    refine hK.out _ _ hB' (fun hHeld => ?_)
    clear hK K
    refine norm_ (a' := ⟨#[u0, u1, u2, u3, u4, u5, u6, u7, u8, VO, u10, .pointer (some ⟨gx, 0, none⟩), .int .i64 (k : Int), u13, u14, u15, u16, u17, u18, u19, u20, u21, u22, u23, u24, u25, u26, u27, u28, u29, u30, u31, u32, u33, u34, u35, u36, u37, u38, u39, u40, u41, u42, u43, u44, u45, u46, u47, u48, u49, u50, u51, u52, u53, u54, u55, u56, u57, u58, u59, u60, u61, V0, VO, .int .i64 (k : Int), VC, V1, .pointer (some ⟨gx, 0, none⟩), .agg #[.int .i64 a, v], .slice (some ⟨gA, 0, none⟩) 1 1, V2, u71, u72, u73, u74, u75, u76, u77, u78], []⟩) (by rfl) ?_
    refine pure_ (i := 9) (N := some 13) (v := V2) (a' := ⟨#[u0, u1, u2, u3, u4, u5, u6, u7, u8, VO, u10, .pointer (some ⟨gx, 0, none⟩), .int .i64 (k : Int), V2, u14, u15, u16, u17, u18, u19, u20, u21, u22, u23, u24, u25, u26, u27, u28, u29, u30, u31, u32, u33, u34, u35, u36, u37, u38, u39, u40, u41, u42, u43, u44, u45, u46, u47, u48, u49, u50, u51, u52, u53, u54, u55, u56, u57, u58, u59, u60, u61, V0, VO, .int .i64 (k : Int), VC, V1, .pointer (some ⟨gx, 0, none⟩), .agg #[.int .i64 a, v], .slice (some ⟨gA, 0, none⟩) 1 1, V2, u71, u72, u73, u74, u75, u76, u77, u78], []⟩) #[true, true, true, true, true, true, true, true, true, true] h9 d9 (any_of tab (by kernel_rfl)) (fun c a w z => hq c a _ _ w (by rw [d9] at z; exact z)) (Or.inl ⟨by simp [Region.wanted, g9], fun w' => ?_⟩) (by rfl) ?_
    · simp only [execOp, p9, Act.eval, Act.put]
      first | (go_simp; done) | (go_simp; rfl)
    exact R13_1111 rfl tab hq h0 d0 p0 g0 h1 d1 p1 g1 h2 d2 p2 g2 h3 d3 p3 g3 h4 d4 p4 g4 h5 d5 p5 g5 h6 d6 p6 g6 h7 d7 p7 g7 h8 d8 p8 g8 h9 d9 p9 g9 hcut hsrc hcl hc1 hk lx x0 x1 hv1 hQ W' V0 V1 gA V2 hHeld hown'
set_option maxRecDepth 100000 in
set_option maxHeartbeats 2000000 in
theorem R13_1100 (W : World) (V0 : Value) (V1 : Value) (hS : (fun w' => Below w0.heap.size w0 w') W) (h1' : W.ownsRow w0.heap.size 28 2 V1 k cs) : wpAnyLast P .any ops Q (fun w' => Below w0.heap.size w0 w') [] 3 #[true, true, true, true, true, true, true, false, false, false] ⟨#[u0, u1, u2, u3, u4, u5, u6, u7, u8, VO, u10, .pointer (some ⟨gx, 0, none⟩), .int .i64 (k : Int), u13, u14, u15, u16, u17, u18, u19, u20, u21, u22, u23, u24, u25, u26, u27, u28, u29, u30, u31, u32, u33, u34, u35, u36, u37, u38, u39, u40, u41, u42, u43, u44, u45, u46, u47, u48, u49, u50, u51, u52, u53, u54, u55, u56, u57, u58, u59, u60, u61, V0, VO, .int .i64 (k : Int), VC, V1, .pointer (some ⟨gx, 0, none⟩), .agg #[.int .i64 a, v], u69, u70, u71, u72, u73, u74, u75, u76, u77, u78], []⟩ W := by
  refine one_ (i := 7) (N := some 69) #[true, true, true, true, true, true, true, true, false, false] h7 d7 (one_of tab (by kernel_rfl)) (by decide) (fun K hK => ?_)
  · -- 7
    refine run_step (v := .slice (some ⟨W.heap.size, 0, none⟩) 1 1) (w1 := W.alloc (.cells #[.int .i64 a, v] 28)) g7 d7 (by simp only [execOp, p7, Act.eval]; subst hP; first | (go_simp; done) | (go_simp; rfl)) ?_
    have hB := (Below.refl W.heap.size W).alloc (Nat.le_refl _) (.cells #[.int .i64 a, v] 28)
    have bN := (Go.MapKept.heap_alloc W (.cells #[.int .i64 a, v] 28)).1
    refine hK.out _ _ (hS.trans (hB.mono hS.size)) (fun hHeld => ?_)
    clear hK K
    refine norm_ (a' := ⟨#[u0, u1, u2, u3, u4, u5, u6, u7, u8, VO, u10, .pointer (some ⟨gx, 0, none⟩), .int .i64 (k : Int), u13, u14, u15, u16, u17, u18, u19, u20, u21, u22, u23, u24, u25, u26, u27, u28, u29, u30, u31, u32, u33, u34, u35, u36, u37, u38, u39, u40, u41, u42, u43, u44, u45, u46, u47, u48, u49, u50, u51, u52, u53, u54, u55, u56, u57, u58, u59, u60, u61, V0, VO, .int .i64 (k : Int), VC, V1, .pointer (some ⟨gx, 0, none⟩), .agg #[.int .i64 a, v], .slice (some ⟨W.heap.size, 0, none⟩) 1 1, u70, u71, u72, u73, u74, u75, u76, u77, u78], []⟩) (by rfl) ?_
    exact R13_1110 hP tab hq h0 d0 p0 g0 h1 d1 p1 g1 h2 d2 p2 g2 h3 d3 p3 g3 h4 d4 p4 g4 h5 d5 p5 g5 h6 d6 p6 g6 h7 d7 p7 g7 h8 d8 p8 g8 h9 d9 p9 g9 hcut hsrc hcl hc1 hk lx x0 x1 hv1 hQ _ V0 V1 _ hHeld (own_move h1' (fun k hk => hB.block k (own_lt h1' k hk))) bN
set_option maxRecDepth 100000 in
set_option maxHeartbeats 2000000 in
theorem R13_1010 (W : World) (V0 : Value) (gA : Nat) (hS : (fun w' => Below w0.heap.size w0 w') W) (h0' : W.ownsRow w0.heap.size 28 2 V0 0 []) (bA : W.heap[gA]? = some (.cells #[.int .i64 a, v] 28 (0, 0))) (nA : ¬ some gA = V0.ownBlock) : wpAnyLast P .any ops Q (fun w' => Below w0.heap.size w0 w') [] 3 #[true, true, true, true, false, true, true, true, false, false] ⟨#[u0, u1, u2, u3, u4, u5, u6, u7, u8, VO, u10, .pointer (some ⟨gx, 0, none⟩), .int .i64 (k : Int), u13, u14, u15, u16, u17, u18, u19, u20, u21, u22, u23, u24, u25, u26, u27, u28, u29, u30, u31, u32, u33, u34, u35, u36, u37, u38, u39, u40, u41, u42, u43, u44, u45, u46, u47, u48, u49, u50, u51, u52, u53, u54, u55, u56, u57, u58, u59, u60, u61, V0, VO, .int .i64 (k : Int), VC, u66, .pointer (some ⟨gx, 0, none⟩), .agg #[.int .i64 a, v], .slice (some ⟨gA, 0, none⟩) 1 1, u70, u71, u72, u73, u74, u75, u76, u77, u78], []⟩ W := by
  refine one_ (i := 4) (N := some 66) #[true, true, true, true, true, true, true, true, false, false] h4 d4 (one_of tab (by kernel_rfl)) (by decide) (fun K hK => ?_)
  · -- 4
    obtain ⟨i0, hi0, hz0, hz1, hz2⟩ := info_parts SE.infoB
    subst hP
    have hsW := hsrc.step hS
    refine step_append_src W g4 _ _ _ p4 w0.heap.size 28 i0 _ 2 32 Tryd.underlying32 hi0 hz0 hz1 hz2 rfl (by omega) V0 0 [] (by rfl) h0' VC k cs (by rfl) hsW hcl hc1 (by simp only [maxLen]; omega) (by omega) hS.size ?_
    intro V1 W' hown' hg hat
    rw [Nat.zero_add, List.nil_append] at hown'
    have hB' := below_grown hS (own_base h0') hg
    rw [d4]
    refine hK.out _ _ hB' (fun hHeld => ?_)
    clear hK K
    refine norm_ (a' := ⟨#[u0, u1, u2, u3, u4, u5, u6, u7, u8, VO, u10, .pointer (some ⟨gx, 0, none⟩), .int .i64 (k : Int), u13, u14, u15, u16, u17, u18, u19, u20, u21, u22, u23, u24, u25, u26, u27, u28, u29, u30, u31, u32, u33, u34, u35, u36, u37, u38, u39, u40, u41, u42, u43, u44, u45, u46, u47, u48, u49, u50, u51, u52, u53, u54, u55, u56, u57, u58, u59, u60, u61, V0, VO, .int .i64 (k : Int), VC, V1, .pointer (some ⟨gx, 0, none⟩), .agg #[.int .i64 a, v], .slice (some ⟨gA, 0, none⟩) 1 1, u70, u71, u72, u73, u74, u75, u76, u77, u78], []⟩) (by rfl) ?_
    exact R13_1110 rfl tab hq h0 d0 p0 g0 h1 d1 p1 g1 h2 d2 p2 g2 h3 d3 p3 g3 h4 d4 p4 g4 h5 d5 p5 g5 h6 d6 p6 g6 h7 d7 p7 g7 h8 d8 p8 g8 h9 d9 p9 g9 hcut hsrc hcl hc1 hk lx x0 x1 hv1 hQ W' V0 V1 gA hHeld hown' ((hg.block _ (blk_lt bA) nA).trans bA)
set_option maxRecDepth 100000 in
set_option maxHeartbeats 2000000 in
theorem R13_1000 (W : World) (V0 : Value) (hS : (fun w' => Below w0.heap.size w0 w') W) (h0' : W.ownsRow w0.heap.size 28 2 V0 0 []) : wpAnyLast P .any ops Q (fun w' => Below w0.heap.size w0 w') [] 4 #[true, true, true, true, false, true, true, false, false, false] ⟨#[u0, u1, u2, u3, u4, u5, u6, u7, u8, VO, u10, .pointer (some ⟨gx, 0, none⟩), .int .i64 (k : Int), u13, u14, u15, u16, u17, u18, u19, u20, u21, u22, u23, u24, u25, u26, u27, u28, u29, u30, u31, u32, u33, u34, u35, u36, u37, u38, u39, u40, u41, u42, u43, u44, u45, u46, u47, u48, u49, u50, u51, u52, u53, u54, u55, u56, u57, u58, u59, u60, u61, V0, VO, .int .i64 (k : Int), VC, u66, .pointer (some ⟨gx, 0, none⟩), .agg #[.int .i64 a, v], u69, u70, u71, u72, u73, u74, u75, u76, u77, u78], []⟩ W := by
  refine two_ #[true, true, true, true, true, true, true, false, false, false] #[true, true, true, true, false, true, true, true, false, false] h4 h7 d4 d7  (two_of tab (by kernel_rfl)) (by decide) (by decide) (fun K hK => ?_) (fun K hK => ?_)
  · -- 4
    obtain ⟨i0, hi0, hz0, hz1, hz2⟩ := info_parts SE.infoB
    subst hP
    have hsW := hsrc.step hS
    refine step_append_src W g4 _ _ _ p4 w0.heap.size 28 i0 _ 2 32 Tryd.underlying32 hi0 hz0 hz1 hz2 rfl (by omega) V0 0 [] (by rfl) h0' VC k cs (by rfl) hsW hcl hc1 (by simp only [maxLen]; omega) (by omega) hS.size ?_
    intro V1 W' hown' hg hat
    rw [Nat.zero_add, List.nil_append] at hown'
    have hB' := below_grown hS (own_base h0') hg
    rw [d4]
    refine hK.out _ _ hB' (fun hHeld => ?_)
    clear hK K
    refine norm_ (a' := ⟨#[u0, u1, u2, u3, u4, u5, u6, u7, u8, VO, u10, .pointer (some ⟨gx, 0, none⟩), .int .i64 (k : Int), u13, u14, u15, u16, u17, u18, u19, u20, u21, u22, u23, u24, u25, u26, u27, u28, u29, u30, u31, u32, u33, u34, u35, u36, u37, u38, u39, u40, u41, u42, u43, u44, u45, u46, u47, u48, u49, u50, u51, u52, u53, u54, u55, u56, u57, u58, u59, u60, u61, V0, VO, .int .i64 (k : Int), VC, V1, .pointer (some ⟨gx, 0, none⟩), .agg #[.int .i64 a, v], u69, u70, u71, u72, u73, u74, u75, u76, u77, u78], []⟩) (by rfl) ?_
    exact R13_1100 rfl tab hq h0 d0 p0 g0 h1 d1 p1 g1 h2 d2 p2 g2 h3 d3 p3 g3 h4 d4 p4 g4 h5 d5 p5 g5 h6 d6 p6 g6 h7 d7 p7 g7 h8 d8 p8 g8 h9 d9 p9 g9 hcut hsrc hcl hc1 hk lx x0 x1 hv1 hQ W' V0 V1 hHeld hown'
  · -- 7
    refine run_step (v := .slice (some ⟨W.heap.size, 0, none⟩) 1 1) (w1 := W.alloc (.cells #[.int .i64 a, v] 28)) g7 d7 (by simp only [execOp, p7, Act.eval]; subst hP; first | (go_simp; done) | (go_simp; rfl)) ?_
    have hB := (Below.refl W.heap.size W).alloc (Nat.le_refl _) (.cells #[.int .i64 a, v] 28)
    have bN := (Go.MapKept.heap_alloc W (.cells #[.int .i64 a, v] 28)).1
    refine hK.out _ _ (hS.trans (hB.mono hS.size)) (fun hHeld => ?_)
    clear hK K
    refine norm_ (a' := ⟨#[u0, u1, u2, u3, u4, u5, u6, u7, u8, VO, u10, .pointer (some ⟨gx, 0, none⟩), .int .i64 (k : Int), u13, u14, u15, u16, u17, u18, u19, u20, u21, u22, u23, u24, u25, u26, u27, u28, u29, u30, u31, u32, u33, u34, u35, u36, u37, u38, u39, u40, u41, u42, u43, u44, u45, u46, u47, u48, u49, u50, u51, u52, u53, u54, u55, u56, u57, u58, u59, u60, u61, V0, VO, .int .i64 (k : Int), VC, u66, .pointer (some ⟨gx, 0, none⟩), .agg #[.int .i64 a, v], .slice (some ⟨W.heap.size, 0, none⟩) 1 1, u70, u71, u72, u73, u74, u75, u76, u77, u78], []⟩) (by rfl) ?_
    exact R13_1010 hP tab hq h0 d0 p0 g0 h1 d1 p1 g1 h2 d2 p2 g2 h3 d3 p3 g3 h4 d4 p4 g4 h5 d5 p5 g5 h6 d6 p6 g6 h7 d7 p7 g7 h8 d8 p8 g8 h9 d9 p9 g9 hcut hsrc hcl hc1 hk lx x0 x1 hv1 hQ _ V0 _ hHeld (own_move h0' (fun k hk => hB.block k (own_lt h0' k hk))) bN (fun e => by have := own_lt h0' _ e.symm; omega)
set_option maxRecDepth 100000 in
set_option maxHeartbeats 2000000 in
theorem R13_0010 (W : World) (gA : Nat) (hS : (fun w' => Below w0.heap.size w0 w') W) (bA : W.heap[gA]? = some (.cells #[.int .i64 a, v] 28 (0, 0))) : wpAnyLast P .any ops Q (fun w' => Below w0.heap.size w0 w') [] 4 #[false, true, true, true, false, true, true, true, false, false] ⟨#[u0, u1, u2, u3, u4, u5, u6, u7, u8, VO, u10, .pointer (some ⟨gx, 0, none⟩), .int .i64 (k : Int), u13, u14, u15, u16, u17, u18, u19, u20, u21, u22, u23, u24, u25, u26, u27, u28, u29, u30, u31, u32, u33, u34, u35, u36, u37, u38, u39, u40, u41, u42, u43, u44, u45, u46, u47, u48, u49, u50, u51, u52, u53, u54, u55, u56, u57, u58, u59, u60, u61, u62, VO, .int .i64 (k : Int), VC, u66, .pointer (some ⟨gx, 0, none⟩), .agg #[.int .i64 a, v], .slice (some ⟨gA, 0, none⟩) 1 1, u70, u71, u72, u73, u74, u75, u76, u77, u78], []⟩ W := by
  refine one_ (i := 0) (N := some 62) #[true, true, true, true, false, true, true, true, false, false] h0 d0 (one_of tab (by kernel_rfl)) (by decide) (fun K hK => ?_)
  · -- 0
    refine run_step (v := .slice (some ⟨W.heap.size, 0, none⟩) 0 0) (w1 := W.alloc (.cells #[] 28)) g0 d0 (by simp only [execOp, p0, Act.eval]; subst hP; first | (go_simp; done) | (go_simp; rfl)) ?_
    have hB := (Below.refl W.heap.size W).alloc (Nat.le_refl _) (.cells #[] 28)
    have bN := (Go.MapKept.heap_alloc W (.cells #[] 28)).1
    have hN : (W.alloc (.cells #[] 28)).ownsRow w0.heap.size 28 2 (.slice (some ⟨W.heap.size, 0, none⟩) 0 0) 0 [] := ⟨rfl, .inr ⟨W.heap.size, 0, #[], rfl, hS.size, bN, Nat.le_refl _, by simp [maxLen], rfl, rfl⟩⟩
    refine hK.out _ _ (hS.trans (hB.mono hS.size)) (fun hHeld => ?_)
    clear hK K
    refine norm_ (a' := ⟨#[u0, u1, u2, u3, u4, u5, u6, u7, u8, VO, u10, .pointer (some ⟨gx, 0, none⟩), .int .i64 (k : Int), u13, u14, u15, u16, u17, u18, u19, u20, u21, u22, u23, u24, u25, u26, u27, u28, u29, u30, u31, u32, u33, u34, u35, u36, u37, u38, u39, u40, u41, u42, u43, u44, u45, u46, u47, u48, u49, u50, u51, u52, u53, u54, u55, u56, u57, u58, u59, u60, u61, .slice (some ⟨W.heap.size, 0, none⟩) 0 0, VO, .int .i64 (k : Int), VC, u66, .pointer (some ⟨gx, 0, none⟩), .agg #[.int .i64 a, v], .slice (some ⟨gA, 0, none⟩) 1 1, u70, u71, u72, u73, u74, u75, u76, u77, u78], []⟩) (by rfl) ?_
    exact R13_1010 hP tab hq h0 d0 p0 g0 h1 d1 p1 g1 h2 d2 p2 g2 h3 d3 p3 g3 h4 d4 p4 g4 h5 d5 p5 g5 h6 d6 p6 g6 h7 d7 p7 g7 h8 d8 p8 g8 h9 d9 p9 g9 hcut hsrc hcl hc1 hk lx x0 x1 hv1 hQ _ _ gA hHeld hN ((hB.block _ (blk_lt bA)).trans bA) (fun e => by have := blk_lt bA; simp [Value.ownBlock] at e; omega)
set_option maxRecDepth 100000 in
set_option maxHeartbeats 2000000 in
theorem R13_0000 (W : World) (hS : (fun w' => Below w0.heap.size w0 w') W) : wpAnyLast P .any ops Q (fun w' => Below w0.heap.size w0 w') [] 5 #[false, true, true, true, false, true, true, false, false, false] ⟨#[u0, u1, u2, u3, u4, u5, u6, u7, u8, VO, u10, .pointer (some ⟨gx, 0, none⟩), .int .i64 (k : Int), u13, u14, u15, u16, u17, u18, u19, u20, u21, u22, u23, u24, u25, u26, u27, u28, u29, u30, u31, u32, u33, u34, u35, u36, u37, u38, u39, u40, u41, u42, u43, u44, u45, u46, u47, u48, u49, u50, u51, u52, u53, u54, u55, u56, u57, u58, u59, u60, u61, u62, VO, .int .i64 (k : Int), VC, u66, .pointer (some ⟨gx, 0, none⟩), .agg #[.int .i64 a, v], u69, u70, u71, u72, u73, u74, u75, u76, u77, u78], []⟩ W := by
  refine two_ #[true, true, true, true, false, true, true, false, false, false] #[false, true, true, true, false, true, true, true, false, false] h0 h7 d0 d7  (two_of tab (by kernel_rfl)) (by decide) (by decide) (fun K hK => ?_) (fun K hK => ?_)
  · -- 0
    refine run_step (v := .slice (some ⟨W.heap.size, 0, none⟩) 0 0) (w1 := W.alloc (.cells #[] 28)) g0 d0 (by simp only [execOp, p0, Act.eval]; subst hP; first | (go_simp; done) | (go_simp; rfl)) ?_
    have hB := (Below.refl W.heap.size W).alloc (Nat.le_refl _) (.cells #[] 28)
    have bN := (Go.MapKept.heap_alloc W (.cells #[] 28)).1
    have hN : (W.alloc (.cells #[] 28)).ownsRow w0.heap.size 28 2 (.slice (some ⟨W.heap.size, 0, none⟩) 0 0) 0 [] := ⟨rfl, .inr ⟨W.heap.size, 0, #[], rfl, hS.size, bN, Nat.le_refl _, by simp [maxLen], rfl, rfl⟩⟩
    refine hK.out _ _ (hS.trans (hB.mono hS.size)) (fun hHeld => ?_)
    clear hK K
    refine norm_ (a' := ⟨#[u0, u1, u2, u3, u4, u5, u6, u7, u8, VO, u10, .pointer (some ⟨gx, 0, none⟩), .int .i64 (k : Int), u13, u14, u15, u16, u17, u18, u19, u20, u21, u22, u23, u24, u25, u26, u27, u28, u29, u30, u31, u32, u33, u34, u35, u36, u37, u38, u39, u40, u41, u42, u43, u44, u45, u46, u47, u48, u49, u50, u51, u52, u53, u54, u55, u56, u57, u58, u59, u60, u61, .slice (some ⟨W.heap.size, 0, none⟩) 0 0, VO, .int .i64 (k : Int), VC, u66, .pointer (some ⟨gx, 0, none⟩), .agg #[.int .i64 a, v], u69, u70, u71, u72, u73, u74, u75, u76, u77, u78], []⟩) (by rfl) ?_
    exact R13_1000 hP tab hq h0 d0 p0 g0 h1 d1 p1 g1 h2 d2 p2 g2 h3 d3 p3 g3 h4 d4 p4 g4 h5 d5 p5 g5 h6 d6 p6 g6 h7 d7 p7 g7 h8 d8 p8 g8 h9 d9 p9 g9 hcut hsrc hcl hc1 hk lx x0 x1 hv1 hQ _ _ hHeld hN
  · -- 7
    refine run_step (v := .slice (some ⟨W.heap.size, 0, none⟩) 1 1) (w1 := W.alloc (.cells #[.int .i64 a, v] 28)) g7 d7 (by simp only [execOp, p7, Act.eval]; subst hP; first | (go_simp; done) | (go_simp; rfl)) ?_
    have hB := (Below.refl W.heap.size W).alloc (Nat.le_refl _) (.cells #[.int .i64 a, v] 28)
    have bN := (Go.MapKept.heap_alloc W (.cells #[.int .i64 a, v] 28)).1
    refine hK.out _ _ (hS.trans (hB.mono hS.size)) (fun hHeld => ?_)
    clear hK K
    refine norm_ (a' := ⟨#[u0, u1, u2, u3, u4, u5, u6, u7, u8, VO, u10, .pointer (some ⟨gx, 0, none⟩), .int .i64 (k : Int), u13, u14, u15, u16, u17, u18, u19, u20, u21, u22, u23, u24, u25, u26, u27, u28, u29, u30, u31, u32, u33, u34, u35, u36, u37, u38, u39, u40, u41, u42, u43, u44, u45, u46, u47, u48, u49, u50, u51, u52, u53, u54, u55, u56, u57, u58, u59, u60, u61, u62, VO, .int .i64 (k : Int), VC, u66, .pointer (some ⟨gx, 0, none⟩), .agg #[.int .i64 a, v], .slice (some ⟨W.heap.size, 0, none⟩) 1 1, u70, u71, u72, u73, u74, u75, u76, u77, u78], []⟩) (by rfl) ?_
    exact R13_0010 hP tab hq h0 d0 p0 g0 h1 d1 p1 g1 h2 d2 p2 g2 h3 d3 p3 g3 h4 d4 p4 g4 h5 d5 p5 g5 h6 d6 p6 g6 h7 d7 p7 g7 h8 d8 p8 g8 h9 d9 p9 g9 hcut hsrc hcl hc1 hk lx x0 x1 hv1 hQ _ _ hHeld bN
set_option maxRecDepth 100000 in
set_option maxHeartbeats 2000000 in
theorem R13_region {id : Nat} (hsize : ops.size = 10)  : (Code.region id ops true).wp P Q ⟨#[u0, u1, u2, u3, u4, u5, u6, u7, u8, VO, u10, .pointer (some ⟨gx, 0, none⟩), .int .i64 (k : Int), u13, u14, u15, u16, u17, u18, u19, u20, u21, u22, u23, u24, u25, u26, u27, u28, u29, u30, u31, u32, u33, u34, u35, u36, u37, u38, u39, u40, u41, u42, u43, u44, u45, u46, u47, u48, u49, u50, u51, u52, u53, u54, u55, u56, u57, u58, u59, u60, u61, u62, u63, u64, u65, u66, u67, u68, u69, u70, u71, u72, u73, u74, u75, u76, u77, u78], []⟩ w0 := by
  refine start_ (n := 10) (S := (fun w' => Below w0.heap.size w0 w')) (ds := []) #[false, false, false, false, false, false, false, false, false, false] (by rw [hP]; kernel_rfl) hsize rfl (below_drew (Below.refl _ w0)) (fun hHeld => ?_)
  refine pure_ (i := 1) (N := some 63) (v := VO) (a' := ⟨#[u0, u1, u2, u3, u4, u5, u6, u7, u8, VO, u10, .pointer (some ⟨gx, 0, none⟩), .int .i64 (k : Int), u13, u14, u15, u16, u17, u18, u19, u20, u21, u22, u23, u24, u25, u26, u27, u28, u29, u30, u31, u32, u33, u34, u35, u36, u37, u38, u39, u40, u41, u42, u43, u44, u45, u46, u47, u48, u49, u50, u51, u52, u53, u54, u55, u56, u57, u58, u59, u60, u61, u62, VO, u64, u65, u66, u67, u68, u69, u70, u71, u72, u73, u74, u75, u76, u77, u78], []⟩) #[false, true, false, false, false, false, false, false, false, false] h1 d1 (any_of tab (by kernel_rfl)) (fun c a w z => hq c a _ _ w (by rw [d1] at z; exact z)) (Or.inl ⟨by simp [Region.wanted, g1], fun w' => ?_⟩) (by rfl) ?_
  · simp only [execOp, p1, Act.eval, Act.put]
    first | (go_simp; done) | (go_simp; rfl)
  refine pure_ (i := 2) (N := some 64) (v := .int .i64 (k : Int)) (a' := ⟨#[u0, u1, u2, u3, u4, u5, u6, u7, u8, VO, u10, .pointer (some ⟨gx, 0, none⟩), .int .i64 (k : Int), u13, u14, u15, u16, u17, u18, u19, u20, u21, u22, u23, u24, u25, u26, u27, u28, u29, u30, u31, u32, u33, u34, u35, u36, u37, u38, u39, u40, u41, u42, u43, u44, u45, u46, u47, u48, u49, u50, u51, u52, u53, u54, u55, u56, u57, u58, u59, u60, u61, u62, VO, .int .i64 (k : Int), u65, u66, u67, u68, u69, u70, u71, u72, u73, u74, u75, u76, u77, u78], []⟩) #[false, true, true, false, false, false, false, false, false, false] h2 d2 (any_of tab (by kernel_rfl)) (fun c a w z => hq c a _ _ w (by rw [d2] at z; exact z)) (Or.inl ⟨by simp [Region.wanted, g2], fun w' => ?_⟩) (by rfl) ?_
  · simp only [execOp, p2, Act.eval, Act.put]
    first | (go_simp; done) | (go_simp; rfl)
  refine pure_ (i := 3) (N := some 65) (v := VC) (a' := ⟨#[u0, u1, u2, u3, u4, u5, u6, u7, u8, VO, u10, .pointer (some ⟨gx, 0, none⟩), .int .i64 (k : Int), u13, u14, u15, u16, u17, u18, u19, u20, u21, u22, u23, u24, u25, u26, u27, u28, u29, u30, u31, u32, u33, u34, u35, u36, u37, u38, u39, u40, u41, u42, u43, u44, u45, u46, u47, u48, u49, u50, u51, u52, u53, u54, u55, u56, u57, u58, u59, u60, u61, u62, VO, .int .i64 (k : Int), VC, u66, u67, u68, u69, u70, u71, u72, u73, u74, u75, u76, u77, u78], []⟩) #[false, true, true, true, false, false, false, false, false, false] h3 d3 (any_of tab (by kernel_rfl)) (fun c a w z => hq c a _ _ w (by rw [d3] at z; exact z)) (Or.inl ⟨by simp [Region.wanted, g3], fun w' => ?_⟩) (by rfl) ?_
  · simp only [execOp, p3, Act.eval, Act.put]
    exact hcut w'
  refine pure_ (i := 5) (N := some 67) (v := .pointer (some ⟨gx, 0, none⟩)) (a' := ⟨#[u0, u1, u2, u3, u4, u5, u6, u7, u8, VO, u10, .pointer (some ⟨gx, 0, none⟩), .int .i64 (k : Int), u13, u14, u15, u16, u17, u18, u19, u20, u21, u22, u23, u24, u25, u26, u27, u28, u29, u30, u31, u32, u33, u34, u35, u36, u37, u38, u39, u40, u41, u42, u43, u44, u45, u46, u47, u48, u49, u50, u51, u52, u53, u54, u55, u56, u57, u58, u59, u60, u61, u62, VO, .int .i64 (k : Int), VC, u66, .pointer (some ⟨gx, 0, none⟩), u68, u69, u70, u71, u72, u73, u74, u75, u76, u77, u78], []⟩) #[false, true, true, true, false, true, false, false, false, false] h5 d5 (any_of tab (by kernel_rfl)) (fun c a w z => hq c a _ _ w (by rw [d5] at z; exact z)) (Or.inl ⟨by simp [Region.wanted, g5], fun w' => ?_⟩) (by rfl) ?_
  · simp only [execOp, p5, Act.eval, Act.put]
    first | (go_simp; done) | (go_simp; rfl)
  refine take_ (i := 6) (N := some 68) (v := .agg #[.int .i64 a, v]) (a' := ⟨#[u0, u1, u2, u3, u4, u5, u6, u7, u8, VO, u10, .pointer (some ⟨gx, 0, none⟩), .int .i64 (k : Int), u13, u14, u15, u16, u17, u18, u19, u20, u21, u22, u23, u24, u25, u26, u27, u28, u29, u30, u31, u32, u33, u34, u35, u36, u37, u38, u39, u40, u41, u42, u43, u44, u45, u46, u47, u48, u49, u50, u51, u52, u53, u54, u55, u56, u57, u58, u59, u60, u61, u62, VO, .int .i64 (k : Int), VC, u66, .pointer (some ⟨gx, 0, none⟩), .agg #[.int .i64 a, v], u69, u70, u71, u72, u73, u74, u75, u76, u77, u78], []⟩) #[false, true, true, true, false, true, true, false, false, false] h6 d6 (take_ofW tab R13.bits (by kernel_rfl)) (fun c a w z => hq c a _ _ w (by rw [d6] at z; exact z)) (Or.inl ⟨by simp [Region.wanted, g6], ?_⟩) hHeld (by rfl) ?_
  · intro w' hs
    have s2 := (hs.cell (p := ⟨gx, 0, none⟩) lx).trans x0
    have s3 := (hs.cell (p := ⟨gx, 1, none⟩) lx).trans x1
    simp only [execOp, p6, Act.eval, Act.put]
    first | (go_simp; done) | (go_simp; rfl)
  exact R13_0000 hP tab hq h0 d0 p0 g0 h1 d1 p1 g1 h2 d2 p2 g2 h3 d3 p3 g3 h4 d4 p4 g4 h5 d5 p5 g5 h6 d6 p6 g6 h7 d7 p7 g7 h8 d8 p8 g8 h9 d9 p9 g9 hcut hsrc hcl hc1 hk lx x0 x1 hv1 hQ _ hHeld
end
end HS
end Go.Proofs.YtmplgijnmjdogaaDoorV
namespace Go.Proofs.YtmplgijnmjdogaaDoorV
open Go.RowKit Go.Proofs.YtmplgijnmjdogaaDoorW.PrintWords Go.Proofs.YtmplgijnmjdogaaDoorW.PrintLast
namespace HS
open RB
open BA (Nd encN)
/-- Where a board comes to stand among others, from the right. -/
def posR (rk : List Int → Int) (L : List (List Int)) (x : List Int) : Nat → Nat
  | 0 => 0
  | m + 1 => if rk x < rk (L.getD m []) then posR rk L x m else m + 1
def insR (rk : List Int → Int) (L : List (List Int)) (x : List Int) : List (List Int) := L.take (posR rk L x L.length) ++ x :: L.drop (posR rk L x L.length)
def hardL (rk : List Int → Int) (most : Int) : List Nd → List (List Int) → List (List Int)
  | [], L => L
  | e :: t, L => if e.2 < most then hardL rk most t L else hardL rk most t (insR rk L e.1)
theorem posR_le (rk : List Int → Int) (L : List (List Int)) (x : List Int) : ∀ k, posR rk L x k ≤ k
  | 0 => Nat.le_refl _
  | m + 1 => by
    unfold posR
    split
    · exact Nat.le_succ_of_le (posR_le rk L x m)
    · exact Nat.le_refl _
def enc2 (a : Int) (_ : List Int) (v : Value) : List Value := [.int .i64 a, v]
theorem flat_ins (a : Int) (x : List Int) (v : Value) : ∀ (k : Nat) (xs : List (List Int)) (vs : List Value), vs.length = xs.length → flat (enc2 a) (xs.take k ++ x :: xs.drop k) (vs.take k ++ v :: vs.drop k) = (flat (enc2 a) xs vs).take (k * 2) ++ [.int .i64 a, v] ++ (flat (enc2 a) xs vs).drop (k * 2)
  | 0, xs, vs, h => by simp [flat, enc2]
  | k + 1, [], [], h => by simp [flat, enc2]
  | k + 1, [], _ :: _, h => by simp at h
  | k + 1, _ :: _, [], h => by simp at h
  | k + 1, y :: xs, u :: vs, h => by
    show enc2 a y u ++ flat (enc2 a) (xs.take k ++ x :: xs.drop k) (vs.take k ++ v :: vs.drop k) = _
    rw [flat_ins a x v k xs vs (by simpa using h)]
    show _ = ([.int .i64 a, u] ++ flat (enc2 a) xs vs).take ((k + 1) * 2) ++ [.int .i64 a, v] ++ ([.int .i64 a, u] ++ flat (enc2 a) xs vs).drop ((k + 1) * 2)
    rw [show (k + 1) * 2 = k * 2 + 1 + 1 from by omega]
    rfl
theorem own_lower {W : World} {n₀ n1 z n : Nat} {e : TypeId} {v : Value} {x : List Value} (h : W.ownsRow n₀ e z v n x) (hle : n1 ≤ n₀) : W.ownsRow n1 e z v n x := by
  obtain ⟨h1, h2⟩ := h
  rcases h2 with h2 | ⟨g, cap, cur, h3, h4, h5⟩
  · exact ⟨h1, .inl h2⟩
  · exact ⟨h1, .inr ⟨g, cap, cur, h3, Nat.le_trans hle h4, h5⟩⟩
theorem ins_len {α : Type} {k : Nat} {xs : List α} {x : α} (hk : k ≤ xs.length) : (xs.take k ++ x :: xs.drop k).length = xs.length + 1 := by
  rw [List.length_append, List.length_cons, List.length_take, List.length_drop]
  omega
theorem ins_at {α : Type} {k j : Nat} {xs : List α} {x y : α} (hk : k ≤ xs.length) (h : (xs.take k ++ x :: xs.drop k)[j]? = some y) : (j < k ∧ xs[j]? = some y) ∨ (j = k ∧ y = x) ∨ (k < j ∧ xs[j - 1]? = some y) := by
  have hl : (xs.take k).length = k := by rw [List.length_take]; omega
  by_cases h1 : j < k
  · rw [List.getElem?_append_left (by omega), List.getElem?_take_of_lt h1] at h
    exact .inl ⟨h1, h⟩
  · rw [List.getElem?_append_right (by omega), hl] at h
    by_cases h2 : j = k
    · subst h2
      rw [Nat.sub_self, List.getElem?_cons_zero] at h
      exact .inr (.inl ⟨rfl, (Option.some.inj h).symm⟩)
    · obtain ⟨d, hd⟩ : ∃ d, j - k = d + 1 := ⟨j - k - 1, by omega⟩
      rw [hd, List.getElem?_cons_succ, List.getElem?_drop] at h
      exact .inr (.inr ⟨by omega, by rw [show j - 1 = k + d by omega]; exact h⟩)
abbrev RowL (a : Int) (n1 : Nat) (W : World) (V : Value) (L : List (List Int)) : Prop := Row none n1 28 2 (enc2 a) id W (fun k => k < n1) V L
theorem row_ins {a : Int} {n1 k : Nat} {W : World} {V v : Value} {L : List (List Int)} {x : List Int} {vs : List Value} (hk : k ≤ L.length) (hvs : vs.length = L.length)
    (hel : ∀ (j : Nat) (v : Value) (x : List Int), vs[j]? = some v → L[j]? = some x → El none W (fun k => k < n1) v x) (hv : El none W (fun k => k < n1) v x)
    (hown : W.ownsRow n1 28 2 V (L.length + 1) ((flat (enc2 a) L vs).take (k * 2) ++ [.int .i64 a, v] ++ (flat (enc2 a) L vs).drop (k * 2))) : RowL a n1 W V (L.take k ++ x :: L.drop k) := by
  refine ⟨vs.take k ++ v :: vs.drop k, by rw [ins_len hk, ins_len (by omega), hvs], ?_, fun j u y hu hy => ?_⟩
  · rw [flat_ins a x v k L vs hvs, ins_len hk]
    exact hown
  · rcases ins_at hk hy with ⟨h1, h2⟩ | ⟨h1, rfl⟩ | ⟨h1, h2⟩
    · rcases ins_at (by omega) hu with ⟨_, h3⟩ | ⟨h3, _⟩ | ⟨h3, _⟩
      · exact hel j u y h3 h2
      · omega
      · omega
    · rcases ins_at (by omega) hu with ⟨h3, _⟩ | ⟨_, rfl⟩ | ⟨h3, _⟩
      · omega
      · exact hv
      · omega
    · rcases ins_at (by omega) hu with ⟨h3, _⟩ | ⟨h3, _⟩ | ⟨_, h3⟩
      · omega
      · omega
      · exact hel (j - 1) u y h3 h2
theorem flat_one (a : Int) : ∀ (xs : List (List Int)) (vs : List Value), (∀ v ∈ vs, v.oneCell' = true) → ∀ u ∈ flat (enc2 a) xs vs, u.oneCell' = true
  | [], _, _, u, hu => by simp [flat] at hu
  | _ :: _, [], _, u, hu => by simp [flat] at hu
  | x :: xs, v :: vs, h, u, hu => by
    have hu2 : u ∈ [Value.int .i64 a, v] ++ flat (enc2 a) xs vs := hu
    rcases List.mem_append.1 hu2 with hu2 | hu2
    · rcases List.mem_cons.1 hu2 with rfl | hu2
      · rfl
      · obtain rfl := List.mem_singleton.1 hu2
        exact h _ List.mem_cons_self
    · exact flat_one a xs vs (fun v hv => h v (List.mem_cons_of_mem _ hv)) u hu2
theorem flat_len (a : Int) : ∀ (xs : List (List Int)) (vs : List Value), vs.length = xs.length → (flat (enc2 a) xs vs).length = xs.length * 2
  | [], [], _ => rfl
  | [], _ :: _, h => by simp at h
  | _ :: _, [], h => by simp at h
  | x :: xs, v :: vs, h => by
    show ([Value.int .i64 a, v] ++ flat (enc2 a) xs vs).length = _
    rw [List.length_append, flat_len a xs vs (by simpa using h)]
    simp
    omega
/-- What a row's value is, and what its cuts are. -/
theorem row_val {n1 z n : Nat} {W : World} {e : TypeId} {V : Value} {fl : List Value} (h : W.ownsRow n1 e z V n fl) : ∃ AO cO, V = .slice AO n cO ∧ n ≤ cO ∧ ((AO = none ∧ n = 0 ∧ cO = 0 ∧ fl = []) ∨ ∃ g, AO = some ⟨g, 0, none⟩ ∧ g < W.heap.size ∧ n1 ≤ g ∧ ∀ j u, fl[j]? = some u → W.cell? ⟨g, j, none⟩ = some u) := by
  have h0 := h
  rcases h.2 with ⟨rfl, rfl⟩ | ⟨g, cap, cur, rfl, hb, hg, hcap, r⟩
  · have hx : fl = [] := List.eq_nil_of_length_eq_zero (by simpa using h.1)
    exact ⟨none, 0, rfl, Nat.le_refl _, .inl ⟨rfl, rfl, rfl, hx⟩⟩
  · refine ⟨_, cap, rfl, hcap, .inr ⟨g, rfl, (Array.getElem?_eq_some_iff.1 hg).1, hb, fun j u hu => ?_⟩⟩
    have := h0.cells (g := g) rfl j u hu
    rwa [add0] at this
theorem cut_front {n cO k : Nat} {AO : Option Addr} (hk : k ≤ cO) (hA : (AO = none ∧ n = 0 ∧ cO = 0) ∨ ∃ g, AO = some ⟨g, 0, none⟩) (w' : World) :
    (Sem.run Tryd.prog ((fun v => Next.value v) <$> Instr.sliceAt 32 (.slice AO n cO) none (some (.int .i64 (k : Int))) none) w') = .ok (.value (.slice AO k cO)) w' := by
  have hE : Tryd.prog.elem 32 = 28 := by kernel_rfl
  have hu : Tryd.prog.underlying 32 = some (.slice (Tryd.prog.elem 32)) := by
    rw [hE]
    exact Tryd.underlying32
  have e := run_sliceAt_slice (P := Tryd.prog) w' 32 (.slice AO n cO) none (some (.int .i64 (k : Int))) none hu
  have e2 := run_slice_h (P := Tryd.prog) w' 32 AO n cO hu .i64 (k : Int) (by omega) (by omega)
  have e3 : (sizeOf (Tryd.prog.elem 32)).run Tryd.prog w' = .ok 2 w' := by
    rw [hE]
    exact SO.sizeB w'
  rw [e3] at e2
  have e4 : (sliced AO 0 ((k : Int)).toNat cO 2) = .slice AO k cO := by
    unfold sliced
    rcases hA with ⟨rfl, _, _⟩ | ⟨g, rfl⟩
    · simp
    · simp [add0]
  simp only [Sem.run_map, e, e2, Result.andThen, e4]
theorem cut_src {W : World} {n cO k : Nat} {AO : Option Addr} {fl : List Value} (hk : k ≤ n) (hA : (AO = none ∧ n = 0 ∧ cO = 0 ∧ fl = []) ∨ ∃ g, AO = some ⟨g, 0, none⟩ ∧ ∀ j u, fl[j]? = some u → W.cell? ⟨g, j, none⟩ = some u) : SrcS W (.slice AO k cO) k (fl.take (k * 2)) := by
  rcases hA with ⟨rfl, rfl, rfl, rfl⟩ | ⟨g, rfl, hc⟩
  · obtain rfl : k = 0 := by omega
    exact .inl ⟨rfl, rfl, rfl⟩
  · refine .inr ⟨_, _, rfl, fun j u hu => ?_⟩
    rw [add0]
    rw [List.getElem?_take] at hu
    split at hu
    · exact hc j u hu
    · cases hu
theorem cut_src2 {W : World} {n cO k : Nat} {AO : Option Addr} {fl : List Value} (hk : k ≤ n) (hcap : n ≤ cO) (hfl : fl.length = n * 2) (hA : (AO = none ∧ n = 0 ∧ cO = 0 ∧ fl = []) ∨ ∃ g, AO = some ⟨g, 0, none⟩ ∧ ∀ j u, fl[j]? = some u → W.cell? ⟨g, j, none⟩ = some u) : SrcS W (sliced AO k n cO 2) (n - k) (fl.drop (k * 2)) := by
  unfold sliced
  rcases hA with ⟨rfl, rfl, rfl, rfl⟩ | ⟨g, rfl, hc⟩
  · obtain rfl : k = 0 := by omega
    exact .inl ⟨rfl, rfl, rfl⟩
  · by_cases h : cO = k
    · rw [if_pos h]
      refine .inr ⟨_, _, rfl, fun j u hu => ?_⟩
      rw [List.getElem?_drop] at hu
      have := (List.getElem?_eq_some_iff.1 hu).1
      exfalso
      omega
    · rw [if_neg h]
      refine .inr ⟨_, _, rfl, fun j u hu => ?_⟩
      rw [List.getElem?_drop] at hu
      show W.cell? (((⟨g, 0, none⟩ : Addr).add (k * 2)).add j) = _
      rw [add0, addp]
      exact hc _ u hu
end HS
end Go.Proofs.YtmplgijnmjdogaaDoorV
namespace Go.Proofs.YtmplgijnmjdogaaDoorV
open Go.RowKit Go.Proofs.YtmplgijnmjdogaaDoorW.PrintWords Go.Proofs.YtmplgijnmjdogaaDoorW.PrintLast
namespace HS
open RB
open BA (Nd encN)
theorem posR_step {rk : List Int → Int} {L : List (List Int)} {x y : List Int} {m : Nat} (h : L[m]? = some y) (hlt : rk x < rk y) : posR rk L x (m + 1) = posR rk L x m := by
  rw [posR, if_pos (by rw [List.getD_eq_getElem?_getD, h]; exact hlt)]
theorem posR_stop {rk : List Int → Int} {L : List (List Int)} {x y : List Int} {m : Nat} (h : L[m]? = some y) (hlt : ¬ rk x < rk y) : posR rk L x (m + 1) = m + 1 := by
  rw [posR, if_neg (by rw [List.getD_eq_getElem?_getD, h]; exact hlt)]
theorem ins_step (rk : List Int → Int) (most : Int) {e : Nd} {t : List Nd} {L : List (List Int)} (h : ¬ e.2 < most) : hardL rk most (e :: t) L = hardL rk most t (insR rk L e.1) := by
  rw [hardL, if_neg h]
theorem skip_step (rk : List Int → Int) (most : Int) {e : Nd} {t : List Nd} {L : List (List Int)} (h : e.2 < most) : hardL rk most (e :: t) L = hardL rk most t L := by
  rw [hardL, if_pos h]
theorem drop_at {α : Type} {xs : List α} {i : Nat} {x : α} (h : xs[i]? = some x) : xs.drop i = x :: xs.drop (i + 1) := by
  obtain ⟨hlt, rfl⟩ := List.getElem?_eq_some_iff.1 h
  exact List.drop_eq_getElem_cons hlt
theorem iv_one {W : World} {ok : Nat → Prop} {v : Value} {l : List Int} (h : IV W ok v l) : v.oneCell' = true := by
  obtain ⟨A, c, rfl⟩ := Kd.V_slice h
  rfl
theorem row_parts {a : Int} {n1 : Nat} {W : World} {V : Value} {L : List (List Int)} (h : RowL a n1 W V L) : ∃ vs : List Value, vs.length = L.length ∧ W.ownsRow n1 28 2 V L.length (flat (enc2 a) L vs) ∧ (∀ (j : Nat) (v : Value) (x : List Int), vs[j]? = some v → L[j]? = some x → El none W (fun k => k < n1) v x) ∧ ∀ v ∈ vs, v.oneCell' = true := by
  obtain ⟨vs, h1, h2, h3⟩ := h
  refine ⟨vs, h1, h2, h3, fun v hv => ?_⟩
  obtain ⟨j, hj⟩ := List.mem_iff_getElem?.1 hv
  have hjl := (List.getElem?_eq_some_iff.1 hj).1
  exact iv_one (h3 j v L[j] hj (List.getElem?_eq_getElem (by omega)))
theorem own_srcs {n1 n : Nat} {W : World} {AO : Option Addr} {cO : Nat} {fl : List Value} (h : (AO = none ∧ n = 0 ∧ cO = 0 ∧ fl = []) ∨ ∃ g, AO = some ⟨g, 0, none⟩ ∧ g < W.heap.size ∧ n1 ≤ g ∧ ∀ j u, fl[j]? = some u → W.cell? ⟨g, j, none⟩ = some u) :
    ((AO = none ∧ n = 0 ∧ cO = 0 ∧ fl = []) ∨ ∃ g, AO = some ⟨g, 0, none⟩ ∧ ∀ j u, fl[j]? = some u → W.cell? ⟨g, j, none⟩ = some u) ∧ ((AO = none ∧ n = 0 ∧ cO = 0) ∨ ∃ g, AO = some ⟨g, 0, none⟩) := by
  rcases h with ⟨h1, h2, h3, h4⟩ | ⟨g, h1, _, _, h4⟩
  · exact ⟨.inl ⟨h1, h2, h3, h4⟩, .inl ⟨h1, h2, h3⟩⟩
  · exact ⟨.inr ⟨g, h1, h4⟩, .inr ⟨g, h1⟩⟩
theorem row_val_step {n1 n cO : Nat} {W W' : World} {AO : Option Addr} {fl : List Value} (h : (AO = none ∧ n = 0 ∧ cO = 0 ∧ fl = []) ∨ ∃ g, AO = some ⟨g, 0, none⟩ ∧ g < W.heap.size ∧ n1 ≤ g ∧ ∀ j u, fl[j]? = some u → W.cell? ⟨g, j, none⟩ = some u) (hB : Below W.heap.size W W') :
    (AO = none ∧ n = 0 ∧ cO = 0 ∧ fl = []) ∨ ∃ g, AO = some ⟨g, 0, none⟩ ∧ g < W'.heap.size ∧ n1 ≤ g ∧ ∀ j u, fl[j]? = some u → W'.cell? ⟨g, j, none⟩ = some u := by
  rcases h with h | ⟨g, h1, h2, h3, h4⟩
  · exact .inl h
  · exact .inr ⟨g, h1, Nat.lt_of_lt_of_le h2 hB.size, h3, fun j u hu => (hB.cell (p := ⟨g, j, none⟩) h2).trans (h4 j u hu)⟩
theorem own_cap {n1 z n cO : Nat} {W : World} {e : TypeId} {AO : Option Addr} {fl : List Value} (h : W.ownsRow n1 e z (.slice AO n cO) n fl) : n ≤ cO := by
  rcases h.2 with ⟨hv, h0⟩ | ⟨g, cap, cur, hv, _, _, hcap, _⟩
  · omega
  · injection hv with _ _ h3
    omega
theorem insR_len (rk : List Int → Int) (L : List (List Int)) (x : List Int) : (insR rk L x).length = L.length + 1 := ins_len (posR_le rk L x L.length)
theorem insR_mem {rk : List Int → Int} {L M : List (List Int)} {x : List Int} (h : ∀ l ∈ L, l ∈ M) (hx : x ∈ M) : ∀ l ∈ insR rk L x, l ∈ M := by
  intro l hl
  unfold insR at hl
  rcases List.mem_append.1 hl with hl | hl
  · exact h l (List.mem_of_mem_take hl)
  · rcases List.mem_cons.1 hl with rfl | hl
    · exact hx
    · exact h l (List.mem_of_mem_drop hl)
set_option maxRecDepth 100000 in
set_option maxHeartbeats 8000000 in
theorem hardS_yes (x y a : Int) (w : World) (res : List Nd) (e0 : Nd) (rk : List Int → Int) (hxy : ¬ wrap64 (x * y) > 6)
    (HI : ∀ W, Calls Tryd.prog 32 #[.int .i64 x, .int .i64 y] W fun e w' => e = .returned (.bool true) ∧ Below W.heap.size W w')
    (HA : ∀ W, Calls Tryd.prog 18 #[.int .i64 x, .int .i64 y] W fun e w' => ∃ VL VR rs, e = .returned VL ∧ BA.St a W.heap.size W w' VL VR res rs)
    (HR : ∀ (l : List Int) A c W, l ∈ res.map (fun e => e.1) → Kd.C (Kd.int .i64) W A l.length l → l.length ≤ c → Calls Tryd.prog 33 #[.agg #[.int .i64 a, .slice A l.length c]] W fun e w' => e = .returned (.int .i64 (rk l)) ∧ Below W.heap.size W w')
    (hlast : res[res.length - 1]? = some e0) (hl : res.length ≤ 1000000) :
    Calls Tryd.prog 10 #[.int .i64 x, .int .i64 y] w fun e w' => ∃ (V : Value) (n1 : Nat), e = .returned (.tuple #[.int .i64 e0.2, V, .bool true]) ∧
      n1 ≤ w'.heap.size ∧ RowL a n1 w' V (hardL rk e0.2 res []) ∧ (hardL rk e0.2 res []).length ≤ 1000000 ∧ Below w.heap.size w w' := by
  have hxy0 : decide (wrap64 (x * y) > 6) = false := decide_eq_false hxy
  have hxy1 : decide (6 < wrap64 (x * y)) = false := decide_eq_false (by omega)
  have h0 : 0 < res.length := by have := (List.getElem?_eq_some_iff.1 hlast).1; omega
  have K := Aside0.mk (And.intro HI (And.intro HA HR))
  clear HI HA HR hxy
  go_enter Tryd.func10, Tryd.ntmps10
  go_upto_region 4 with (first | (go_at_call 32; refine (K.out.1 _).mono ?_; rintro e w1 ⟨rfl, hb1⟩) | (go_at_call 18; refine (K.out.2.1 _).mono ?_; rintro e w2 ⟨VL, VR, rs, rfl, hst⟩))
  have hrow := SO.Row_bound hst.row
  have hb2 : Below w.heap.size w w2 := hb1.trans (hst.below.mono hb1.size)
  clear hst hb1
  obtain ⟨nA, hnA⟩ : ∃ nA, w1.heap.size = nA := ⟨_, rfl⟩
  rw [hnA] at hrow
  obtain ⟨gL, cL, _, _, rfl, hcL, hgL, hgn, hcl, _⟩ := hrow.get (sz := 3) (fun _ _ => rfl) hlast
  have hlc : w2.cell? ⟨gL, (res.length - 1) * 3 + 2, none⟩ = some (.int .i64 e0.2) := hcl 2 _ rfl
  clear hcl
  have hidx : ((res.length : Int) - 1).toNat = res.length - 1 := by omega
  have hwr : wrap64 ((res.length : Int) - 1) = ((res.length - 1 : Nat) : Int) := by unfold wrap64; omega
  have hltl : ((res.length - 1 : Nat) : Int) < (res.length : Int) := by omega
  go_wp2
  obtain ⟨n1, hn1⟩ : ∃ n1, w2.heap.size = n1 := ⟨_, rfl⟩
  have HR := Aside0.mk (And.intro hrow hb2)
  have hrow0 : RowL a n1 w2 (.slice none 0 0) [] := ⟨[], rfl, World.ownsRow_nil _ _ _ _, fun j v x hv hx => by simp at hx⟩
  clear hlc hrow hidx hltl hb2
  obtain ⟨RES, hRES⟩ : ∃ RES, hardL rk e0.2 res [] = RES := ⟨_, rfl⟩
  have HRES := Aside0.mk hRES
  go_loopw [9, 36] (fun s9 s36 wr => ∃ (i : Nat) (Vo : Value) (L : List (List Int)), i ≤ res.length ∧ s9 = Vo ∧ s36 = .int .i64 (i : Int) ∧ L.length ≤ i ∧ Aside0 (hardL rk e0.2 (res.drop i) L = RES) ∧ Aside0 (∀ l ∈ L, l ∈ res.map (fun e => e.1)) ∧ Aside0 (RowL a n1 wr Vo L) ∧ Aside0 (Below w2.heap.size w2 wr))
    (fun _ s36 _ => res.length - (intOf s36).toNat)
  case atStart => exact ⟨0, _, [], Nat.zero_le _, rfl, rfl, Nat.le_refl _, Aside0.mk hRES, Aside0.mk (fun l h => by cases h), Aside0.mk hrow0, Aside0.mk (Below.refl _ w2)⟩
  case round =>
    obtain ⟨i, Vo, L, hi, rfl, rfl, hLi, hfin, hmem, HRr, HBr⟩ := hrel
    clear hrow0 hRES
    by_cases hlt : i < res.length
    · have hlti : (i : Int) < (res.length : Int) := by omega
      obtain ⟨e, he⟩ : ∃ e, res[i]? = some e := ⟨_, List.getElem?_eq_getElem hlt⟩
      have hrow := HR.out.1.step (W' := wr) (ok' := fun k => k < n1) (fun k hk hlt => ⟨HBr.out.block k hk, by rw [← hn1]; exact hk⟩) (fun k hk => HBr.out.block k (HR.out.1.lt k hk))
      obtain ⟨g2, cL2, A2, cc2, e2, hcL2, hgL2, hgn2, hcells, hle2, hC2, hel2, cur2, hcur2⟩ := hrow.getE (sz := 3) (fun _ _ => rfl) he
      obtain ⟨rfl, rfl⟩ : gL = g2 ∧ cL = cL2 := by simpa using e2
      have m0 : wr.cell? ⟨gL, i * 3, none⟩ = some (.int .i64 a) := hcells 0 _ rfl
      have m1 : wr.cell? ⟨gL, i * 3 + 1, none⟩ = some (.slice A2 e.1.length cc2) := hcells 1 _ rfl
      have m2 : wr.cell? ⟨gL, i * 3 + 2, none⟩ = some (.int .i64 e.2) := hcells 2 _ rfl
      have hfin2 := hfin.out
      rw [drop_at he] at hfin2
      have X := Aside0.mk (And.intro hel2 (And.intro hfin2 (And.intro (List.mem_map.2 ⟨e, List.mem_of_getElem? he, rfl⟩ : e.1 ∈ res.map (fun e => e.1)) he)))
      clear hrow hcells hcur2 hel2 hC2 e2 hfin2 he hfin
      go_upto_region 9 with (first | ((with_reducible refine gate_dst (N := 11) rfl ?_); refine box_event ?hg (N := 11) ?hd (cs := #[.int .i64 0, .slice none 0 0, .int .i64 0]) (t := 55) ?hr ?_; (case hd => rfl); (case hg => rfl); (case hr => first | (go_simp; done) | (go_simp; rfl)); intro gb hg w9 hbox hb; have hcz0 : w9.cell? ⟨gb, 0, none⟩ = some (.int .i64 0) := (blk_cell hbox 0).trans rfl; have hcz1 : w9.cell? ⟨gb, 1, none⟩ = some (.slice none 0 0) := (blk_cell hbox 1).trans rfl; have hcz2 : w9.cell? ⟨gb, 2, none⟩ = some (.int .i64 0) := (blk_cell hbox 2).trans rfl; have hfz0 := blk_frozen hbox 0; have hfz1 := blk_frozen hbox 1; have hfz2 := blk_frozen hbox 2; have HB9 := Aside0.mk (And.intro hb (And.intro hbox hg)); clear hb hbox hg))
      have hgb : gb = wr.heap.size := HB9.out.2.2
      have hBx : Below wr.heap.size wr (((w9.setCell ⟨gb, 0, none⟩ (.int .i64 a)).setCell ⟨gb, 1, none⟩ (.slice A2 e.1.length cc2)).setCell ⟨gb, 2, none⟩ (.int .i64 e.2)) := below_set (below_set (below_set HB9.out.1 (by omega)) (by omega)) (by omega)
      have hxx : (((w9.setCell ⟨gb, 0, none⟩ (.int .i64 a)).setCell ⟨gb, 1, none⟩ (.slice A2 e.1.length cc2)).setCell ⟨gb, 2, none⟩ (.int .i64 e.2)).heap[gb]? = some (.cells #[.int .i64 a, .slice A2 e.1.length cc2, .int .i64 e.2] 55 (0, 0)) := blk_put (blk_put (blk_put HB9.out.2.1 0 _ rfl) 1 _ rfl) 2 _ rfl
      clear HB9 hcz0 hcz1 hcz2 hfz0 hfz1 hfz2 hgb
      obtain ⟨wX, hwX⟩ : ∃ wX, (((w9.setCell ⟨gb, 0, none⟩ (.int .i64 a)).setCell ⟨gb, 1, none⟩ (.slice A2 e.1.length cc2)).setCell ⟨gb, 2, none⟩ (.int .i64 e.2)) = wX := ⟨_, rfl⟩
      rw [hwX] at hBx hxx ⊢
      clear hwX
      have q2 : wX.cell? ⟨gb, 2, none⟩ = some (.int .i64 e.2) := (blk_cell hxx 2).trans rfl
      have hBX : Below w2.heap.size w2 wX := HBr.out.trans (hBx.mono HBr.out.size)
      have hrX := HRr.out.step (W' := wX) (ok' := fun k => k < n1) (fun k hk hlt => ⟨hBx.block k hlt, hk⟩) (fun k hk => hBx.block k (HRr.out.lt k hk))
      have hXl : n1 ≤ wX.heap.size := by rw [← hn1]; exact hBX.size
      have helX := X.out.1.step (W' := wX) (ok' := fun k => k < n1) (fun k hk hlt => ⟨hBx.block k hlt, hk⟩)
      clear HRr HBr
      by_cases hp : e.2 < e0.2
      · have hp1 : decide (e.2 < e0.2) = true := decide_eq_true hp
        have hnx : hardL rk e0.2 (res.drop (i + 1)) L = RES := by rw [← skip_step rk e0.2 hp]; exact X.out.2.1
        have Y := Aside0.mk (And.intro hrX (And.intro hBX hnx))
        clear hrX hBX hxx helX X hnx hBx
        go_wp2
        exact ⟨⟨i + 1, _, L, by omega, rfl, by simp, by omega, Aside0.mk Y.out.2.2, hmem, Aside0.mk Y.out.1, Aside0.mk Y.out.2.1⟩, by simp [intOf]; omega⟩
      · have hp1 : decide (e.2 < e0.2) = false := decide_eq_false hp
        have hnx : hardL rk e0.2 (res.drop (i + 1)) (insR rk L e.1) = RES := by rw [← ins_step rk e0.2 hp]; exact X.out.2.1
        obtain ⟨vs, hvs, hown, helv, hone⟩ := row_parts hrX
        obtain ⟨AO, cO, rfl, hcO, hAO⟩ := row_val hown
        have Y := Aside0.mk (And.intro helv (And.intro hBX (And.intro hnx (And.intro hvs (And.intro helX (And.intro hone (And.intro hown (And.intro hAO (And.intro hxx X.out.2.2.1)))))))))
        clear helv hBX X hvs helX hone hown hAO hrX hxx hnx hBx
        go_wp2
        go_loopw [12] (fun s12 wi => ∃ k : Nat, s12 = .int .i64 (k : Int) ∧ k ≤ L.length ∧ Aside0 (posR rk L e.1 k = posR rk L e.1 L.length) ∧ Aside0 (Below wX.heap.size wX wi))
          (fun s12 _ => (intOf s12).toNat)
        case atStart => exact ⟨L.length, rfl, Nat.le_refl _, Aside0.mk rfl, Aside0.mk (Below.refl _ wX)⟩
        case round =>
          obtain ⟨k, rfl, hk, hpos, HBk⟩ := hrel
          have hxk := (HBk.out.block _ (SE.blk_lt Y.out.2.2.2.2.2.2.2.2.1)).trans Y.out.2.2.2.2.2.2.2.2.1
          have lx := SE.blk_lt hxk
          have x0 : wr.cell? ⟨gb, 0, none⟩ = some (.int .i64 a) := (blk_cell hxk 0).trans rfl
          have x1 : wr.cell? ⟨gb, 1, none⟩ = some (.slice A2 e.1.length cc2) := (blk_cell hxk 1).trans rfl
          have hownk : wr.ownsRow n1 28 2 (.slice AO L.length cO) L.length (flat (enc2 a) L vs) := own_move Y.out.2.2.2.2.2.2.1 (fun j hj => HBk.out.block j (own_lt Y.out.2.2.2.2.2.2.1 j hj))
          have helk : ∀ (j : Nat) (v : Value) (x : List Int), vs[j]? = some v → L[j]? = some x → El none wr (fun k => k < n1) v x := fun j v x hv hx => (Y.out.1 j v x hv hx).step (fun k hk hlt => ⟨HBk.out.block k hlt, hk⟩)
          have hexk : El none wr (fun k => k < n1) (.slice A2 e.1.length cc2) e.1 := Y.out.2.2.2.2.1.step (fun k hk hlt => ⟨HBk.out.block k hlt, hk⟩)
          obtain ⟨_, hle3, hC3⟩ := Kd.V_reads' hexk.iv
          clear hxk
          cases k with
          | zero =>
            have Z := Aside0.mk (And.intro hownk (And.intro helk (And.intro hexk (And.intro hpos.out HBk.out))))
            clear hownk helk hexk hpos HBk
            go_wp2_with fail
            refine R11z_region rfl R11.tab (by intro c a d v w z; exact z) rfl rfl rfl rfl rfl rfl rfl rfl rfl rfl rfl rfl rfl rfl rfl rfl rfl rfl rfl rfl rfl rfl rfl rfl rfl rfl rfl rfl rfl rfl rfl rfl rfl rfl rfl rfl rfl rfl rfl rfl rfl rfl rfl rfl rfl rfl rfl rfl rfl rfl rfl rfl rfl rfl rfl rfl (fun W5 hB5 => ?_) rfl
            go_wp2_with fail
            -- BEGIN T0
            have hpe : posR rk L e.1 L.length = 0 := Z.out.2.2.2.1.symm
            have HB5 := Aside0.mk hB5
            have hBx5 : Below wX.heap.size wX W5 := Z.out.2.2.2.2.trans (hB5.mono Z.out.2.2.2.2.size)
            have hx5 := (hBx5.block _ (SE.blk_lt Y.out.2.2.2.2.2.2.2.2.1)).trans Y.out.2.2.2.2.2.2.2.2.1
            have hAO5 := row_val_step Y.out.2.2.2.2.2.2.2.1 hBx5
            have hkL : 0 ≤ L.length := by omega
            have hfl := flat_len a L vs Y.out.2.2.2.1
            have hcap := (own_cap Y.out.2.2.2.2.2.2.1)
            have hL6 : L.length ≤ 1000000 := by omega
            clear lx x0 x1
            refine R13_region rfl R13.tab (by intro c a d v w z; exact z) rfl rfl rfl rfl rfl rfl rfl rfl rfl rfl rfl rfl rfl rfl rfl rfl rfl rfl rfl rfl rfl rfl rfl rfl rfl rfl rfl rfl rfl rfl rfl rfl rfl rfl rfl rfl rfl rfl rfl rfl (k := 0) (VO := .slice AO L.length cO) (VC := .slice AO 0 cO) (v := .slice A2 e.1.length cc2) (cs := (flat (enc2 a) L vs).take (0 * 2)) (cut_front (by omega) (own_srcs hAO5).2) (cut_src hkL (own_srcs hAO5).1) (by rw [List.length_take, hfl]; omega) (fun u hu => flat_one a L vs Y.out.2.2.2.2.2.1 u (List.mem_of_mem_take hu)) (by omega) (SE.blk_lt hx5) ((blk_cell hx5 0).trans rfl) ((blk_cell hx5 1).trans rfl) rfl (fun z1 z2 z3 V2 W6 hB6 hown6 => ?_) rfl
            have hBx6 : Below wX.heap.size wX W6 := hBx5.trans (hB6.mono hBx5.size)
            have hAO6 := row_val_step Y.out.2.2.2.2.2.2.2.1 hBx6
            have hsrc6 : SrcS W6 (.slice AO L.length cO) (L.length - 0) ((flat (enc2 a) L vs).drop (0 * 2)) := by
              have h := cut_src (k := L.length) (Nat.le_refl _) (own_srcs hAO6).1
              rw [List.take_of_length_le (by omega)] at h
              simpa using h
            have hX5 : n1 ≤ W5.heap.size := Nat.le_trans hXl hBx5.size
            have hX6 : n1 ≤ W6.heap.size := Nat.le_trans hXl hBx6.size
            have hge6 := own_base hown6
            have hown6b := own_lower hown6 hX5
            have hdl : ((flat (enc2 a) L vs).drop (0 * 2)).length = (L.length - 0) * 2 := by rw [List.length_drop, hfl]; omega
            have U := Aside0.mk (And.intro hB6 (And.intro hge6 hBx6))
            obtain ⟨i0, hi0, hz0, hz1, hz2⟩ := info_parts SE.infoB
            clear hAO5 hAO6 hown6 hx5 hB5 hB6 hBx5 hBx6 hge6
            go_wp2_with (at_builtin; refine wpList_append_src _ rfl _ _ _ rfl n1 28 i0 _ 2 32 Tryd.underlying32 hi0 hz0 hz1 hz2 rfl (by omega) V2 (0 + 1) _ rfl hown6b (.slice AO L.length cO) (L.length - 0) ((flat (enc2 a) L vs).drop (0 * 2)) rfl hsrc6 hdl (fun u hu => flat_one a L vs Y.out.2.2.2.2.2.1 u (List.mem_of_mem_drop hu)) (by simp only [maxLen]; omega) (by omega) hX6 ?_; intro V3 W7 hown7 hg7 hat7)
            have hB57 := below_grown U.out.1 U.out.2.1 hg7
            have hB67 : Below wX.heap.size wX W7 := (Z.out.2.2.2.2.trans (HB5.out.mono Z.out.2.2.2.2.size)).trans (hB57.mono (Nat.le_trans Z.out.2.2.2.2.size HB5.out.size))
            have hrow7 : RowL a n1 W7 V3 (insR rk L e.1) := by
              unfold insR
              rw [hpe]
              refine row_ins hkL Y.out.2.2.2.1 (fun j v x hv hx => (Y.out.1 j v x hv hx).step (fun k hk hlt => ⟨hB67.block k hlt, hk⟩)) (Y.out.2.2.2.2.1.step (fun k hk hlt => ⟨hB67.block k hlt, hk⟩)) ?_
              rw [show L.length + 1 = 0 + 1 + (L.length - 0) by omega]
              exact hown7
            refine ⟨⟨i + 1, _, insR rk L e.1, by omega, rfl, by simp, by rw [insR_len]; omega, Aside0.mk Y.out.2.2.1, Aside0.mk (insR_mem hmem.out Y.out.2.2.2.2.2.2.2.2.2), Aside0.mk hrow7, Aside0.mk (Y.out.2.1.trans (hB67.mono Y.out.2.1.size))⟩, by simp [intOf]; omega⟩
            -- END T0
          | succ m =>
            have hml : m < L.length := by omega
            obtain ⟨l1, hl1⟩ : ∃ l1, L[m]? = some l1 := ⟨_, List.getElem?_eq_getElem hml⟩
            have hrk : RowL a n1 wr (.slice AO L.length cO) L := ⟨vs, Y.out.2.2.2.1, hownk, helk⟩
            obtain ⟨gO, cO2, A1, c1, eO, _, hgO, _, hcells, hle1, hC1, _⟩ := hrk.get (sz := 2) (fun _ _ => rfl) hl1
            obtain ⟨rfl, rfl⟩ : AO = some ⟨gO, 0, none⟩ ∧ cO = cO2 := by simpa using eO
            have q0 : wr.cell? ⟨gO, m * 2, none⟩ = some (.int .i64 a) := hcells 0 _ rfl
            have q1 : wr.cell? ⟨gO, m * 2 + 1, none⟩ = some (.slice A1 l1.length c1) := hcells 1 _ rfl
            have Z := Aside0.mk (And.intro hownk (And.intro helk (And.intro hexk (And.intro hpos.out HBk.out))))
            clear hrk hownk helk hexk hcells eO hpos HBk
            go_wp2_with fail
            refine R11_region rfl R11.tab (by intro c a d v w z; exact z) rfl rfl rfl rfl rfl rfl rfl rfl rfl rfl rfl rfl rfl rfl rfl rfl rfl rfl rfl rfl rfl rfl rfl rfl rfl rfl rfl rfl rfl rfl rfl rfl rfl rfl rfl rfl rfl rfl rfl rfl rfl rfl rfl rfl rfl rfl rfl rfl rfl rfl rfl rfl rfl rfl rfl rfl (l1 := l1) (l2 := e.1) (a := a) (r1 := rk l1) (r2 := rk e.1) hml (by omega) hgO lx q0 q1 x0 x1 (by simp only [i64_w]; unfold wrap64; omega) (by omega) (by omega) (decide_eq_true (by omega)) (fun W hB => K.out.2.2 l1 A1 c1 W (hmem.out l1 (List.mem_of_getElem? hl1)) (Kd.C_below hC1 hB) hle1) (fun W hB => K.out.2.2 e.1 A2 cc2 W Y.out.2.2.2.2.2.2.2.2.2 (Kd.C_below hC3 hB) hle3) (fun W5 hB5 => ?_) rfl
            by_cases hgt : rk e.1 < rk l1
            · have hgt1 : decide (rk e.1 < rk l1) = true := decide_eq_true hgt
              go_wp2_with fail
              exact ⟨⟨m, rfl, by omega, Aside0.mk ((posR_step hl1 hgt).symm.trans Z.out.2.2.2.1), Aside0.mk (Z.out.2.2.2.2.trans (hB5.mono Z.out.2.2.2.2.size))⟩, by simp [intOf]⟩
            · have hgt1 : decide (rk e.1 < rk l1) = false := decide_eq_false hgt
              go_wp2_with fail
              -- BEGIN T1
              have hpe : posR rk L e.1 L.length = m + 1 := Z.out.2.2.2.1.symm.trans (posR_stop hl1 (Int.not_lt.2 hgt))
              have HB5 := Aside0.mk hB5
              have hBx5 : Below wX.heap.size wX W5 := Z.out.2.2.2.2.trans (hB5.mono Z.out.2.2.2.2.size)
              have hx5 := (hBx5.block _ (SE.blk_lt Y.out.2.2.2.2.2.2.2.2.1)).trans Y.out.2.2.2.2.2.2.2.2.1
              have hAO5 := row_val_step Y.out.2.2.2.2.2.2.2.1 hBx5
              have hkL : (m + 1) ≤ L.length := by omega
              have hfl := flat_len a L vs Y.out.2.2.2.1
              have hcap := (own_cap Y.out.2.2.2.2.2.2.1)
              have hL6 : L.length ≤ 1000000 := by omega
              clear lx x0 x1
              refine R13_region rfl R13.tab (by intro c a d v w z; exact z) rfl rfl rfl rfl rfl rfl rfl rfl rfl rfl rfl rfl rfl rfl rfl rfl rfl rfl rfl rfl rfl rfl rfl rfl rfl rfl rfl rfl rfl rfl rfl rfl rfl rfl rfl rfl rfl rfl rfl rfl (k := (m + 1)) (VO := .slice (some ⟨gO, 0, none⟩) L.length cO) (VC := .slice (some ⟨gO, 0, none⟩) (m + 1) cO) (v := .slice A2 e.1.length cc2) (cs := (flat (enc2 a) L vs).take ((m + 1) * 2)) (cut_front (by omega) (own_srcs hAO5).2) (cut_src hkL (own_srcs hAO5).1) (by rw [List.length_take, hfl]; omega) (fun u hu => flat_one a L vs Y.out.2.2.2.2.2.1 u (List.mem_of_mem_take hu)) (by omega) (SE.blk_lt hx5) ((blk_cell hx5 0).trans rfl) ((blk_cell hx5 1).trans rfl) rfl (fun z1 z2 z3 V2 W6 hB6 hown6 => ?_) rfl
              have hBx6 : Below wX.heap.size wX W6 := hBx5.trans (hB6.mono hBx5.size)
              have hAO6 := row_val_step Y.out.2.2.2.2.2.2.2.1 hBx6
              have hsrc6 : SrcS W6 (.slice (if cO = m + 1 then some ⟨gO, 0, none⟩ else some ⟨gO, (m + 1) * 2, none⟩) (L.length - (m + 1)) (cO - (m + 1))) (L.length - (m + 1)) ((flat (enc2 a) L vs).drop ((m + 1) * 2)) := by
                have h := cut_src2 hkL hcap hfl (own_srcs hAO6).1
                unfold sliced at h
                simpa only [Option.map_some, add0] using h
              have hX5 : n1 ≤ W5.heap.size := Nat.le_trans hXl hBx5.size
              have hX6 : n1 ≤ W6.heap.size := Nat.le_trans hXl hBx6.size
              have hge6 := own_base hown6
              have hown6b := own_lower hown6 hX5
              have hdl : ((flat (enc2 a) L vs).drop ((m + 1) * 2)).length = (L.length - (m + 1)) * 2 := by rw [List.length_drop, hfl]; omega
              have U := Aside0.mk (And.intro hB6 (And.intro hge6 hBx6))
              obtain ⟨i0, hi0, hz0, hz1, hz2⟩ := info_parts SE.infoB
              clear hAO5 hAO6 hown6 hx5 hB5 hB6 hBx5 hBx6 hge6
              go_wp2_with (at_builtin; refine wpList_append_src _ rfl _ _ _ rfl n1 28 i0 _ 2 32 Tryd.underlying32 hi0 hz0 hz1 hz2 rfl (by omega) V2 ((m + 1) + 1) _ rfl hown6b (.slice (if cO = m + 1 then some ⟨gO, 0, none⟩ else some ⟨gO, (m + 1) * 2, none⟩) (L.length - (m + 1)) (cO - (m + 1))) (L.length - (m + 1)) ((flat (enc2 a) L vs).drop ((m + 1) * 2)) rfl hsrc6 hdl (fun u hu => flat_one a L vs Y.out.2.2.2.2.2.1 u (List.mem_of_mem_drop hu)) (by simp only [maxLen]; omega) (by omega) hX6 ?_; intro V3 W7 hown7 hg7 hat7)
              have hB57 := below_grown U.out.1 U.out.2.1 hg7
              have hB67 : Below wX.heap.size wX W7 := (Z.out.2.2.2.2.trans (HB5.out.mono Z.out.2.2.2.2.size)).trans (hB57.mono (Nat.le_trans Z.out.2.2.2.2.size HB5.out.size))
              have hrow7 : RowL a n1 W7 V3 (insR rk L e.1) := by
                unfold insR
                rw [hpe]
                refine row_ins hkL Y.out.2.2.2.1 (fun j v x hv hx => (Y.out.1 j v x hv hx).step (fun k hk hlt => ⟨hB67.block k hlt, hk⟩)) (Y.out.2.2.2.2.1.step (fun k hk hlt => ⟨hB67.block k hlt, hk⟩)) ?_
                rw [show L.length + 1 = (m + 1) + 1 + (L.length - (m + 1)) by omega]
                exact hown7
              refine ⟨⟨i + 1, _, insR rk L e.1, by omega, rfl, by simp, by rw [insR_len]; omega, Aside0.mk Y.out.2.2.1, Aside0.mk (insR_mem hmem.out Y.out.2.2.2.2.2.2.2.2.2), Aside0.mk hrow7, Aside0.mk (Y.out.2.1.trans (hB67.mono Y.out.2.1.size))⟩, by simp [intOf]; omega⟩
              -- END T1
    · have ei : i = res.length := by omega
      subst ei
      have hfin2 := hfin.out
      rw [List.drop_length] at hfin2
      have hfin3 : L = RES := hfin2
      subst hfin3
      have X := Aside0.mk (And.intro HRr.out HBr.out)
      clear HRr HBr hfin hfin2
      go_wp2
      refine bodyPost_ret (results_tmp3 rfl _ _ _) rfl ?_
      exact ⟨_, n1, rfl, by rw [← hn1]; exact X.out.2.size, by rw [HRES.out]; exact X.out.1, by rw [HRES.out]; omega, HR.out.2.trans (X.out.2.mono HR.out.2.size)⟩
set_option maxRecDepth 100000 in
set_option maxHeartbeats 4000000 in
theorem hardS_no (x y : Int) (w : World) (ib : Bool) (hxy : ib = true → wrap64 (x * y) > 6)
    (HI : ∀ W, Calls Tryd.prog 32 #[.int .i64 x, .int .i64 y] W fun e w' => e = .returned (.bool ib) ∧ Below W.heap.size W w') :
    Calls Tryd.prog 10 #[.int .i64 x, .int .i64 y] w fun e w' => e = .returned (.tuple #[.int .i64 0, .slice none 0 0, .bool false]) ∧ Below w.heap.size w w' := by
  have K := Aside0.mk HI
  clear HI
  cases ib with
  | false =>
    clear hxy
    go_enter Tryd.func10, Tryd.ntmps10
    go_wp2_with (go_at_call 32; refine (K.out _).mono ?_; rintro e w1 ⟨rfl, hb1⟩)
    refine bodyPost_ret (results_tmp3 rfl _ _ _) rfl ?_
    exact ⟨rfl, hb1⟩
  | true =>
    have hxy0 : decide (wrap64 (x * y) > 6) = true := decide_eq_true (hxy rfl)
    have hxy1 : decide (6 < wrap64 (x * y)) = true := decide_eq_true (hxy rfl)
    clear hxy
    go_enter Tryd.func10, Tryd.ntmps10
    go_wp2_with (go_at_call 32; refine (K.out _).mono ?_; rintro e w1 ⟨rfl, hb1⟩)
    refine bodyPost_ret (results_tmp3 rfl _ _ _) rfl ?_
    exact ⟨rfl, hb1⟩
end HS
end Go.Proofs.YtmplgijnmjdogaaDoorV
