/- The program's PartsOf returns what the reference's returns. -/
import Derived.Test.YtplifefnjeledaaDoorQLawFnExactPartsOf
import Derived.Test.YtplifefnjeledaaDoorLTray
import Derived.Test.YtplifefnjeledaaDoorLFarO
import Derived.Test.YtplifefnjeledaaDoorLFarS
set_option linter.unusedVariables false
set_option linter.unusedSimpArgs false
namespace Go.Proofs.YtplifefnjeledaaDoor.Pure
open Go.RowKit Go.Proofs.YtplifefnjeledaaDoor.Q Go.Proofs.YtplifefnjeledaaDoorW.PrintWords Go.Proofs.YtplifefnjeledaaDoorW.PrintLast Go.Proofs.YtplifefnjeledaaDoorM Go.Proofs.YtplifefnjeledaaDoorV
open Go.Proofs.YtplifefnjeledaaDoorL BF
theorem size_of {t : ByteArray} (h : good t = true) : Size (W t) (H t) := by
  obtain ⟨f1, f2, f3, f4, f5, f6, f7⟩ := good_facts h
  exact ⟨f1, f2, f3, f4, f5⟩
theorem both {α : Type} {f g : Nat → Option α} {r : α} (h1 : Ev f r) (h2 : Ev g r) : ∃ k, f k = some r ∧ g k = some r := by
  obtain ⟨K1, e1⟩ := h1
  obtain ⟨K2, e2⟩ := h2
  exact ⟨max K1 K2, e1 _ (Nat.le_max_left ..), e2 _ (Nat.le_max_right ..)⟩
theorem rdB (l : List Bool) (i : Nat) : rdOf false l (i : Int) = l.getD i false := by
  unfold rdOf
  rw [Int.toNat_natCast]
def SeenTo (L : List Int) (w h i : Nat) (P : Nat → Prop) (sn : List Bool) : Prop := sn.length = w * h ∧ ∀ j, j < w * h → (sn.getD j false = true ↔ (∃ r ∈ roots (accO L) (adjOf w h) i, BF.Reach (accO L) (adjOf w h) r j) ∨ P j)
theorem spec_l1 {w h : Nat} (hs : Size w h) {L : List Int} (hL : L.length = w * h) {i : Nat} (hin : i < w * h) (x6 : List (List Int)) (far : List Int) (hx : x6.length ≤ 36) (hfl : far.length = w * h) (hfr : ∀ j, BF.Reach (accO L) (adjOf w h) i j → 0 ≤ far.getD j 0) (hfn : ∀ j, j < w * h → ¬ BF.Reach (accO L) (adjOf w h) i j → far.getD j 0 = -1) (res : List (List Int) × Bool)
    (hC : ∀ sn, SeenTo L w h i (fun j => BF.Reach (accO L) (adjOf w h) i j) sn → Ev (fun k => spec_PartsOf.l0 k (x6 ++ [intsN (comp (accO L) (adjOf w h) (w * h) i)]) sn L (L.length : Int) ((i + 1 : Nat) : Int) (w : Int) (h : Int) L) res) :
    ∀ (d t : Nat) (sn : List Bool), t + d = w * h → SeenTo L w h i (fun j => j < t ∧ BF.Reach (accO L) (adjOf w h) i j) sn → Ev (fun k => spec_PartsOf.l1 k x6 sn (intsN (comp (accO L) (adjOf w h) t i)) L (L.length : Int) (i : Int) far (far.length : Int) (t : Int) (w : Int) (h : Int) L) res := by
  have hp := hs.p
  intro d
  induction d with
  | zero =>
    intro t sn ht hsn
    have e : t = w * h := by omega
    subst e
    have g0 : ¬ ((w * h : Nat) : Int) < (far.length : Int) := by omega
    have g1 : x6.length < 5864062014805 := by omega
    have em : wrap64 ((i : Int) + 1) = ((i + 1 : Nat) : Int) := wrapN (i + 1) (by omega) (by omega)
    refine Ev.step (fun k => ?_) (hC sn ⟨hsn.1, fun j hj => (hsn.2 j hj).trans ⟨fun x => x.imp id (fun y => y.2), fun x => x.imp id (fun y => ⟨hj, y⟩)⟩⟩)
    rw [spec_PartsOf.l1, if_neg g0, if_pos g1, em]
  | succ d ih =>
    intro t sn ht hsn
    have htn : t < w * h := by omega
    have g0 : (t : Int) < (far.length : Int) := by omega
    have g1 : (0 : Int) ≤ (t : Int) := by omega
    have em : wrap64 ((t : Int) + 1) = ((t + 1 : Nat) : Int) := wrapN (t + 1) (by omega) (by omega)
    have rb := rd_nat far t
    have hle : (comp (accO L) (adjOf w h) t i).length ≤ t := comp_le t i
    rcases Classical.em (BF.Reach (accO L) (adjOf w h) i t) with x | x
    · have c : far.getD t 0 ≥ 0 := hfr t x
      have hI := ih (t + 1) (sn.set t true) (by omega) ⟨by rw [List.length_set]; exact hsn.1, fun j hj => by
        by_cases e : t = j
        · subst e
          have : (sn.set t true).getD t false = true := by simp [List.getD, hsn.1, htn]
          rw [this]
          exact ⟨fun _ => .inr ⟨Nat.lt_succ_self _, x⟩, fun _ => rfl⟩
        · have : (sn.set t true).getD j false = sn.getD j false := by simp [List.getD, List.getElem?_set_ne e]
          rw [this, hsn.2 j hj]
          exact ⟨fun y => y.imp id (fun z => ⟨by omega, z.2⟩), fun y => y.imp id (fun z => ⟨by omega, z.2⟩)⟩⟩
      rw [comp_pos x, ← intsN_snoc] at hI
      have g8 : (intsN (comp (accO L) (adjOf w h) t i)).length < 17592186044416 := by rw [intsN_len]; omega
      have g9 : (t : Int) < (sn.length : Int) := by rw [hsn.1]; omega
      refine Ev.step (fun k => ?_) hI
      rw [spec_PartsOf.l1, if_pos g0, if_pos g1, if_pos g0, rb, if_pos c, if_pos g8, if_pos g9, em, Int.toNat_natCast]
    · have c : ¬ far.getD t 0 ≥ 0 := by rw [hfn t htn x]; decide
      have hI := ih (t + 1) sn (by omega) ⟨hsn.1, fun j hj => (hsn.2 j hj).trans ⟨fun y => y.imp id (fun z => ⟨by omega, z.2⟩), fun y => y.imp id (fun z => ⟨by
        have : j ≠ t := fun e => x (e ▸ z.2)
        omega, z.2⟩)⟩⟩
      rw [comp_neg x] at hI
      refine Ev.step (fun k => ?_) hI
      rw [spec_PartsOf.l1, if_pos g0, if_pos g1, if_pos g0, rb, if_neg c, em]
theorem partsTo_le (acc : Nat → Bool) (adj : Nat → List Nat) (n i : Nat) : (partsTo acc adj n i).length ≤ i := by
  unfold partsTo
  rw [List.length_map]
  exact roots_le i
theorem spec_l0 {w h : Nat} (hs : Size w h) {L : List Int} (hL : L.length = w * h) : ∀ (d i : Nat) (sn : List Bool), i + d = w * h → SeenTo L w h i (fun _ => False) sn →
    Ev (fun k => spec_PartsOf.l0 k (partsTo (accO L) (adjOf w h) (w * h) i) sn L (L.length : Int) (i : Int) (w : Int) (h : Int) L) (partsTo (accO L) (adjOf w h) (w * h) (w * h), true) := by
  have hp := hs.p
  have hn := adj_lt hs
  intro d
  induction d with
  | zero =>
    intro i sn hi _
    have e : i = w * h := by omega
    subst e
    have g0 : ¬ ((w * h : Nat) : Int) < (L.length : Int) := by omega
    exact Ev.step (f := fun _ => some (partsTo (accO L) (adjOf w h) (w * h) (w * h), true)) (fun k => by rw [spec_PartsOf.l0, if_neg g0]) (Ev.now _)
  | succ d ih =>
    intro i sn hi hsn
    have hin : i < w * h := by omega
    have g0 : (i : Int) < (L.length : Int) := by omega
    have g1 : (0 : Int) ≤ (i : Int) := by omega
    have g2 : (i : Int) < (sn.length : Int) := by rw [hsn.1]; omega
    have em : wrap64 ((i : Int) + 1) = ((i + 1 : Nat) : Int) := wrapN (i + 1) (by omega) (by omega)
    have rb := rdB sn i
    have rL := rd_nat L i
    have skip : ¬ Root (accO L) (adjOf w h) i → Ev (fun k => spec_PartsOf.l0 k (partsTo (accO L) (adjOf w h) (w * h) i) sn L (L.length : Int) ((i + 1 : Nat) : Int) (w : Int) (h : Int) L) (partsTo (accO L) (adjOf w h) (w * h) (w * h), true) := by
      intro hr
      have hI := ih (i + 1) sn (by omega) ⟨hsn.1, by rw [roots_neg hr]; exact hsn.2⟩
      have e1 : partsTo (accO L) (adjOf w h) (w * h) (i + 1) = partsTo (accO L) (adjOf w h) (w * h) i := by
        unfold partsTo
        rw [roots_neg hr]
      rw [e1] at hI
      exact hI
    by_cases c : sn.getD i false = true
    · have hr : ¬ Root (accO L) (adjOf w h) i := by
        rintro ⟨_, b⟩
        rcases (hsn.2 i hin).1 c with ⟨r, hr1, hr2⟩ | x
        · exact b r (mem_roots.1 hr1).1 hr2
        · exact x
      refine Ev.step (f := fun k => spec_PartsOf.j1 k (partsTo (accO L) (adjOf w h) (w * h) i) sn (i : Int) L (L.length : Int) (i : Int) true (w : Int) (h : Int) L) (fun k => ?_) (Ev.step (fun k => ?_) (skip hr))
      · rw [spec_PartsOf.l0, if_pos g0, if_pos g1, if_pos g0, if_pos g2, rb, if_pos c]
      · rw [spec_PartsOf.j1, if_pos rfl, em]
    · by_cases c2 : L.getD i 0 = 35
      · have hr : ¬ Root (accO L) (adjOf w h) i := by
          rintro ⟨a, _⟩
          unfold accO at a
          rw [c2] at a
          exact absurd a (by decide)
        have eb : (L.getD i 0 == 35) = true := by rw [c2]; rfl
        refine Ev.step (f := fun k => spec_PartsOf.j1 k (partsTo (accO L) (adjOf w h) (w * h) i) sn (i : Int) L (L.length : Int) (i : Int) true (w : Int) (h : Int) L) (fun k => ?_) (Ev.step (fun k => ?_) (skip hr))
        · rw [spec_PartsOf.l0, if_pos g0, if_pos g1, if_pos g0, if_pos g2, rb, if_neg c, rL, eb]
        · rw [spec_PartsOf.j1, if_pos rfl, em]
      · have ha : accO L i = true := by unfold accO; rw [bne_iff_ne]; exact c2
        have eb : (L.getD i 0 == 35) = false := by rw [beq_eq_false_iff_ne]; exact c2
        have hr : Root (accO L) (adjOf w h) i := by
          refine ⟨ha, fun j hj hre => c ?_⟩
          obtain ⟨t, h1, h2, h3⟩ := root_of (acc := accO L) (adj := adjOf w h) hre.acc0
          exact (hsn.2 i hin).2 (.inl ⟨t, mem_roots.2 ⟨by omega, h2⟩, h3.trans hre⟩)
        have e1 : partsTo (accO L) (adjOf w h) (w * h) (i + 1) = partsTo (accO L) (adjOf w h) (w * h) i ++ [intsN (comp (accO L) (adjOf w h) (w * h) i)] := by
          unfold partsTo
          rw [roots_pos hr, List.map_append]
          rfl
        have DF := spec_far_ev hs hL hin
        obtain ⟨f1, f2, f3⟩ := BF.farOf_spec (acc := accO L) hn hin
        generalize BF.farOf (accO L) (adjOf w h) (w * h) i = far at DF f1 f2 f3
        have hpl := partsTo_le (accO L) (adjOf w h) (w * h) i
        have X := spec_l1 hs hL hin (partsTo (accO L) (adjOf w h) (w * h) i) far (by omega) f1 f2 f3 (partsTo (accO L) (adjOf w h) (w * h) (w * h), true) (fun sn' hsn' => by
          have hI := ih (i + 1) sn' (by omega) ⟨hsn'.1, fun j hj => (hsn'.2 j hj).trans (by
            rw [roots_pos hr]
            constructor
            · rintro (⟨r, a, b⟩ | y)
              · exact .inl ⟨r, List.mem_append_left _ a, b⟩
              · exact .inl ⟨i, by simp, y⟩
            · rintro (⟨r, a, b⟩ | y)
              · rcases List.mem_append.1 a with a | a
                · exact .inl ⟨r, a, b⟩
                · rw [List.mem_singleton.1 a] at b
                  exact .inr b
              · exact y.elim)⟩
          rw [e1] at hI
          exact hI) (w * h) 0 sn (Nat.zero_add _) ⟨hsn.1, fun j hj => (hsn.2 j hj).trans ⟨fun y => y.imp id (fun z => z.elim), fun y => y.imp id (fun z => absurd z.1 (Nat.not_lt_zero _))⟩⟩
        refine Ev.step (f := fun k => spec_PartsOf.j1 k (partsTo (accO L) (adjOf w h) (w * h) i) sn (i : Int) L (L.length : Int) (i : Int) false (w : Int) (h : Int) L) (fun k => ?_) (Ev.step (f := fun k => (spec_tyFar.f k (w : Int) (h : Int) L (i : Int)).bind fun t352 => (spec_PartsOf.l1 k (partsTo (accO L) (adjOf w h) (w * h) i) sn ([] : List Int) L (L.length : Int) (i : Int) t352 (t352.length : Int) 0 (w : Int) (h : Int) L)) (fun k => ?_) (Ev.bind (f := fun k t352 => (spec_PartsOf.l1 k (partsTo (accO L) (adjOf w h) (w * h) i) sn ([] : List Int) L (L.length : Int) (i : Int) t352 (t352.length : Int) 0 (w : Int) (h : Int) L)) DF X))
        · rw [spec_PartsOf.l0, if_pos g0, if_pos g1, if_pos g0, if_pos g2, rb, if_neg c, rL, eb]
        · rw [spec_PartsOf.j1, if_neg Bool.false_ne_true]
theorem FnExactPartsOf : laws_FnExactPartsOf.Pure := by
  intro t ht
  have ht' : t.size ≤ 1048576 := by omega
  have hi := isTray_eq t ht'
  have hr := tyRead_eq t
  by_cases hg : good t = true
  · obtain ⟨f1, f2, f3, f4, f5, f6, f7⟩ := good_facts hg
    have hs := size_of hg
    have hre := read_eq t ht'
    rw [hg] at hi
    rw [if_pos hg] at hr
    generalize W t = w at *
    generalize H t = h at *
    generalize CS t = L at *
    have hO := parts_isOpen_ev hs f6
    have hS0 := spec_l0 hs f6 (w * h) 0 (List.replicate (w * h) false) (Nat.zero_add _) ⟨List.length_replicate, fun j hj => by
      have : (List.replicate (w * h) false).getD j false = false := by rw [List.getD_eq_getElem?_getD, List.getElem?_replicate, if_pos hj]; rfl
      rw [this]
      constructor
      · intro x; cases x
      · rintro (⟨r, a, _⟩ | x)
        · simp [roots] at a
        · exact x.elim⟩
    have hsp : Ev (fun k => spec_PartsOf.f k t) (partsTo (accO L) (adjOf w h) (w * h) (w * h), true) := by
      refine Ev.congr (f := fun k => (spec_tyRead.f k t).bind fun bt340 => (if bt340.2.2.2 = true then (if 0 ≤ (bt340.2.2.1.length : Int) then (if ((bt340.2.2.1.length : Int) : Int).toNat ≤ 281474976710656 then (spec_PartsOf.l0 k ([] : List (List Int)) (List.replicate ((bt340.2.2.1.length : Int) : Int).toNat false) bt340.2.2.1 (bt340.2.2.1.length : Int) 0 bt340.1 bt340.2.1 bt340.2.2.1) else (none)) else (none)) else (some (([] : List (List Int)), false)))) (g := _) (r := _) (fun k => by rw [spec_PartsOf.f]) ?_
      refine Ev.bind (f := fun k bt340 => (if bt340.2.2.2 = true then (if 0 ≤ (bt340.2.2.1.length : Int) then (if ((bt340.2.2.1.length : Int) : Int).toNat ≤ 281474976710656 then (spec_PartsOf.l0 k ([] : List (List Int)) (List.replicate ((bt340.2.2.1.length : Int) : Int).toNat false) bt340.2.2.1 (bt340.2.2.1.length : Int) 0 bt340.1 bt340.2.1 bt340.2.2.1) else (none)) else (none)) else (some (([] : List (List Int)), false)))) hr ?_
      refine Ev.congr (g := _) (r := _) (fun k => ?_) hS0
      show (if true = true then (if 0 ≤ (L.length : Int) then (if ((L.length : Int) : Int).toNat ≤ 281474976710656 then (spec_PartsOf.l0 k ([] : List (List Int)) (List.replicate ((L.length : Int) : Int).toNat false) L (L.length : Int) 0 (w : Int) (h : Int) L) else (none)) else (none)) else (some (([] : List (List Int)), false))) = _
      rw [if_pos rfl, if_pos (by omega), if_pos (by omega), Int.toNat_natCast, f6]
      rfl
    have him : Ev (fun k => impl_PartsOf.f k t) (partsTo (accO L) (adjOf w h) (w * h) (w * h), true) := by
      refine Ev.congr (f := fun k => (impl_IsTray.f k t).bind fun t381 => (if t381 = true then ((impl_read.f t).bind fun bt382 => ((impl_tray_parts_at_impl_isOpen.f k bt382.1 bt382.2.1 bt382.2.2).bind fun t387 => (some (t387, true)))) else (some (([] : List (List Int)), false)))) (g := _) (r := _) (fun k => by rw [impl_PartsOf.f]) ?_
      refine Ev.bind (f := fun k t381 => (if t381 = true then ((impl_read.f t).bind fun bt382 => ((impl_tray_parts_at_impl_isOpen.f k bt382.1 bt382.2.1 bt382.2.2).bind fun t387 => (some (t387, true)))) else (some (([] : List (List Int)), false)))) hi ?_
      refine Ev.congr (f := fun k => (impl_tray_parts_at_impl_isOpen.f k (w : Int) (h : Int) L).bind fun t387 => (some (t387, true))) (g := _) (r := _) (fun k => by rw [if_pos rfl, hre, Option.bind_some]) ?_
      exact Ev.bind (f := fun k t387 => (some (t387, true))) hO (Ev.now _)
    obtain ⟨k, e1, e2⟩ := both hsp him
    have hpl := partsTo_le (accO L) (adjOf w h) (w * h) (w * h)
    refine ⟨k, _, _, e1, e2, by omega, fun r hr => ?_⟩
    unfold partsTo at hr
    obtain ⟨t', _, rfl⟩ := List.mem_map.1 hr
    rw [intsN_len]
    have := comp_le (acc := accO L) (adj := adjOf w h) (w * h) t'
    omega
  · rw [Bool.eq_false_iff.2 hg] at hi
    rw [if_neg hg] at hr
    have hsp : Ev (fun k => spec_PartsOf.f k t) ([], false) := by
      refine Ev.congr (f := fun k => (spec_tyRead.f k t).bind fun bt340 => (if bt340.2.2.2 = true then (if 0 ≤ (bt340.2.2.1.length : Int) then (if ((bt340.2.2.1.length : Int) : Int).toNat ≤ 281474976710656 then (spec_PartsOf.l0 k ([] : List (List Int)) (List.replicate ((bt340.2.2.1.length : Int) : Int).toNat false) bt340.2.2.1 (bt340.2.2.1.length : Int) 0 bt340.1 bt340.2.1 bt340.2.2.1) else (none)) else (none)) else (some (([] : List (List Int)), false)))) (g := _) (r := _) (fun k => by rw [spec_PartsOf.f]) ?_
      refine Ev.bind (f := fun k bt340 => (if bt340.2.2.2 = true then (if 0 ≤ (bt340.2.2.1.length : Int) then (if ((bt340.2.2.1.length : Int) : Int).toNat ≤ 281474976710656 then (spec_PartsOf.l0 k ([] : List (List Int)) (List.replicate ((bt340.2.2.1.length : Int) : Int).toNat false) bt340.2.2.1 (bt340.2.2.1.length : Int) 0 bt340.1 bt340.2.1 bt340.2.2.1) else (none)) else (none)) else (some (([] : List (List Int)), false)))) hr ?_
      exact Ev.now _
    have him : Ev (fun k => impl_PartsOf.f k t) ([], false) := by
      refine Ev.congr (f := fun k => (impl_IsTray.f k t).bind fun t381 => (if t381 = true then ((impl_read.f t).bind fun bt382 => ((impl_tray_parts_at_impl_isOpen.f k bt382.1 bt382.2.1 bt382.2.2).bind fun t387 => (some (t387, true)))) else (some (([] : List (List Int)), false)))) (g := _) (r := _) (fun k => by rw [impl_PartsOf.f]) ?_
      refine Ev.bind (f := fun k t381 => (if t381 = true then ((impl_read.f t).bind fun bt382 => ((impl_tray_parts_at_impl_isOpen.f k bt382.1 bt382.2.1 bt382.2.2).bind fun t387 => (some (t387, true)))) else (some (([] : List (List Int)), false)))) hi ?_
      exact Ev.now _
    obtain ⟨k, e1, e2⟩ := both hsp him
    exact ⟨k, _, _, e1, e2, Nat.zero_le _, fun r hr => by cases hr⟩
end Go.Proofs.YtplifefnjeledaaDoor.Pure
