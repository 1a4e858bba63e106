/- The functions that the laws of this seat reach, each with its contract (written by this repo's wip/oprint). -/
import Derived.Test.YtmplgijnmjdogaaDoorQx0
namespace Go.Proofs.YtmplgijnmjdogaaDoor.Q
open Go.Proofs.YtmplgijnmjdogaaDoorV
open Go.RowKit Go.Proofs.YtmplgijnmjdogaaDoorW.PrintWords Go.Proofs.YtmplgijnmjdogaaDoorW.PrintLast Go.Proofs.YtmplgijnmjdogaaDoorW.PrintMore
attribute [local go_sem] max2_int min2_int max_two min_two max_three min_three max_four min_four   -- for this text's walks alone
set_option linter.unusedVariables false
set_option linter.unusedSimpArgs false

/-! ### slices_Clone_int_int: function 64 -/
def slices_Clone_int_int.f (l0 : List Int) : Option (List Int) := if l0.length ≤ 17592186044416 then (some l0) else (none)
theorem slices_Clone_int_int.reads {w : World} {ad : Addr} {l0 : List Int} (hr0 : Kd.C (Kd.int .i64) w (some ad) l0.length l0) : ∀ (j : Nat) (u : Value), (l0.map (Value.int .i64))[j]? = some u → w.cell? (ad.add j) = some u := by
  intro j u hj
  rw [List.getElem?_map] at hj
  obtain ⟨x, hx, rfl⟩ := Option.map_eq_some_iff.1 hj
  have hpos : 0 < l0.length := by have := (List.getElem?_eq_some_iff.1 hx).1; omega
  obtain ⟨ad', hA, hcell⟩ := hr0.2.2 hpos
  injection hA with hA
  subst hA
  obtain ⟨c, hl, hk, hcc⟩ := hcell j x hx
  have hk' : c = [Value.int .i64 x] := hk
  subst hk'
  have hz := hcc 0 (.int .i64 x) rfl
  have e1 : j * (Kd.int .i64).sz + 0 = j := by show j * 1 + 0 = j; omega
  rw [e1] at hz
  exact hz
set_option maxHeartbeats 2000000 in
set_option maxRecDepth 100000 in
theorem slices_Clone_int_int.calls (A0 : Option Addr) (c0 : Nat) (l0 : List Int) (r : List Int) (w : World) (hr0 : Kd.C (Kd.int .i64) w A0 l0.length l0) (hc0 : l0.length ≤ c0) (h : slices_Clone_int_int.f l0 = some r) :
    Calls Tryd.prog 64 #[.slice A0 l0.length c0] w fun e w' => ∃ v0_ : Value, e = .returned (v0_) ∧ Kd.R (Kd.int .i64) 3 w' w.heap.size (fun _ => True) v0_ r ∧ Below w.heap.size w w' := by
  unfold slices_Clone_int_int.f at h
  by_cases h1 : l0.length ≤ 17592186044416
  · rw [if_pos h1] at h
    obtain rfl := Option.some.inj h
    have q46 : ∀ (w : World) (a : Option Addr) (n c n' c' : Nat), (binOp .eql 22 (.slice a n c) (.slice none n' c')).run Tryd.prog w = .ok (.bool a.isNone) w := fun w a n c n' c' => Lib.run_eql_slice_nil w _ _ a n c n' c' Tryd.underlying22
    cases A0 with
    | none =>
      have hn : l0 = [] := by
        cases l0 with
        | nil => rfl
        | cons x l => obtain ⟨ad, hA, _⟩ := hr0.2.2 (Nat.succ_pos _); cases hA
      subst hn
      go_enter Tryd.func64, Tryd.ntmps64
      go_wp2
      go_ret
      exact ⟨_, rfl, Kd.R_nil _ _ _ _ _, Below.refl _ _⟩
    | some ad =>
      have HR := Aside0.mk (slices_Clone_int_int.reads hr0)
      clear hr0
      obtain ⟨i0, hi, hz0, hz1, hz2⟩ := info_parts info3
      go_enter Tryd.func64, Tryd.ntmps64
      go_wp2_with (at_builtin; refine wpList_append_own _ rfl _ _ 22 rfl w.heap.size 3 i0 (.int .i64 0) 1 8 Tryd.underlying22 hi hz0 hz1 hz2 rfl (by decide) _ _ _ rfl (World.ownsRow_made w #[] 0 (Nat.le_refl _) (Nat.zero_le _) rfl) ad l0.length c0 (l0.map (Value.int .i64)) rfl (by simp) (fun j u hj => Lib.cell?_alloc_some _ (HR.out j u hj)) (fun u hu => by obtain ⟨x, _, rfl⟩ := List.mem_map.1 hu; rfl) (by unfold maxLen; omega) (by omega) (by simp) ?_; intro v' w1 hown hgrow hnil)
      try go_wp2
      go_ret
      refine ⟨v', rfl, Kd.R_of_own (by simpa [encs] using hown) (fun _ _ => trivial), ?_⟩
      exact ((Below.refl _ w).alloc (Nat.le_refl _) _).grown hgrow (by simp) (by intro k hk; have hk' : some w.heap.size = some k := hk; cases hk'; exact Nat.le_refl _)
  · rw [if_neg h1] at h
    cases h


end Go.Proofs.YtmplgijnmjdogaaDoor.Q
