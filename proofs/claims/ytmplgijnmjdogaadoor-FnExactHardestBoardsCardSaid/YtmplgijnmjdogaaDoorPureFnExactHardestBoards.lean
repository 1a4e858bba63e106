/- The program's HardestBoards returns what the reference's returns, in memory of its own: for all w and h the law FnExactHardestBoards returns true. -/
import Derived.Test.YtmplgijnmjdogaaDoorLHard
import Derived.Test.YtmplgijnmjdogaaDoorQLawFnExactHardestBoards
import Derived.Test.YtmplgijnmjdogaaDoorVOrc
import Derived.Test.YtmplgijnmjdogaaDoorQx8
import Derived.Test.YtmplgijnmjdogaaDoorQx3
set_option linter.unusedVariables false
set_option linter.unusedSimpArgs false
set_option linter.unusedSectionVars false
namespace Go.Proofs.YtmplgijnmjdogaaDoor.Pure
open Go.RowKit Go.Proofs.YtmplgijnmjdogaaDoor.Q Go.Proofs.YtmplgijnmjdogaaDoorW.PrintWords Go.Proofs.YtmplgijnmjdogaaDoorW.PrintLast Go.Proofs.YtmplgijnmjdogaaDoorV Go.Proofs.YtmplgijnmjdogaaDoorL Go.Proofs.YtmplgijnmjdogaaDoorM
theorem size_ok {a b : Int} (h : (1 ≤ a ∧ a ≤ 3) ∧ (1 ≤ b ∧ b ≤ 3)) : spec_blSize.f a b = some true ∧ impl_isBoardSize.f a b = some true := by
  obtain ⟨⟨h1, h2⟩, h3, h4⟩ := h
  refine ⟨?_, ?_⟩
  · simp only [spec_blSize.f, spec_l1In.f]
    simp [h1, h2, h3, h4]
  · simp only [impl_isBoardSize.f, impl_within.f]
    simp [h1, h2, h3, h4]
theorem size_bad {a b : Int} (h : ¬ ((1 ≤ a ∧ a ≤ 3) ∧ (1 ≤ b ∧ b ≤ 3))) : spec_blSize.f a b = some false ∧ impl_isBoardSize.f a b = some false := by
  refine ⟨?_, ?_⟩
  · simp only [spec_blSize.f, spec_l1In.f]
    by_cases x1 : a ≥ 1
    · by_cases x2 : a ≤ 3
      · by_cases x3 : b ≥ 1
        · have x4 : ¬ b ≤ 3 := by omega
          simp [x1, x2, x3, x4]
        · simp [x1, x2, x3]
      · simp [x1, x2]
    · simp [x1]
  · simp only [impl_isBoardSize.f, impl_within.f]
    by_cases x1 : 1 ≤ a
    · by_cases x2 : a ≤ 3
      · by_cases x3 : 1 ≤ b
        · have x4 : ¬ b ≤ 3 := by omega
          simp [x1, x2, x3, x4]
        · simp [x1, x2, x3]
      · simp [x1, x2]
    · simp [x1]
/-- Nothing is listed. -/
theorem none_listed (a b : Int) (ib : Bool) (hs : spec_blSize.f a b = some ib) (hi : impl_isBoardSize.f a b = some ib) (h6 : ib = true → wrap64 (a * b) > 6) :
    ∃ (r : Int) (g : List Bd) (bb : Bool), g.length ≤ 1000 ∧ (∀ x ∈ g, x.f1.length ≤ 36) ∧
      (∀ W, Calls Tryd.prog 10 #[.int .i64 a, .int .i64 b] W fun e w' => ∃ v0_ : Value, e = .returned (.tuple #[.int .i64 r, v0_, .bool bb]) ∧ Kd.V KB 28 w' 0 (fun _ => True) v0_ g ∧ Below W.heap.size W w') ∧
      (∀ W, Calls Tryd.prog 11 #[.int .i64 a, .int .i64 b] W fun e w' => ∃ v0_ : Value, e = .returned (.tuple #[.int .i64 r, v0_, .bool bb]) ∧ Kd.S KB 28 w' W.heap.size (fun _ => True) v0_ g ∧ Below W.heap.size W w') := by
  refine ⟨0, [], false, Nat.zero_le _, fun x hx => (by cases hx), fun W => ?_, fun W => ?_⟩
  · refine (HS.hardS_no a b W ib h6 (fun W => (spec_blSize.calls a b ib W hs).mono fun e w' hh => ⟨hh.1, hh.2.below⟩)).mono ?_
    rintro e w' ⟨rfl, hb⟩
    exact ⟨_, rfl, Kd.V_nil _ _ _ _ _, hb⟩
  · refine (SO.hard_no a b W ib h6 (fun W => (impl_isBoardSize.calls a b ib W hi).mono fun e w' hh => ⟨hh.1, hh.2.below⟩)).mono ?_
    rintro e w' ⟨rfl, hb⟩
    exact ⟨_, rfl, Kd.S_nil _ _ _ _ _, hb⟩
section
variable {W H : Nat} (hW0 : 0 < W) (hW : W < 4) (hH0 : 0 < H) (hH : H < 4) (h6 : W * H ≤ 6)
include hW0 hW hH0 hH h6
theorem all_calls (w : World) : Calls Tryd.prog 18 #[.int .i64 (W : Int), .int .i64 (H : Int)] w fun e w' => ∃ VL VR rs, e = .returned VL ∧ BA.St (W : Int) w.heap.size w w' VL VR ((skS W H).map sn) rs := by
  have hg := solved_nd hW0 hW hH0 hH h6
  obtain ⟨K1, h1⟩ := solved_ev hW0 hW hH0 hH h6
  obtain ⟨K2, h2⟩ := rk_ev hW0 hW hH0 hH h6 hg
  obtain ⟨K3, h3⟩ := sloop hW0 hW hH0 hH h6 262145 0 [(solvedL (W * H), [])] (by omega) (SK.inv_start _ _ _ hg) ⟨fun e he => by obtain rfl := List.mem_singleton.1 he; exact hg, fun e he => by obtain rfl := List.mem_singleton.1 he; exact Nat.zero_le _⟩ 0
  have e1 := h1 (max K1 (max K2 K3)) (by omega)
  have e2 := h2 (max K1 (max K2 K3)) (by omega)
  have e3 := h3 (max K1 (max K2 K3)) (by omega)
  generalize max K1 (max K2 K3) = k at e1 e2 e3
  have hl : (skS W H).length ≤ 262144 := sk_len hW0 hW hH0 hH h6 hg
  exact BA.all_calls (W : Int) (H : Int) (W : Int) (solvedL (W * H)) (spec_blAll.F k (W : Int)) (spec_blAll.con k (W : Int)) (fun W2 => spec_blSolved.calls k (W : Int) (H : Int) (W : Int) (solvedL (W * H)) W2 e1) k _ e2 w _ e3 (by rw [List.length_map]; omega)
theorem listed (hx : wrap64 ((W : Int) * (H : Int)) = ((W * H : Nat) : Int)) :
    ∃ (r : Int) (g : List Bd) (bb : Bool), g.length ≤ 1000 ∧ (∀ x ∈ g, x.f1.length ≤ 36) ∧
      (∀ w, Calls Tryd.prog 10 #[.int .i64 (W : Int), .int .i64 (H : Int)] w fun e w' => ∃ v0_ : Value, e = .returned (.tuple #[.int .i64 r, v0_, .bool bb]) ∧ Kd.V KB 28 w' 0 (fun _ => True) v0_ g ∧ Below w.heap.size w w') ∧
      (∀ w, Calls Tryd.prog 11 #[.int .i64 (W : Int), .int .i64 (H : Int)] w fun e w' => ∃ v0_ : Value, e = .returned (.tuple #[.int .i64 r, v0_, .bool bb]) ∧ Kd.S KB 28 w' w.heap.size (fun _ => True) v0_ g ∧ Below w.heap.size w w') := by
  have hg := solved_nd hW0 hW hH0 hH h6
  have hF := skS_full hW0 hW hH0 hH h6
  have hp := skS_pos hW0 hW hH0 hH h6
  have hl : (skS W H).length ≤ 262144 := sk_len hW0 hW hH0 hH h6 hg
  obtain ⟨e0, h0⟩ : ∃ e0, (skS W H)[(skS W H).length - 1]? = some e0 := ⟨_, List.getElem?_eq_getElem (by omega)⟩
  obtain ⟨sz1, sz2⟩ := size_ok (a := (W : Int)) (b := (H : Int)) ⟨⟨by omega, by omega⟩, by omega, by omega⟩
  obtain ⟨hG1, hG2⟩ := spec_far hW0 hW hH0 hH h6 h0
  obtain ⟨G, hGe⟩ : ∃ G, HS.hardL (fun l => rk9 l 0) (e0.2.length : Int) ((skS W H).map sn) [] = G := ⟨_, rfl⟩
  rw [hGe] at hG1 hG2
  have hnot : ¬ wrap64 ((W : Int) * (H : Int)) > 6 := by rw [hx]; omega
  have hN := farS_nd hW0 hW hH0 hH h6 e0.2.length
  refine ⟨(e0.2.length : Int), G.map (fun l => ⟨(W : Int), l⟩), true, ?_, ?_, fun w => ?_, fun w => ?_⟩
  · rw [List.length_map, hG1.length_eq]
    have := nd_720 hW0 hW hH0 hH h6 _ hN.1 hN.2
    omega
  · intro x hx
    obtain ⟨l, hl, rfl⟩ := List.mem_map.1 hx
    have := (hN.2 l (hG1.subset hl)).1
    show l.length ≤ 36
    omega
  · refine (HS.hardS_yes (W : Int) (H : Int) (W : Int) w ((skS W H).map sn) (sn e0) (fun l => rk9 l 0) hnot (fun W2 => (spec_blSize.calls _ _ true W2 sz1).mono fun e w' hh => ⟨hh.1, hh.2.below⟩) (fun W2 => all_calls hW0 hW hH0 hH h6 W2) (fun l A c W2 hm hC hle => ?_) (by rw [List.length_map, List.getElem?_map, h0]; rfl) (by rw [List.length_map]; omega)).mono ?_
    · rw [List.map_map] at hm
      obtain ⟨e, he, rfl⟩ := List.mem_map.1 hm
      obtain ⟨k, hk⟩ := (rank_ev (W : Int) e.1 (by rw [(hF.ok e he).1]; exact h6) (nd9 hW0 hW hH0 hH h6 (hF.ok e he))).rounds
      exact spec_blRank.calls k (W : Int) A c e.1 _ W2 hC hle hk
    · rintro e w' ⟨V, n1, rfl, hn1, hR, hlen, hb⟩
      refine ⟨V, rfl, ?_, hb⟩
      have he : (sn e0).2 = (e0.2.length : Int) := rfl
      rw [he, hGe] at hR hlen
      exact hR.toV KB (fun l => (⟨(W : Int), l⟩ : Bd)) rfl (fun _ _ => rfl) (fun W2 x A c hle hC => k28_mk W2 ⟨(W : Int), x⟩ hle hC) (fun _ _ => trivial) (fun _ _ => trivial) hlen _ _
  · obtain ⟨ks, hks⟩ := (solvedI_ev hW0 hW hH0 hH h6).rounds
    obtain ⟨kr, hkr⟩ := (srch_ev hW0 hW hH0 hH h6 hg).rounds
    have hres : ((skS W H).map (ie W)).length ≤ 1000000 := by rw [List.length_map]; omega
    have hND : ∀ e ∈ (skS W H).map (ie W), Nd W H e.1 := fun e he => by
      obtain ⟨e', he', rfl⟩ := List.mem_map.1 he
      exact hF.ok e' he'
    refine (SO.hard_yes (W : Int) (H : Int) (W : Int) w (solvedL (W * H)) ((skS W H).map (ie W)) (ie W e0) (W * H) (fun l => rk9 l 0) cmpL hnot (fun W2 => (impl_isBoardSize.calls _ _ true W2 sz2).mono fun e w' hh => ⟨hh.1, hh.2.below⟩)
      (fun W2 => impl_solved.calls ks _ _ _ _ W2 hks) (fun nb A c W2 hnb hR => ?_) (by rw [List.length_map, List.getElem?_map, h0]; rfl) hres (Nat.mul_pos hW0 hH0) (fun e he => (hND e he).1) ?_ (fun e he e2 he2 => ?_) (fun e he e2 he2 => ?_)).mono ?_
    · obtain ⟨_, hle, hC⟩ := Kd.R_reads' hR
      exact SE.search_calls (some nb) (W : Int) (mvk W kr) (txk W kr) (fun l d r1 r2 r3 A c W3 hC hc h => impl_Board_moved.calls kr (W : Int) A c l d r1 r2 r3 W3 hC hc h) (fun l t A c W3 hC hc h => impl_boardText.calls kr (W : Int) A c l t W3 hC hc h) kr A c _ W2 hC hle (fun nb' h => by cases h; exact hnb) hR _ hkr hres
    · rw [List.map_map]
      exact hF.nodup
    · intro A A2 c c2 W2 hC hle hC2 hle2
      have l1 := (hND e he).1
      have l2 := (hND e2 he2).1
      obtain ⟨kc, hkc⟩ := (cmp_ev e.1 e2.1 (by omega) (by omega)).rounds
      exact slices_Compare_int_int.calls kc A c e.1 A2 c2 e2.1 _ W2 hC hle hC2 hle2 hkc
    · have := cmp_rk e.1 e2.1 0 0 (by rw [(hND e he).1, (hND e2 he2).1]) (nd9 hW0 hW hH0 hH h6 (hND e he)) (nd9 hW0 hW hH0 hH h6 (hND e2 he2))
      rw [this]
      omega
    · rintro e w' ⟨V, L, rfl, hL1, hL2, hS, hb⟩
      rw [impl_far hW0 hW hH0 hH h6] at hL1
      have eL := same_far hW0 hW hH0 hH h6 hL1 hG1 hL2 hG2
      subst eL
      refine ⟨V, ?_, hS, hb⟩
      show Ending.returned (.tuple #[.int .i64 (((wbs e0.2).size : Nat) : Int), V, .bool true]) = _
      rw [wbs_size hW0 hW hH0 hH h6]
end
theorem FnExactHardestBoards : laws_FnExactHardestBoards.Pure := by
  intro a b _ _
  by_cases h : (1 ≤ a ∧ a ≤ 3) ∧ (1 ≤ b ∧ b ≤ 3)
  · obtain ⟨s1, s2⟩ := size_ok h
    obtain ⟨W, rfl⟩ : ∃ W : Nat, a = (W : Int) := ⟨a.toNat, by omega⟩
    obtain ⟨H, rfl⟩ : ∃ H : Nat, b = (H : Int) := ⟨b.toNat, by omega⟩
    have hW : W < 4 := by omega
    have hH : H < 4 := by omega
    have hb : W * H ≤ 9 := Nat.mul_le_mul (by omega : W ≤ 3) (by omega : H ≤ 3)
    have hx : wrap64 ((W : Int) * (H : Int)) = ((W * H : Nat) : Int) := by
      rw [← Int.natCast_mul]
      exact wb (by omega) rfl
    by_cases h6 : W * H ≤ 6
    · exact listed (by omega) hW (by omega) hH h6 hx
    · exact none_listed _ _ true s1 s2 (fun _ => by rw [hx]; omega)
  · obtain ⟨s1, s2⟩ := size_bad h
    exact none_listed _ _ false s1 s2 (fun h => by cases h)
end Go.Proofs.YtmplgijnmjdogaaDoor.Pure
