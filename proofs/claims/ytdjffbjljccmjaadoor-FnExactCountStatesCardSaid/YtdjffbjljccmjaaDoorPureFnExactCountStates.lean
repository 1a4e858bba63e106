/- The program's CountStates returns what the reference's returns: for all arguments the law FnExactCountStates returns true. -/
import Derived.Test.YtdjffbjljccmjaaDoorLWm
import Derived.Test.YtdjffbjljccmjaaDoorQx3
import Derived.Test.YtdjffbjljccmjaaDoorQx9
import Derived.Test.YtdjffbjljccmjaaDoorQx10
set_option linter.unusedVariables false
set_option linter.unusedSimpArgs false
namespace Go.Proofs.YtdjffbjljccmjaaDoor.Pure
open Go.RowKit Go.Proofs.YtdjffbjljccmjaaDoor.Q Go.Proofs.YtdjffbjljccmjaaDoorW.PrintWords Go.Proofs.YtdjffbjljccmjaaDoorW.PrintLast Go.Proofs.YtdjffbjljccmjaaDoorM Go.Proofs.YtdjffbjljccmjaaDoorL

def ball (c : Int) : Bool := decide (c = 111) || (decide (97 ≤ c) && decide (c ≤ 102))
theorem tyBall_eq (c : Int) : spec_tyBall.f c = some (ball c) := by
  unfold ball
  rw [spec_tyBall.f]
  by_cases h : c = 111
  · rw [if_pos h, decide_eq_true h]; rfl
  · rw [if_neg h, decide_eq_false h, Bool.false_or]
    by_cases h2 : c ≥ 97
    · rw [if_pos h2, decide_eq_true h2]; rfl
    · rw [if_neg h2, decide_eq_false h2]; rfl
def idx (p : Int → Bool) : List Int → Nat → List Int
  | [], _ => []
  | c :: l, i => if p c = true then (i : Int) :: idx p l (i + 1) else idx p l (i + 1)
theorem idx_len (p : Int → Bool) : ∀ (l : List Int) (i : Nat), (idx p l i).length = l.countP p
  | [], _ => rfl
  | c :: l, i => by
    rw [idx, List.countP_cons]
    by_cases h : p c = true
    · rw [if_pos h, if_pos h, List.length_cons, idx_len p l (i + 1)]
    · rw [if_neg h, if_neg h, idx_len p l (i + 1), Nat.add_zero]
theorem spec_loop (cs : List Int) (hl : cs.length < 1000) : ∀ (d i : Nat) (acc : List Int), cs.length - i = d → i ≤ cs.length → acc.length ≤ i →
    Ev (fun k => spec_tyBalls.l0 k acc cs (cs.length : Int) (i : Int)) (acc ++ idx ball (cs.drop i) i) := by
  intro d
  induction d with
  | zero =>
    intro i acc hd hi ha
    have g : ¬ ((i : Int) < (cs.length : Int)) := by omega
    have e : i = cs.length := by omega
    subst e
    rw [List.drop_length, idx, List.append_nil]
    exact Ev.step (f := fun _ => some acc) (fun k => by rw [spec_tyBalls.l0, if_neg g]) (Ev.now _)
  | succ d ih =>
    intro i acc hd hi ha
    have hlt : i < cs.length := by omega
    have g : (i : Int) < (cs.length : Int) := by omega
    have g0 : (0 : Int) ≤ (i : Int) := by omega
    have b : i + 1 < 1000000 := by omega
    have g1 : acc.length < 17592186044416 := by omega
    have g2 : acc.length ≤ i + 1 := by omega
    have g3 : (acc ++ [(i : Int)]).length ≤ i + 1 := by rw [List.length_append, List.length_singleton]; omega
    have h1 := ih (i + 1) acc (by omega) (by omega) g2
    have h2 := ih (i + 1) (acc ++ [(i : Int)]) (by omega) (by omega) g3
    have e : wrap64 ((i : Int) + 1) = ((i + 1 : Nat) : Int) := wm b rfl
    rw [List.drop_eq_getElem_cons hlt, idx]
    by_cases hb : ball cs[i] = true
    · rw [if_pos hb]
      rw [List.append_assoc] at h2
      exact Ev.step (fun k => by rw [spec_tyBalls.l0, if_pos g, if_pos g0, if_pos g, rd_in hlt, tyBall_eq, Option.bind_some, if_pos hb, if_pos g1, e]) h2
    · rw [if_neg hb]
      exact Ev.step (fun k => by rw [spec_tyBalls.l0, if_pos g, if_pos g0, if_pos g, rd_in hlt, tyBall_eq, Option.bind_some, if_neg hb, e]) h1
theorem impl_loop (cs : List Int) (hl : cs.length < 1000) : ∀ (d i : Nat) (acc : List Int), cs.length - i = d → i ≤ cs.length → acc.length ≤ i →
    Ev (fun k => impl_tray_indices_at_impl_isOpen.l0 k acc cs (cs.length : Int) (i : Int)) (acc ++ idx (· != 35) (cs.drop i) i) := by
  intro d
  induction d with
  | zero =>
    intro i acc hd hi ha
    have g : ¬ ((i : Int) < (cs.length : Int)) := by omega
    have e : i = cs.length := by omega
    subst e
    rw [List.drop_length, idx, List.append_nil]
    exact Ev.step (f := fun _ => some acc) (fun k => by rw [impl_tray_indices_at_impl_isOpen.l0, if_neg g]) (Ev.now _)
  | succ d ih =>
    intro i acc hd hi ha
    have hlt : i < cs.length := by omega
    have g : (i : Int) < (cs.length : Int) := by omega
    have g0 : (0 : Int) ≤ (i : Int) := by omega
    have b : i + 1 < 1000000 := by omega
    have g1 : acc.length < 17592186044416 := by omega
    have g2 : acc.length ≤ i + 1 := by omega
    have g3 : (acc ++ [(i : Int)]).length ≤ i + 1 := by rw [List.length_append, List.length_singleton]; omega
    have h1 := ih (i + 1) acc (by omega) (by omega) g2
    have h2 := ih (i + 1) (acc ++ [(i : Int)]) (by omega) (by omega) g3
    have e : wrap64 ((i : Int) + 1) = ((i + 1 : Nat) : Int) := wm b rfl
    rw [List.drop_eq_getElem_cons hlt, idx]
    by_cases hb : (cs[i] != 35) = true
    · rw [if_pos hb]
      rw [List.append_assoc] at h2
      exact Ev.step (fun k => by rw [impl_tray_indices_at_impl_isOpen.l0, if_pos g, if_pos g0, if_pos g, rd_in hlt, impl_isOpen.f, Option.bind_some, if_pos hb, if_pos g1, e]) h2
    · rw [if_neg hb]
      exact Ev.step (fun k => by rw [impl_tray_indices_at_impl_isOpen.l0, if_pos g, if_pos g0, if_pos g, rd_in hlt, impl_isOpen.f, Option.bind_some, if_neg hb, e]) h1
theorem bare_loop (w h : Int) (cs : List Int) (hl : cs.length < 1000) : ∀ (d i : Nat), cs.length - i = d → i ≤ cs.length →
    Ev (fun k => spec_cnBare.l0 k (((cs.take i).count 46 : Nat) : Int) cs (cs.length : Int) (i : Int) w h cs) (w, h, cs, ((cs.count 46 : Nat) : Int), true) := by
  intro d
  induction d with
  | zero =>
    intro i hd hi
    have g : ¬ ((i : Int) < (cs.length : Int)) := by omega
    have e : i = cs.length := by omega
    subst e
    rw [List.take_length]
    exact Ev.step (f := fun _ => some (w, h, cs, ((cs.count 46 : Nat) : Int), true)) (fun k => by rw [spec_cnBare.l0, if_neg g]) (Ev.now _)
  | succ d ih =>
    intro i hd hi
    have hlt : i < cs.length := by omega
    have g : (i : Int) < (cs.length : Int) := by omega
    have g0 : (0 : Int) ≤ (i : Int) := by omega
    have b : i + 1 < 1000000 := by omega
    have h1 := ih (i + 1) (by omega) (by omega)
    have hc : (cs.take i).count 46 ≤ i := Nat.le_trans List.count_le_length (by rw [List.length_take]; omega)
    have b2 : (cs.take i).count 46 + 1 < 1000000 := by omega
    rw [List.take_succ_eq_append_getElem hlt, List.count_append, List.count_singleton] at h1
    have e : wrap64 ((i : Int) + 1) = ((i + 1 : Nat) : Int) := wm b rfl
    have e2 : wrap64 ((((cs.take i).count 46 : Nat) : Int) + 1) = (((cs.take i).count 46 + 1 : Nat) : Int) := wm b2 rfl
    by_cases hb : cs[i] = 46
    · rw [if_pos (by simp [hb])] at h1
      exact Ev.step (fun k => by rw [spec_cnBare.l0, if_pos g, if_pos g0, if_pos g, rd_in hlt, if_pos hb, e2, e]) h1
    · rw [if_neg (by simp [hb]), Nat.add_zero] at h1
      exact Ev.step (fun k => by rw [spec_cnBare.l0, if_pos g, if_pos g0, if_pos g, rd_in hlt, if_neg hb, e]) h1
/-- Is there no ball? -/
def bare (t : ByteArray) : Bool := (B t).all fun c => !ball (c.toNat : Int)
where B (t : ByteArray) : List UInt8 := (rowsOf t).flatten
theorem countP_none {p : Int → Bool} {l : List UInt8} : ((ints l).countP p = 0) ↔ (l.all fun c => !p (c.toNat : Int)) = true := by
  rw [List.countP_eq_zero, List.all_eq_true]
  constructor
  · intro h c hc
    have := h (c.toNat : Int) (List.mem_map.2 ⟨c, hc, rfl⟩)
    simpa using this
  · intro h a ha
    obtain ⟨c, hc, rfl⟩ := List.mem_map.1 ha
    have := h c hc
    simpa using this
theorem splitC_all (p : UInt8 → Bool) (h : p 47 = true) : ∀ l, (splitC 47 l).flatten.all p = l.all p := by
  intro l
  induction l with
  | nil => rfl
  | cons b l ih =>
    obtain ⟨r, rs, e⟩ := splitC_form 47 l
    by_cases hb : b = 47
    · subst hb
      rw [splitC_at, List.flatten_cons, List.nil_append, ih, List.all_cons, h, Bool.true_and]
    · rw [splitC_ne hb e, List.flatten_cons, List.cons_append, List.all_cons, List.all_cons, ← ih, e, List.flatten_cons]
theorem okc_bare : ∀ c : UInt8, okc c = true → ([35, 46, 47] : List UInt8).contains c = !ball (c.toNat : Int) := by
  have h : ∀ k : Fin 256, okc (UInt8.ofNat k.val) = true → ([35, 46, 47] : List UInt8).contains (UInt8.ofNat k.val) = !ball (((UInt8.ofNat k.val).toNat : Nat) : Int) := by decide +kernel
  intro c hc
  have := h ⟨c.toNat, c.toNat_lt⟩ (by simpa using hc)
  simpa using this
theorem okc_open : ∀ c : UInt8, okc c = true → ball (c.toNat : Int) = false → ((c.toNat : Int) != 35) = ((c.toNat : Int) == 46) := by
  have h : ∀ k : Fin 256, okc (UInt8.ofNat k.val) = true → ball (((UInt8.ofNat k.val).toNat : Nat) : Int) = false → ((((UInt8.ofNat k.val).toNat : Nat) : Int) != 35) = ((((UInt8.ofNat k.val).toNat : Nat) : Int) == 46) := by decide +kernel
  intro c hc hb
  have := h ⟨c.toNat, c.toNat_lt⟩ (by simpa using hc) (by simpa using hb)
  simpa using this
theorem good_okc {t : ByteArray} (h : good t = true) : ∀ c ∈ (rowsOf t).flatten, okc c = true := by
  obtain ⟨r, rs, e⟩ := rows_form t
  have hs : shaped (r :: rs) = true := by
    unfold good at h
    rw [e] at h
    simp only [Bool.and_eq_true] at h
    exact h.1
  obtain ⟨_, _, h5⟩ := shaped_iff.1 hs
  intro c hc
  rw [e] at hc
  obtain ⟨q, hq, hcq⟩ := List.mem_flatten.1 hc
  exact List.all_eq_true.1 (h5 q hq).1 c hcq
theorem all_cut {t : ByteArray} (h : good t = true) : t.data.toList.all (([35, 46, 47] : List UInt8).contains ·) = bare t := by
  rw [← splitC_all _ (by decide)]
  show ((rowsOf t).flatten).all _ = ((rowsOf t).flatten).all _
  rw [Bool.eq_iff_iff, List.all_eq_true, List.all_eq_true]
  constructor
  · intro hh c hc
    rw [← okc_bare c (good_okc h c hc)]
    exact hh c hc
  · intro hh c hc
    rw [okc_bare c (good_okc h c hc)]
    exact hh c hc
theorem open_count {t : ByteArray} (h : good t = true) (hb : bare t = true) : (CS t).countP (· != 35) = (CS t).count 46 := by
  show (ints (rowsOf t).flatten).countP _ = (ints (rowsOf t).flatten).countP (· == 46)
  apply List.countP_congr
  intro a ha
  obtain ⟨c, hc, rfl⟩ := List.mem_map.1 ha
  have h1 : (!ball (c.toNat : Int)) = true := List.all_eq_true.1 hb c hc
  rw [okc_open c (good_okc h c hc) (by simpa using h1)]
theorem emptied_eq (t : ByteArray) (ht : t.size ≤ 1048576) : Ev (fun k => impl_isEmptied.f k t) (good t && (good t && bare t)) := by
  have hi := isTray_eq t ht
  refine Ev.congr (fun k => rfl) (Ev.bind hi ?_)
  cases hg : good t with
  | false => exact Ev.now _
  | true =>
    refine ⟨0, fun k _ => ?_⟩
    show (strings_Trim.f t (⟨#[35, 46, 47]⟩ : ByteArray)).bind _ = _
    rw [strings_Trim.f, if_pos (by omega), if_pos (by decide), if_pos (by decide), Option.bind_some]
    rw [Lib.toList_data]
    show some ((Lib.trimS t.data.toList [35, 46, 47]) == []) = _
    have e : ((Lib.trimS t.data.toList [35, 46, 47]) == []) = t.data.toList.all (([35, 46, 47] : List UInt8).contains ·) := by
      rw [Bool.eq_iff_iff, beq_iff_eq, trimS_nil]
    rw [e, all_cut hg]
    rfl
theorem bare_eq (t : ByteArray) : ∃ R : Int × Int × List Int × Int × Bool, Ev (fun k => spec_cnBare.f k t) R ∧ R.2.2.2.2 = (good t && bare t) ∧ (good t = true → bare t = true → R.2.2.2.1 = (((CS t).count 46 : Nat) : Int)) := by
  have hr := tyRead_eq t
  by_cases hg : good t = true
  · rw [if_pos hg] at hr
    obtain ⟨f1, f2, f3, f4, f5, f6, f7⟩ := good_facts hg
    have hl : (CS t).length < 1000 := by omega
    have S := spec_loop (CS t) hl (CS t).length 0 [] rfl (Nat.zero_le _) (Nat.zero_le _)
    rw [List.drop_zero, List.nil_append] at S
    by_cases hb : bare t = true
    · have hz : (idx ball (CS t) 0).length = 0 := by
        rw [idx_len]
        exact countP_none.2 hb
      have Bl := bare_loop (W t : Int) (H t : Int) (CS t) hl (CS t).length 0 rfl (Nat.zero_le _)
      refine ⟨((W t : Int), (H t : Int), CS t, (((CS t).count 46 : Nat) : Int), true), Ev.congr (fun k => rfl) (Ev.bind hr ?_), by rw [hg, hb]; rfl, fun _ _ => rfl⟩
      refine Ev.congr (f := fun k => (spec_tyBalls.f k (W t : Int) (H t : Int) (CS t)).bind fun t598 => (spec_cnBare.j0 k (decide ((t598.length : Int) > 0)) (W t : Int) (H t : Int) (CS t))) (g := _) (r := _) (fun k => if_pos rfl) (Ev.bind (a := idx ball (CS t) 0) S ?_)
      refine Ev.step (f := fun k => spec_cnBare.l0 k (((CS t).take 0).count 46 : Nat) (CS t) ((CS t).length : Int) ((0 : Nat) : Int) (W t : Int) (H t : Int) (CS t)) (fun k => ?_) Bl
      rw [hz, spec_cnBare.j0]
      rfl
    · have hz : 0 < (idx ball (CS t) 0).length := by
        rw [idx_len]
        exact Nat.pos_of_ne_zero fun h => hb (countP_none.1 h)
      refine ⟨((W t : Int), (H t : Int), CS t, 0, false), Ev.congr (fun k => rfl) (Ev.bind hr ?_), by rw [hg, Bool.eq_false_iff.2 hb]; rfl, fun _ h => absurd h hb⟩
      refine Ev.congr (f := fun k => (spec_tyBalls.f k (W t : Int) (H t : Int) (CS t)).bind fun t598 => (spec_cnBare.j0 k (decide ((t598.length : Int) > 0)) (W t : Int) (H t : Int) (CS t))) (g := _) (r := _) (fun k => if_pos rfl) (Ev.bind (a := idx ball (CS t) 0) S ?_)
      have hd : decide (((idx ball (CS t) 0).length : Int) > 0) = true := decide_eq_true (by omega)
      refine Ev.step (f := fun _ => some ((W t : Int), (H t : Int), CS t, 0, false)) (fun k => ?_) (Ev.now _)
      rw [hd, spec_cnBare.j0, if_pos rfl]
  · rw [if_neg hg] at hr
    refine ⟨(0, 0, [], 0, false), Ev.congr (fun k => rfl) (Ev.bind hr ?_), by rw [Bool.eq_false_iff.2 hg]; rfl, fun h => absurd h hg⟩
    refine Ev.step (f := fun _ => some (0, 0, [], 0, false)) (fun k => ?_) (Ev.now _)
    show spec_cnBare.j0 (k + 1) true 0 0 [] = _
    rw [spec_cnBare.j0, if_pos rfl]
theorem choose37 : ∀ i : Fin 37, ∀ j : Fin 37, j.val ≤ i.val → (spec_cnChoose.f 42 (i.val : Int) (j.val : Int)).isSome = true ∧ spec_cnChoose.f 42 (i.val : Int) (j.val : Int) = impl_binomial.f 42 (i.val : Int) (j.val : Int) := by decide +kernel
theorem choose_eq (n m : Nat) (hn : n ≤ 36) (hm : m ≤ n) : ∃ r, Ev (fun k => spec_cnChoose.f k (n : Int) (m : Int)) r ∧ Ev (fun k => impl_binomial.f k (n : Int) (m : Int)) r := by
  obtain ⟨h1, h2⟩ := choose37 ⟨n, by omega⟩ ⟨m, by omega⟩ hm
  simp only at h1 h2
  obtain ⟨r, hr⟩ := Option.isSome_iff_exists.1 h1
  exact ⟨r, Ev.of (spec_cnChoose.mono _ _) hr, Ev.of (impl_binomial.mono _ _) (h2.symm.trans hr)⟩
theorem tell (g f : Nat → Option (Int × Bool)) (r : Int × Bool) (h1 : Ev g r) (h2 : Ev f r) :
    Ev (fun k => (g k).bind fun b1 => (f k).bind fun b2 => (if b2.1 = b1.1 then (if (b2.2 != b1.2) = true then (some false) else (some true)) else (some false))) true := by
  refine Ev.bind h1 (Ev.bind h2 ?_)
  refine ⟨0, fun k _ => ?_⟩
  simp
theorem FnExactCountStates : laws_FnExactCountStates.Pure := by
  intro t m _ _
  by_cases ht : (t.size : Int) > 1048576
  · exact ⟨0, by rw [laws_FnExactCountStates.f, if_pos ht]⟩
  refine Ev.rounds (Ev.congr (fun k => by rw [laws_FnExactCountStates.f, if_neg ht]) ?_)
  have ht' : t.size ≤ 1048576 := by omega
  obtain ⟨R, hR, hR1, hR2⟩ := bare_eq t
  have hE := emptied_eq t ht'
  by_cases hg : good t = true
  · obtain ⟨f1, f2, f3, f4, f5, f6, f7⟩ := good_facts hg
    by_cases hb : bare t = true
    · rw [hg, hb] at hR1 hE
      replace hR1 : R.2.2.2.2 = true := hR1
      replace hE : Ev (fun k => impl_isEmptied.f k t) true := hE
      have hn := hR2 hg hb
      have hl : (CS t).length < 1000 := by omega
      have hlen : (idx (· != 35) (CS t) 0).length = (CS t).count 46 := by rw [idx_len, open_count hg hb]
      have hc36 : (CS t).count 46 ≤ 36 := Nat.le_trans List.count_le_length (by omega)
      have I := impl_loop (CS t) hl (CS t).length 0 [] rfl (Nat.zero_le _) (Nat.zero_le _)
      rw [List.drop_zero, List.nil_append] at I
      have hI2 : Ev (fun k => impl_tray_indices_at_impl_isOpen.f k (W t : Int) (H t : Int) (CS t)) (idx (· != 35) (CS t) 0) := I
      have hrd := read_eq t ht'
      by_cases hm : 0 ≤ m ∧ m ≤ (((CS t).count 46 : Nat) : Int)
      · obtain ⟨j, rfl⟩ := Int.eq_ofNat_of_zero_le hm.1
        obtain ⟨r, c1, c2⟩ := choose_eq ((CS t).count 46) j hc36 (by omega)
        have hin : spec_l1In.f (j : Int) 0 (((CS t).count 46 : Nat) : Int) = some true := by
          rw [spec_l1In.f, if_pos (by omega), decide_eq_true (by omega)]
        have hwi : impl_within.f (j : Int) 0 (((CS t).count 46 : Nat) : Int) = some true := by
          rw [impl_within.f, if_pos (by omega), decide_eq_true (by omega)]
        have hst : Ev (fun k => impl_isStocked.f k t (j : Int)) true := by
          refine Ev.congr (fun k => rfl) (Ev.bind hE ?_)
          refine Ev.congr (f := fun k => (impl_tray_indices_at_impl_isOpen.f k (W t : Int) (H t : Int) (CS t)).bind fun t649 => ((impl_within.f (j : Int) 0 (t649.length : Int)).bind fun t652 => (some t652))) (g := _) (r := true) (fun k => ?_) (Ev.bind hI2 ?_)
          · show ite _ _ _ = _
            rw [if_pos rfl, hrd, Option.bind_some]
          · refine ⟨0, fun k _ => ?_⟩
            show (impl_within.f (j : Int) 0 (((idx (· != 35) (CS t) 0).length : Nat) : Int)).bind _ = _
            rw [hlen, hwi, Option.bind_some]
        refine tell _ _ (r, true) (Ev.congr (fun k => rfl) (Ev.bind hR ?_)) (Ev.congr (fun k => rfl) (Ev.bind hst ?_))
        · refine Ev.congr (f := fun k => (spec_cnChoose.f k (((CS t).count 46 : Nat) : Int) (j : Int)).bind fun x => some (x, true)) (g := _) (r := (r, true)) (fun k => ?_) (Ev.bind c1 (Ev.now _))
          show ite _ _ _ = _
          rw [hR1, hn, if_pos rfl, hin, Option.bind_some, if_pos rfl]
        · refine Ev.congr (f := fun k => (impl_tray_indices_at_impl_isOpen.f k (W t : Int) (H t : Int) (CS t)).bind fun t660 => ((impl_binomial.f k (t660.length : Int) (j : Int)).bind fun t663 => (some (t663, true)))) (g := _) (r := (r, true)) (fun k => ?_) (Ev.bind hI2 ?_)
          · show ite _ _ _ = _
            rw [if_pos rfl, hrd, Option.bind_some]
          · refine Ev.congr (f := fun k => (impl_binomial.f k (((CS t).count 46 : Nat) : Int) (j : Int)).bind fun t663 => (some (t663, true))) (g := _) (r := (r, true)) (fun k => ?_) (Ev.bind c2 (Ev.now _))
            show (impl_binomial.f k (((idx (· != 35) (CS t) 0).length : Nat) : Int) (j : Int)).bind _ = _
            rw [hlen]
      · have hin : spec_l1In.f m 0 (((CS t).count 46 : Nat) : Int) = some false := by
          rw [spec_l1In.f]
          by_cases h0 : m ≥ 0
          · rw [if_pos h0, decide_eq_false (by omega)]
          · rw [if_neg h0]
        have hwi : impl_within.f m 0 (((CS t).count 46 : Nat) : Int) = some false := by
          rw [impl_within.f]
          by_cases h0 : 0 ≤ m
          · rw [if_pos h0, decide_eq_false (by omega)]
          · rw [if_neg h0]
        have hst : Ev (fun k => impl_isStocked.f k t m) false := by
          refine Ev.congr (fun k => rfl) (Ev.bind hE ?_)
          refine Ev.congr (f := fun k => (impl_tray_indices_at_impl_isOpen.f k (W t : Int) (H t : Int) (CS t)).bind fun t649 => ((impl_within.f m 0 (t649.length : Int)).bind fun t652 => (some t652))) (g := _) (r := false) (fun k => ?_) (Ev.bind hI2 ?_)
          · show ite _ _ _ = _
            rw [if_pos rfl, hrd, Option.bind_some]
          · refine ⟨0, fun k _ => ?_⟩
            show (impl_within.f m 0 (((idx (· != 35) (CS t) 0).length : Nat) : Int)).bind _ = _
            rw [hlen, hwi, Option.bind_some]
        refine tell _ _ (0, false) (Ev.congr (fun k => rfl) (Ev.bind hR ?_)) (Ev.congr (fun k => rfl) (Ev.bind hst ?_))
        · refine ⟨0, fun k _ => ?_⟩
          show ite _ _ _ = _
          rw [hR1, hn, if_pos rfl, hin, Option.bind_some]
          rfl
        · exact ⟨0, fun k _ => rfl⟩
    · rw [hg, Bool.eq_false_iff.2 hb] at hR1 hE
      replace hR1 : R.2.2.2.2 = false := hR1
      replace hE : Ev (fun k => impl_isEmptied.f k t) false := hE
      have hst : Ev (fun k => impl_isStocked.f k t m) false := by
        refine Ev.congr (fun k => rfl) (Ev.bind hE ?_)
        exact ⟨0, fun k _ => rfl⟩
      refine tell _ _ (0, false) (Ev.congr (fun k => rfl) (Ev.bind hR ?_)) (Ev.congr (fun k => rfl) (Ev.bind hst ?_))
      · refine ⟨0, fun k _ => ?_⟩
        show ite _ _ _ = _
        rw [hR1]
        rfl
      · exact ⟨0, fun k _ => rfl⟩
  · rw [Bool.eq_false_iff.2 hg] at hR1 hE
    replace hR1 : R.2.2.2.2 = false := hR1
    replace hE : Ev (fun k => impl_isEmptied.f k t) false := hE
    have hst : Ev (fun k => impl_isStocked.f k t m) false := by
      refine Ev.congr (fun k => rfl) (Ev.bind hE ?_)
      exact ⟨0, fun k _ => rfl⟩
    refine tell _ _ (0, false) (Ev.congr (fun k => rfl) (Ev.bind hR ?_)) (Ev.congr (fun k => rfl) (Ev.bind hst ?_))
    · refine ⟨0, fun k _ => ?_⟩
      show ite _ _ _ = _
      rw [hR1]
      rfl
    · exact ⟨0, fun k _ => rfl⟩
end Go.Proofs.YtdjffbjljccmjaaDoor.Pure
