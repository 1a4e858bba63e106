/- The program's IsForm returns what the reference's returns: for all arguments the law FnExactIsForm returns true. -/
import Derived.Test.YtplifefnjeledaaDoorQx22
import Derived.Test.YtplifefnjeledaaDoorLTray
import Derived.Test.YtplifefnjeledaaDoorLFarB
set_option linter.unusedVariables false
set_option linter.unusedSimpArgs false
namespace Go.Proofs.YtplifefnjeledaaDoor.Pure
open Go.RowKit Go.Proofs.YtplifefnjeledaaDoor.Q Go.Proofs.YtplifefnjeledaaDoorW.PrintWords Go.Proofs.YtplifefnjeledaaDoorW.PrintLast Go.Proofs.YtplifefnjeledaaDoorM Go.Proofs.YtplifefnjeledaaDoorV
open Go.Proofs.YtplifefnjeledaaDoorL
theorem size_of {t : ByteArray} (h : good t = true) : Size (W t) (H t) := by
 obtain ⟨f1, f2, f3, f4, f5, f6, f7⟩ := good_facts h
 exact ⟨f1, f2, f3, f4, f5⟩
theorem wm {n : Nat} {z : Int} (h : n < 1000000) (hz : z = (n : Int)) : wrap64 z = (n : Int) := wrapN n h hz
theorem rd_in {l : List Int} {i : Nat} (h : i < l.length) : rd l (i : Int) = l[i] := by
 rw [rd_nat, List.getD_eq_getElem?_getD, List.getElem?_eq_getElem h]
 rfl
def balls : List Int → Nat → List Int
 | [], _ => []
 | c :: l, i => if ballB c = true then (i : Int) :: balls l (i + 1) else balls l (i + 1)
theorem balls_len : ∀ (l : List Int) (i : Nat), (balls l i).length ≤ l.length
 | [], _ => Nat.le_refl _
 | c :: l, i => by
  have := balls_len l (i + 1)
  rw [balls]
  by_cases h : ballB c = true
  ·rw [if_pos h, List.length_cons, List.length_cons]; omega
  ·rw [if_neg h, List.length_cons]; omega
theorem spec_loop (cs : List Int) (hl : cs.length < 1000) : ∀ (d i : Nat) (acc : List Int), cs.length - i = d → i ≤ cs.length → acc.length ≤ i →
  Ev (fun k => spec_tyBalls.l0 k acc cs (cs.length : Int) (i : Int)) (acc ++ balls (cs.drop i) i) := by
 intro d
 induction d with
 | zero =>
  intro i acc hd hi ha
  have g : ¬ ((i : Int) < (cs.length : Int)) := by omega
  have e : i = cs.length := by omega
  subst e
  rw [List.drop_length, balls, List.append_nil]
  exact Ev.step (f := fun _ => some acc) (fun k => by rw [spec_tyBalls.l0, if_neg g]) (Ev.now _)
 | succ d ih =>
  intro i acc hd hi ha
  have hlt : i < cs.length := by omega
  have g : (i : Int) < (cs.length : Int) := by omega
  have g0 : (0 : Int) ≤ (i : Int) := by omega
  have b : i + 1 < 1000000 := by omega
  have g1 : acc.length < 17592186044416 := by omega
  have g2 : acc.length ≤ i + 1 := by omega
  have g3 : (acc ++ [(i : Int)]).length ≤ i + 1 := by rw [List.length_append, List.length_singleton]; omega
  have h1 := ih (i + 1) acc (by omega) (by omega) g2
  have h2 := ih (i + 1) (acc ++ [(i : Int)]) (by omega) (by omega) g3
  have e : wrap64 ((i : Int) + 1) = ((i + 1 : Nat) : Int) := wm b rfl
  rw [List.drop_eq_getElem_cons hlt, balls]
  by_cases hb : ballB cs[i] = true
  ·rw [if_pos hb]
   rw [List.append_assoc] at h2
   exact Ev.step (fun k => by rw [spec_tyBalls.l0, if_pos g, if_pos g0, if_pos g, rd_in hlt, tyBall_is, Option.bind_some, if_pos hb, if_pos g1, e]) h2
  ·rw [if_neg hb]
   exact Ev.step (fun k => by rw [spec_tyBalls.l0, if_pos g, if_pos g0, if_pos g, rd_in hlt, tyBall_is, Option.bind_some, if_neg hb, e]) h1
theorem impl_loop (cs : List Int) (hl : cs.length < 1000) : ∀ (d i : Nat) (acc : List Int), cs.length - i = d → i ≤ cs.length → acc.length ≤ i →
  Ev (fun k => impl_tray_indices_at_impl_isBall.l0 k acc cs (cs.length : Int) (i : Int)) (acc ++ balls (cs.drop i) i) := by
 intro d
 induction d with
 | zero =>
  intro i acc hd hi ha
  have g : ¬ ((i : Int) < (cs.length : Int)) := by omega
  have e : i = cs.length := by omega
  subst e
  rw [List.drop_length, balls, List.append_nil]
  exact Ev.step (f := fun _ => some acc) (fun k => by rw [impl_tray_indices_at_impl_isBall.l0, if_neg g]) (Ev.now _)
 | succ d ih =>
  intro i acc hd hi ha
  have hlt : i < cs.length := by omega
  have g : (i : Int) < (cs.length : Int) := by omega
  have g0 : (0 : Int) ≤ (i : Int) := by omega
  have b : i + 1 < 1000000 := by omega
  have g1 : acc.length < 17592186044416 := by omega
  have g2 : acc.length ≤ i + 1 := by omega
  have g3 : (acc ++ [(i : Int)]).length ≤ i + 1 := by rw [List.length_append, List.length_singleton]; omega
  have h1 := ih (i + 1) acc (by omega) (by omega) g2
  have h2 := ih (i + 1) (acc ++ [(i : Int)]) (by omega) (by omega) g3
  have e : wrap64 ((i : Int) + 1) = ((i + 1 : Nat) : Int) := wm b rfl
  rw [List.drop_eq_getElem_cons hlt, balls]
  by_cases hb : ballB cs[i] = true
  ·rw [if_pos hb]
   rw [List.append_assoc] at h2
   exact Ev.step (fun k => by rw [impl_tray_indices_at_impl_isBall.l0, if_pos g, if_pos g0, if_pos g, rd_in hlt, ball_is, Option.bind_some, if_pos hb, if_pos g1, e]) h2
  ·rw [if_neg hb]
   exact Ev.step (fun k => by rw [impl_tray_indices_at_impl_isBall.l0, if_pos g, if_pos g0, if_pos g, rd_in hlt, ball_is, Option.bind_some, if_neg hb, e]) h1
/-- What the law does with the list: it lays numbers into it and asks the program once more. -/

theorem law_of (t : ByteArray) (ht : ¬ (t.size : Int) > 1048576) (v : Bool) (e1 : Ev (fun k => spec_IsForm.f k t) v) (e2 : Ev (fun k => impl_IsForm.f k t) v) : Ev (fun k => laws_FnExactIsForm.f k t) true := by
 refine Ev.congr (f := fun k => (spec_IsForm.f k t).bind fun b1 => (impl_IsForm.f k t).bind fun b2 => if (b2 != b1) = true then some false else some true) (g := _) (r := _) (fun k => by rw [laws_FnExactIsForm.f, if_neg ht]) ?_
 refine Ev.bind (f := fun k b1 => (impl_IsForm.f k t).bind fun b2 => if (b2 != b1) = true then some false else some true) e1 ?_
 refine Ev.bind (f := fun k b2 => if (b2 != v) = true then some false else some true) e2 ?_
 rw [if_neg (by simp)]
 exact Ev.now _
def plain (c : Int) : Bool := decide (c = 46) || decide (c = 111)
def okf (b : UInt8) : Bool := ([46, 111, 47] : List UInt8).contains b
theorem trimF (b : ByteArray) (hb : b.size ≤ 9223372036854775807) : ∃ r, strings_Trim.f b (⟨#[46, 111, 47]⟩ : ByteArray) = some r ∧ (r.toList = [] ↔ b.data.toList.all okf = true) := by
 refine ⟨_, by rw [strings_Trim.f, if_pos hb, if_pos (by decide), if_pos (by decide)], ?_⟩
 rw [Lib.toList_data]
 have : (⟨(Lib.trimS b.data.toList [46, 111, 47]).toArray⟩ : ByteArray).data.toList = Lib.trimS b.data.toList [46, 111, 47] := rfl
 rw [show (⟨#[46, 111, 47]⟩ : ByteArray).data.toList = [46, 111, 47] from rfl, this, trimS_nil]
 rfl
theorem okf_iff (b : UInt8) (h : b ≠ 47) : okf b = plain (b.toNat : Int) := by
 have X : ∀ k : Fin 256, UInt8.ofNat k.val ≠ 47 → okf (UInt8.ofNat k.val) = plain ((UInt8.ofNat k.val).toNat : Int) := by decide +kernel
 have := X ⟨b.toNat, b.toNat_lt⟩
 simp only [UInt8.ofNat_toNat] at this
 exact this h
theorem okc47 : okc 47 = false := by decide
/-- All cells are balls without names or free ones: so says the text. -/
theorem cells_plain (t : ByteArray) (hg : good t = true) : t.data.toList.all okf = (CS t).all plain := by
 have hno : ∀ x ∈ (rowsOf t).flatten, x ≠ 47 := by
  intro x hx e
  obtain ⟨r, rs, hrs⟩ := rows_form t
  unfold good at hg
  rw [Bool.and_eq_true, hrs] at hg
  obtain ⟨_, _, h3⟩ := shaped_iff.1 hg.1
  rw [hrs] at hx
  obtain ⟨q, hq, hxq⟩ := List.mem_flatten.1 hx
  have := List.all_eq_true.1 (h3 q hq).1 x hxq
  rw [e, okc47] at this
  cases this
 have hmem : ∀ x : UInt8, x ≠ 47 → (x ∈ (rowsOf t).flatten ↔ x ∈ t.data.toList) := by
  intro x hx
  have := splitC_count 47 x hx t.data.toList
  rw [← List.count_pos_iff, ← List.count_pos_iff]
  unfold rowsOf
  rw [this]
 rw [Bool.eq_iff_iff, List.all_eq_true, List.all_eq_true]
 unfold CS ints
 constructor
 ·intro hA c hc
  obtain ⟨x, hx, rfl⟩ := List.mem_map.1 hc
  have h47 := hno x hx
  rw [← okf_iff x h47]
  exact hA x ((hmem x h47).1 hx)
 ·intro hA x hx
  by_cases e : x = 47
  ·rw [e]; decide
  ·rw [okf_iff x e]
   exact hA _ (List.mem_map.2 ⟨x, (hmem x e).2 hx, rfl⟩)
theorem buRead_loop {L : List Int} (hl : L.length < 1000) (w h : Int) (v : Bool) (hv : L.all plain = true → Ev (fun k => spec_buIs.f k w h L) v) (hv2 : L.all plain = false → v = false) : ∀ (d i : Nat), i + d = L.length → ((L.take i).all plain = true) →
  Ev (fun k => spec_buRead.l0 k L (L.length : Int) (i : Int) w h L) (w, h, L, v) := by
 intro d
 induction d with
 | zero =>
  intro i hi ha
  have e : i = L.length := by omega
  subst e
  rw [List.take_length] at ha
  have g0 : ¬ ((L.length : Int) < (L.length : Int)) := by omega
  refine Ev.step (f := fun k => (spec_buIs.f k w h L).bind fun t463 => (some (w, h, L, t463))) (fun k => by rw [spec_buRead.l0, if_neg g0]) ?_
  exact Ev.bind (f := fun k t463 => some (w, h, L, t463)) (hv ha) (Ev.now _)
 | succ d ih =>
  intro i hi ha
  have hlt : i < L.length := by omega
  have g0 : (i : Int) < (L.length : Int) := by omega
  have g1 : (0 : Int) ≤ (i : Int) := by omega
  have em : wrap64 ((i : Int) + 1) = ((i + 1 : Nat) : Int) := wrapN (i + 1) (by omega) (by omega)
  have rL : rd L (i : Int) = L[i] := by rw [rd_nat, List.getD_eq_getElem?_getD, List.getElem?_eq_getElem hlt]; rfl
  have ht : plain L[i] = true → (L.take (i + 1)).all plain = true := by
   intro hp
   rw [List.take_succ_eq_append_getElem hlt, List.all_append, ha, Bool.true_and]
   simp [hp]
  by_cases c1 : L[i] = 46
  ·refine Ev.step (fun k => ?_) (ih (i + 1) (by omega) (ht (by unfold plain; rw [c1]; rfl)))
   rw [spec_buRead.l0, if_pos g0, if_pos g1, if_pos g0, rL, if_pos c1, em]
  ·by_cases c2 : L[i] = 111
   ·refine Ev.step (fun k => ?_) (ih (i + 1) (by omega) (ht (by unfold plain; rw [c2]; rfl)))
    rw [spec_buRead.l0, if_pos g0, if_pos g1, if_pos g0, rL, if_neg c1, if_pos c2, em]
   ·have hf : L.all plain = false := by
     cases hx : L.all plain with
     | false => rfl
     | true =>
      have := List.all_eq_true.1 hx L[i] (List.getElem_mem hlt)
      unfold plain at this
      rw [decide_eq_false c1, decide_eq_false c2] at this
      cases this
    rw [hv2 hf]
    refine Ev.step (f := fun _ => some (w, h, L, false)) (fun k => ?_) (Ev.now _)
    rw [spec_buRead.l0, if_pos g0, if_pos g1, if_pos g0, rL, if_neg c1, if_neg c2]
theorem balls_pos {L : List Int} : ∀ (i k : Nat), k < L.length → ballB (L.getD k 0) = true → 1 ≤ (balls L i).length := by
 induction L with
 | nil => intro i k h; cases h
 | cons c l ih =>
  intro i k hk hb
  rw [balls]
  by_cases hc : ballB c = true
  ·rw [if_pos hc, List.length_cons]; omega
  ·rw [if_neg hc]
   cases k with
   | zero => exact absurd hb hc
   | succ k => exact ih (i + 1) k (by rw [List.length_cons] at hk; omega) hb
theorem FnExactIsForm : laws_FnExactIsForm.Pure := by
 intro t _
 suffices X : Ev (fun k => laws_FnExactIsForm.f k t) true from X.rounds
 by_cases ht : (t.size : Int) > 1048576
 ·refine Ev.congr (f := fun _ => some true) (g := _) (r := _) (fun k => by rw [laws_FnExactIsForm.f, if_pos ht]) (Ev.now _)
 have ht' : t.size ≤ 1048576 := by omega
 have hi := isTray_eq t ht'
 have hr := tyRead_eq t
 have SB : ∀ (v : Int × Int × List Int × Bool), Ev (fun k => spec_buRead.f k t) v → Ev (fun k => spec_IsForm.f k t) v.2.2.2 := by
  intro v hE
  refine Ev.congr (f := fun k => (spec_buRead.f k t).bind fun bt464 => (some bt464.2.2.2)) (g := _) (r := _) (fun k => by rw [spec_IsForm.f]) ?_
  exact Ev.bind (f := fun k bt464 => some bt464.2.2.2) hE (Ev.now _)
 by_cases hg : good t = true
 ·obtain ⟨f1, f2, f3, f4, f5, f6, f7⟩ := good_facts hg
  have hs := size_of hg
  have hre := read_eq t ht'
  have hcp := cells_plain t hg
  rw [hg] at hi
  rw [if_pos hg] at hr
  generalize W t = w at *
  generalize H t = h at *
  generalize CS t = L at *
  have hl : L.length < 1000 := by omega
  have hb : (balls L 0).length < 1000 := by have := balls_len L 0; omega
  have S := spec_loop L hl L.length 0 [] rfl (Nat.zero_le _) (Nat.zero_le _)
  have I := impl_loop L hl L.length 0 [] rfl (Nat.zero_le _) (Nat.zero_le _)
  rw [List.drop_zero, List.nil_append] at S I
  obtain ⟨out, cnt, hP, hS⟩ := sk_ev hs f6
  have hB := parts_isBall_ev hs f6
  have hlen : (partsTo (accB L) (adjOf w h) (w * h) (w * h)).length = cnt := by
   unfold partsTo
   rw [List.length_map, hP.cnt]
  have hone : cnt = 1 → 1 ≤ (balls L 0).length := by
   intro hc
   have h0 : 0 < (BF.roots (accB L) (adjOf w h) (w * h)).length := by rw [← hP.cnt]; omega
   have hm := List.getElem_mem h0
   obtain ⟨hlt, hroot⟩ := BF.mem_roots.1 hm
   exact balls_pos 0 _ (by omega) hroot.1
  -- the value
  obtain ⟨v, hv⟩ : ∃ v, (L.all plain && (decide (cnt = 1) && decide ((balls L 0).length ≤ 10))) = v := ⟨_, rfl⟩
  refine law_of t ht v ?_ ?_
  ·have hIs : Ev (fun k => spec_buIs.f k (w : Int) (h : Int) L) (decide (cnt = 1) && decide ((balls L 0).length ≤ 10)) := by
    refine Ev.congr (f := fun k => (spec_tyBalls.f k (w : Int) (h : Int) L).bind fun t446 => ((spec_skPieces.f k (w : Int) (h : Int) L).bind fun bt449 => ((spec_l1In.f (t446.length : Int) 1 10).bind fun t453 => (if t453 = true then (some (bt449.2 == 1)) else (some false))))) (g := _) (r := _) (fun k => by rw [spec_buIs.f]) ?_
    refine Ev.bind (f := fun k t446 => ((spec_skPieces.f k (w : Int) (h : Int) L).bind fun bt449 => ((spec_l1In.f ((t446 : List Int).length : Int) 1 10).bind fun t453 => (if t453 = true then (some (bt449.2 == 1)) else (some false))))) (a := balls L 0) S ?_
    refine Ev.bind (f := fun k bt449 => ((spec_l1In.f ((balls L 0).length : Int) 1 10).bind fun t453 => (if t453 = true then (some (bt449.2 == 1)) else (some false)))) hS ?_
    refine Ev.congr (f := fun _ => some (decide (cnt = 1) && decide ((balls L 0).length ≤ 10))) (g := _) (r := _) (fun k => ?_) (Ev.now _)
    unfold spec_l1In.f
    by_cases h1 : ((balls L 0).length : Int) ≥ 1
    ·rw [if_pos h1, Option.bind_some]
     by_cases h2 : (balls L 0).length ≤ 10
     ·rw [if_pos (decide_eq_true (by omega)), decide_eq_true h2, Bool.and_true]
      by_cases h3 : cnt = 1
      ·rw [h3]; rfl
      ·rw [decide_eq_false h3]
       have : ((cnt : Int) == 1) = false := by rw [beq_eq_false_iff_ne]; omega
       show some ((cnt : Int) == 1) = some false
       rw [this]
     ·rw [if_neg (by rw [decide_eq_false (by omega)]; exact Bool.false_ne_true), decide_eq_false h2, Bool.and_false]
    ·rw [if_neg h1, Option.bind_some, if_neg Bool.false_ne_true]
     have h3 : ¬ cnt = 1 := fun e => by have := hone e; omega
     rw [decide_eq_false h3, Bool.false_and]
   refine SB ((w : Int), (h : Int), L, v) ?_
   refine Ev.congr (f := fun k => (spec_tyRead.f k t).bind fun bt455 => (if bt455.2.2.2 = true then (spec_buRead.l0 k bt455.2.2.1 (bt455.2.2.1.length : Int) 0 bt455.1 bt455.2.1 bt455.2.2.1) else (some (bt455.1, bt455.2.1, bt455.2.2.1, false)))) (g := _) (r := _) (fun k => by rw [spec_buRead.f]) ?_
   refine Ev.bind (f := fun k bt455 => (if bt455.2.2.2 = true then (spec_buRead.l0 k bt455.2.2.1 (bt455.2.2.1.length : Int) 0 bt455.1 bt455.2.1 bt455.2.2.1) else (some (bt455.1, bt455.2.1, bt455.2.2.1, false)))) hr ?_
   show Ev (fun k => spec_buRead.l0 k L (L.length : Int) ((0 : Nat) : Int) (w : Int) (h : Int) L) _
   refine buRead_loop hl (w : Int) (h : Int) v (fun hx => ?_) (fun hx => ?_) L.length 0 (Nat.zero_add _) rfl
   ·rw [hx, Bool.true_and] at hv
    rw [← hv]
    exact hIs
   ·rw [← hv, hx, Bool.false_and]
  ·obtain ⟨r, hr1, hr2⟩ := trimF t (by omega)
   refine Ev.congr (f := fun k => (impl_IsTray.f k t).bind fun t480 => (if t480 = true then ((strings_Trim.f t (⟨#[46, 111, 47]⟩ : ByteArray)).bind fun t481 => (impl_IsForm.j0 k t (t481.toList != ([] : List UInt8)))) else (impl_IsForm.j0 k t true))) (g := _) (r := _) (fun k => by rw [impl_IsForm.f]) ?_
   refine Ev.bind (f := fun k t480 => (if t480 = true then ((strings_Trim.f t (⟨#[46, 111, 47]⟩ : ByteArray)).bind fun t481 => (impl_IsForm.j0 k t (t481.toList != ([] : List UInt8)))) else (impl_IsForm.j0 k t true))) hi ?_
   refine Ev.congr (f := fun k => impl_IsForm.j0 k t (r.toList != ([] : List UInt8))) (g := _) (r := _) (fun k => by rw [if_pos rfl, hr1, Option.bind_some]) ?_
   rw [hcp] at hr2
   cases hx : L.all plain with
   | false =>
    rw [hx, Bool.false_and] at hv
    have e : (r.toList != ([] : List UInt8)) = true := by
     rw [bne_iff_ne]
     intro e
     have := hr2.1 e
     rw [hx] at this
     cases this
    rw [e, ← hv]
    exact Ev.step (f := fun _ => some false) (fun k => by rw [impl_IsForm.j0, if_pos rfl]) (Ev.now _)
   | true =>
    rw [hx, Bool.true_and] at hv
    have e : (r.toList != ([] : List UInt8)) = false := by rw [hr2.2 hx]; rfl
    rw [e]
    refine Ev.step (f := fun k => (impl_tray_pieces.f k (w : Int) (h : Int) L).bind fun t488 => (if (t488.length : Int) = 1 then ((impl_tray_indices_at_impl_isBall.f k (w : Int) (h : Int) L).bind fun t491 => (some (decide ((t491.length : Int) ≤ 10)))) else (some false))) (fun k => by rw [impl_IsForm.j0, if_neg Bool.false_ne_true, hre, Option.bind_some]) ?_
    refine Ev.bind (g := fun k => impl_tray_pieces.f k (w : Int) (h : Int) L) (f := fun k t488 => (if (t488.length : Int) = 1 then ((impl_tray_indices_at_impl_isBall.f k (w : Int) (h : Int) L).bind fun t491 => (some (decide ((t491.length : Int) ≤ 10)))) else (some false))) (a := partsTo (accB L) (adjOf w h) (w * h) (w * h)) ?_ ?_
    ·refine Ev.congr (f := fun k => (impl_tray_parts_at_impl_isBall.f k (w : Int) (h : Int) L).bind fun t320 => (some t320)) (g := _) (r := _) (fun k => by rw [impl_tray_pieces.f]) ?_
     exact Ev.bind (f := fun k t320 => some t320) hB (Ev.now _)
    ·rw [hlen]
     by_cases h3 : cnt = 1
     ·refine Ev.congr (f := fun k => (impl_tray_indices_at_impl_isBall.f k (w : Int) (h : Int) L).bind fun t491 => (some (decide ((t491.length : Int) ≤ 10)))) (g := _) (r := _) (fun k => by rw [if_pos (by omega)]) ?_
      rw [decide_eq_true h3, Bool.true_and] at hv
      refine Ev.bind (f := fun k t491 => (some (decide (((t491 : List Int).length : Int) ≤ 10)))) (a := balls L 0) I ?_
      have : decide (((balls L 0).length : Int) ≤ 10) = v := by
       rw [← hv]
       exact decide_eq_decide.2 (by omega)
      rw [this]
      exact Ev.now _
     ·refine Ev.congr (f := fun _ => some false) (g := _) (r := _) (fun k => by rw [if_neg (by omega)]) ?_
      rw [decide_eq_false h3, Bool.false_and] at hv
      rw [← hv]
      exact Ev.now _
 ·rw [Bool.eq_false_iff.2 hg] at hi
  rw [if_neg hg] at hr
  refine law_of t ht false ?_ ?_
  ·refine SB (0, 0, [], false) ?_
   refine Ev.congr (f := fun k => (spec_tyRead.f k t).bind fun bt455 => (if bt455.2.2.2 = true then (spec_buRead.l0 k bt455.2.2.1 (bt455.2.2.1.length : Int) 0 bt455.1 bt455.2.1 bt455.2.2.1) else (some (bt455.1, bt455.2.1, bt455.2.2.1, false)))) (g := _) (r := _) (fun k => by rw [spec_buRead.f]) ?_
   refine Ev.bind (f := fun k bt455 => (if bt455.2.2.2 = true then (spec_buRead.l0 k bt455.2.2.1 (bt455.2.2.1.length : Int) 0 bt455.1 bt455.2.1 bt455.2.2.1) else (some (bt455.1, bt455.2.1, bt455.2.2.1, false)))) hr ?_
   exact Ev.now _
  ·refine Ev.congr (f := fun k => (impl_IsTray.f k t).bind fun t480 => (if t480 = true then ((strings_Trim.f t (⟨#[46, 111, 47]⟩ : ByteArray)).bind fun t481 => (impl_IsForm.j0 k t (t481.toList != ([] : List UInt8)))) else (impl_IsForm.j0 k t true))) (g := _) (r := _) (fun k => by rw [impl_IsForm.f]) ?_
   refine Ev.bind (f := fun k t480 => (if t480 = true then ((strings_Trim.f t (⟨#[46, 111, 47]⟩ : ByteArray)).bind fun t481 => (impl_IsForm.j0 k t (t481.toList != ([] : List UInt8)))) else (impl_IsForm.j0 k t true))) hi ?_
   exact Ev.step (f := fun _ => some false) (fun k => by show impl_IsForm.j0 (k + 1) t true = _; rw [impl_IsForm.j0, if_pos rfl]) (Ev.now _)
end Go.Proofs.YtplifefnjeledaaDoor.Pure
