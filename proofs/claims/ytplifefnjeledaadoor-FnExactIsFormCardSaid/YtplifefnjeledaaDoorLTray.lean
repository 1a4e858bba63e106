/- What the printed functions tyRead (the reference's), IsTray and read (the program's) say of a text: all in the words of the plain laws of trays. -/
import Derived.Test.YtplifefnjeledaaDoorMTray
import Derived.Test.YtplifefnjeledaaDoorQx2
import Derived.Test.YtplifefnjeledaaDoorQx7
import Derived.Test.YtplifefnjeledaaDoorQx6
import Derived.Test.YtplifefnjeledaaDoorQx1
import Derived.Test.YtplifefnjeledaaDoorQx5
set_option linter.unusedVariables false
set_option linter.unusedSimpArgs false
namespace Go.Proofs.YtplifefnjeledaaDoorL
open Go.RowKit Go.Proofs.YtplifefnjeledaaDoor.Q Go.Proofs.YtplifefnjeledaaDoorW.PrintWords Go.Proofs.YtplifefnjeledaaDoorW.PrintLast Go.Proofs.YtplifefnjeledaaDoorM

theorem wr {n : Int} (h0 : -9223372036854775808 ≤ n) (h1 : n ≤ 9223372036854775807) : wrap64 n = n := by
 unfold wrap64
 omega
theorem tyIs_eq (c : UInt8) : spec_tyIs.f (c.toNat : Int) = some (okc c) := by
 have h : ∀ k : Fin 256, spec_tyIs.f (k.val : Int) = some (okc (UInt8.ofNat k.val)) := by decide +kernel
 have := h ⟨c.toNat, c.toNat_lt⟩
 simpa using this
theorem bytes_drop (t : ByteArray) (i : Nat) (h : i < t.size) : ∃ c l, t.data.toList.drop i = c :: l ∧ t.data.toList.drop (i + 1) = l ∧ bt t (i : Int) = (c.toNat : Int) := by
 have hl : i < t.data.toList.length := by rw [Array.length_toList]; exact h
 refine ⟨t.data.toList[i], t.data.toList.drop (i + 1), List.drop_eq_getElem_cons hl, rfl, ?_⟩
 unfold bt
 rw [dif_pos (by simpa using h)]
 congr 1

/-! ### the reference's tyRead -/
theorem l2_eq (c : Int) (cs : List Int) (m : Int) (i : Nat) (ws hs : Int) (cells pre : List Int) (r : Int × Int × List Int × Bool) (hi : (i : Int) < 1000000) (hm : pre.length < 1000000)
  (hno : isNm c = true → pre.contains c = true → r = (0, 0, [], false))
  (hgo : (isNm c && pre.contains c) = false → Ev (fun k => spec_tyRead.l1 k cs m (wrap64 ((i : Int) + 1)) ws hs cells) r) :
  ∀ (d : Nat) (j : Nat), pre.length - j = d → j ≤ pre.length → ((isNm c && (pre.take j).contains c) = false) →
   Ev (fun k => spec_tyRead.l2 k c cs m (i : Int) pre (pre.length : Int) (j : Int) ws hs cells) r := by
 intro d
 induction d with
 | zero =>
  intro j hd hj hpre
  have e : j = pre.length := by omega
  subst e
  rw [List.take_length] at hpre
  refine Ev.step (f := fun k => spec_tyRead.l1 k cs m (wrap64 ((i : Int) + 1)) ws hs cells) (fun k => ?_) (hgo hpre)
  rw [spec_tyRead.l2, if_neg (by omega)]
 | succ d ih =>
  intro j hd hj hpre
  have hlt : j < pre.length := by omega
  have hrd : rd pre (j : Int) = pre[j] := by
   unfold rd
   rw [Int.toNat_natCast, List.getD_eq_getElem?_getD, List.getElem?_eq_getElem hlt]
   rfl
  have hw : wrap64 ((j : Int) + 1) = ((j + 1 : Nat) : Int) := by rw [wr (by omega) (by omega)]; rfl
  by_cases hc : c = pre[j]
  ·by_cases hn : isNm c = true
   ·have hcon : pre.contains c = true := by
     rw [List.contains_iff_mem, hc]
     exact List.getElem_mem hlt
    have hr := hno hn hcon
    subst hr
    have hn2 : 97 ≤ c ∧ c ≤ 102 := by simpa [isNm] using hn
    refine Ev.step (f := fun _ => some (0, 0, [], false)) (fun k => ?_) (Ev.now _)
    rw [spec_tyRead.l2, if_pos (by omega), if_pos (by omega), if_pos (by omega), hrd, if_pos hc, if_pos hn2.1, if_pos hn2.2]
   ·have hn2 : ¬ (97 ≤ c ∧ c ≤ 102) := by simpa [isNm] using hn
    refine Ev.step (f := fun k => spec_tyRead.l2 k c cs m (i : Int) pre (pre.length : Int) ((j + 1 : Nat) : Int) ws hs cells) (fun k => ?_) (ih (j + 1) (by omega) (by omega) (by simp [hn]))
    rw [spec_tyRead.l2, if_pos (by omega), if_pos (by omega), if_pos (by omega), hrd, if_pos hc, hw]
    by_cases h97 : c ≥ 97
    ·rw [if_pos h97, if_neg (by omega)]
    ·rw [if_neg h97]
  ·refine Ev.step (f := fun k => spec_tyRead.l2 k c cs m (i : Int) pre (pre.length : Int) ((j + 1 : Nat) : Int) ws hs cells) (fun k => ?_) (ih (j + 1) (by omega) (by omega) ?_)
   ·rw [spec_tyRead.l2, if_pos (by omega), if_pos (by omega), if_pos (by omega), hrd, if_neg hc, hw]
   ·rw [List.take_succ_eq_append_getElem hlt]
    rw [Bool.and_eq_false_iff] at hpre ⊢
    rcases hpre with h | h
    ·exact .inl h
    ·right
     rw [List.contains_eq_mem] at h ⊢
     simp only [decide_eq_false_iff_not, List.mem_append, List.mem_singleton, not_or] at h ⊢
     exact ⟨h, hc⟩

theorem l1_eq (cs : List Int) (ws hs : Int) (hl : cs.length < 1000000) : ∀ (d i : Nat), cs.length - i = d → i ≤ cs.length →
  Ev (fun k => spec_tyRead.l1 k cs (cs.length : Int) (i : Int) ws hs cs) (if uniq (cs.take i) (cs.drop i) = true then (ws, hs, cs, true) else (0, 0, [], false)) := by
 intro d
 induction d with
 | zero =>
  intro i hd hi
  have e : i = cs.length := by omega
  subst e
  rw [List.drop_length]
  refine Ev.step (f := fun _ => some (ws, hs, cs, true)) (fun k => ?_) (Ev.now _)
  rw [spec_tyRead.l1, if_neg (by omega)]
 | succ d ih =>
  intro i hd hi
  have hlt : i < cs.length := by omega
  have hrd : rd cs (i : Int) = cs[i] := by
   unfold rd
   rw [Int.toNat_natCast, List.getD_eq_getElem?_getD, List.getElem?_eq_getElem hlt]
   rfl
  have hw : wrap64 ((i : Int) + 1) = ((i + 1 : Nat) : Int) := by rw [wr (by omega) (by omega)]; rfl
  have h1 := ih (i + 1) (by omega) (by omega)
  rw [List.drop_eq_getElem_cons hlt]
  have h2 := l2_eq cs[i] cs (cs.length : Int) i ws hs cs (cs.take i) (if uniq (cs.take i) (cs[i] :: cs.drop (i + 1)) = true then (ws, hs, cs, true) else (0, 0, [], false)) (by omega) (by rw [List.length_take]; omega)
   (fun hn hc => by rw [uniq, hn, hc]; rfl)
   (fun hf => by
    rw [uniq, hf]
    simp only [Bool.not_false, Bool.true_and]
    rw [hw, ← List.take_succ_eq_append_getElem hlt]
    exact h1)
   (cs.take i).length 0 (by omega) (by omega) (by simp)
  refine Ev.step (f := fun k => spec_tyRead.l2 k cs[i] cs (cs.length : Int) (i : Int) (cs.take i) ((cs.take i).length : Int) ((0 : Nat) : Int) ws hs cs) (fun k => ?_) h2
  rw [spec_tyRead.l1, if_pos (by omega), if_pos (by omega), if_pos (by omega), if_pos (by omega), hrd]
  rfl

/-- What stands behind the scan. -/
def told : Option (Nat × Nat × List Int) → Int × Int × List Int × Bool
 | none => (0, 0, [], false)
 | some (w, h, cs) => if w ≤ 7 ∧ h ≤ 7 ∧ cs.length ≤ 36 then (if uniq [] cs = true then ((w : Int), (h : Int), cs, true) else (0, 0, [], false)) else (0, 0, [], false)

theorem j2_eq (w h : Nat) (cs : List Int) (hl : cs.length < 1000000) (b : Bool) (hb : b = !decide (cs.length ≤ 36)) (hw : w ≤ 7) (hh : h ≤ 7) :
  Ev (fun k => spec_tyRead.j2 k b (w : Int) (h : Int) cs) (told (some (w, h, cs))) := by
 by_cases hc : cs.length ≤ 36
 ·have hb2 : b = false := by rw [hb]; simp [hc]
  subst hb2
  have := l1_eq cs (w : Int) (h : Int) hl cs.length 0 (by omega) (by omega)
  refine Ev.step (f := fun k => spec_tyRead.l1 k cs (cs.length : Int) ((0 : Nat) : Int) (w : Int) (h : Int) cs) (fun k => ?_) ?_
  ·rw [spec_tyRead.j2, if_neg (by decide)]
   rfl
  ·simp only [told]
   rw [if_pos ⟨hw, hh, hc⟩]
   simpa using this
 ·have hb2 : b = true := by rw [hb]; simp [hc]
  subst hb2
  refine Ev.step (f := fun _ => some (0, 0, [], false)) (fun k => ?_) ?_
  ·rw [spec_tyRead.j2, if_pos rfl]
  ·simp only [told]
   rw [if_neg (by omega)]
   exact Ev.now _
theorem j2_true (w h : Int) (cs : List Int) : Ev (fun k => spec_tyRead.j2 k true w h cs) (0, 0, [], false) :=
 Ev.step (f := fun _ => some (0, 0, [], false)) (fun k => by rw [spec_tyRead.j2, if_pos rfl]) (Ev.now _)

theorem j1_go (t : ByteArray) (x i w h k : Nat) (cs : List Int) (c : UInt8) (hi : i < t.size) (hs : t.size ≤ 42) (hx : x ≤ i) (hc : cs.length ≤ i) (h3 : bt t (i : Int) = (c.toNat : Int)) (ho : Aside0 (okc c = true)) :
  spec_tyRead.j1 (k + 1) t (x : Int) (i : Int) true (w : Int) (h : Int) cs = spec_tyRead.l0 k t ((x + 1 : Nat) : Int) ((i + 1 : Nat) : Int) (w : Int) (h : Int) (cs ++ [(c.toNat : Int)]) := by
 have hwr : wrap64 ((i : Int) + 1) = ((i + 1 : Nat) : Int) := by rw [wr (by omega) (by omega)]; rfl
 have hwx : wrap64 ((x : Int) + 1) = ((x + 1 : Nat) : Int) := by rw [wr (by omega) (by omega)]; rfl
 rw [spec_tyRead.j1, if_pos rfl, if_pos (by omega), if_pos (by omega), h3, tyIs_eq]
 rw [Option.bind_some, if_pos ho.out]
 rw [if_pos (by omega), hwx, hwr]
theorem j1_stop (t : ByteArray) (x i w h k : Nat) (cs : List Int) (c : UInt8) (hi : i < t.size) (hs : t.size ≤ 42) (h3 : bt t (i : Int) = (c.toNat : Int)) (ho : Aside0 (¬ okc c = true)) :
  spec_tyRead.j1 (k + 1) t (x : Int) (i : Int) true (w : Int) (h : Int) cs = some (0, 0, [], false) := by
 rw [spec_tyRead.j1, if_pos rfl, if_pos (by omega), if_pos (by omega), h3, tyIs_eq]
 rw [Option.bind_some, if_neg ho.out]
theorem l0_eq (t : ByteArray) (ht : t.size ≤ 42) : ∀ (l : List UInt8) (i : Nat), t.data.toList.drop i = l → i + l.length = t.size → ∀ (x w h : Nat) (cs : List Int), x ≤ i → w ≤ i → h ≤ i → cs.length ≤ i →
  Ev (fun k => spec_tyRead.l0 k t (x : Int) (i : Int) (w : Int) (h : Int) cs) (told (scan l x w h cs)) := by
 intro l
 induction l with
 | nil =>
  intro i hd hi x w h cs hx hw hh hcs
  have e : i = t.size := by simpa using hi
  have hb : ((i : Int) < (t.size : Int)) = False := by simp; omega
  have hwr : wrap64 ((i : Int) + 1) = ((i + 1 : Nat) : Int) := by rw [wr (by omega) (by omega)]; rfl
  have hwh : wrap64 ((h : Int) + 1) = ((h + 1 : Nat) : Int) := by rw [wr (by omega) (by omega)]; rfl
  have last : ∀ (k : Nat), True → Ev (fun k => spec_tyRead.l0 k t 0 ((i + 1 : Nat) : Int) (x : Int) ((h + 1 : Nat) : Int) cs) (told (some (x, h + 1, cs))) := by
   intro _ _
   by_cases c1 : x ≤ 7
   ·by_cases c2 : h + 1 ≤ 7
    ·refine Ev.step (f := fun k => spec_tyRead.j2 k (decide ((cs.length : Int) > 36)) (x : Int) ((h + 1 : Nat) : Int) cs) (fun k => ?_) (j2_eq x (h + 1) cs (by omega) _ ?_ c1 c2)
     ·rw [spec_tyRead.l0, if_neg (by omega), if_neg (by omega), if_neg (by omega)]
     ·by_cases c3 : cs.length ≤ 36
      ·rw [decide_eq_false (by omega), decide_eq_true c3]; rfl
      ·rw [decide_eq_true (by omega), decide_eq_false c3]; rfl
    ·have hn : told (some (x, h + 1, cs)) = (0, 0, [], false) := by simp only [told]; rw [if_neg (by omega)]
     rw [hn]
     refine Ev.step (f := fun k => spec_tyRead.j2 k true (x : Int) ((h + 1 : Nat) : Int) cs) (fun k => ?_) (j2_true _ _ _)
     rw [spec_tyRead.l0, if_neg (by omega), if_neg (by omega), if_pos (by omega)]
   ·have hn : told (some (x, h + 1, cs)) = (0, 0, [], false) := by simp only [told]; rw [if_neg (by omega)]
    rw [hn]
    refine Ev.step (f := fun k => spec_tyRead.j2 k true (x : Int) ((h + 1 : Nat) : Int) cs) (fun k => ?_) (j2_true _ _ _)
    rw [spec_tyRead.l0, if_neg (by omega), if_pos (by omega)]
  refine Ev.step (f := fun k => spec_tyRead.j1 k t (x : Int) (i : Int) false (w : Int) (h : Int) cs) (fun k => ?_) ?_
  ·rw [spec_tyRead.l0, if_pos (by omega), if_neg (by omega)]
  rw [scan]
  by_cases c1 : x = 0 ∨ (0 < h ∧ x ≠ w)
  ·rw [if_pos c1]
   refine Ev.step (f := fun _ => some (0, 0, [], false)) (fun k => ?_) (Ev.now _)
   rw [spec_tyRead.j1, if_neg (by decide)]
   by_cases c2 : (h : Int) > 0
   ·rw [if_pos c2]
    by_cases c3 : (x : Int) = (w : Int)
    ·rw [if_pos c3, if_pos (by omega)]
    ·rw [if_neg c3]
   ·rw [if_neg c2, if_pos (by omega)]
  ·rw [if_neg c1]
   refine Ev.step (f := fun k => spec_tyRead.l0 k t 0 ((i + 1 : Nat) : Int) (x : Int) ((h + 1 : Nat) : Int) cs) (fun k => ?_) (last 0 trivial)
   rw [spec_tyRead.j1, if_neg (by decide), hwr, hwh]
   by_cases c2 : (h : Int) > 0
   ·rw [if_pos c2, if_pos (by omega), if_neg (by omega)]
   ·rw [if_neg c2, if_neg (by omega)]
 | cons c l ih =>
  intro i hd hi x w h cs hx hw hh hcs
  have hlt : i < t.size := by simp at hi; omega
  have hx1 : x + 1 ≤ i + 1 := by omega
  have hw1 : w ≤ i + 1 := by omega
  have hh1 : h ≤ i + 1 := by omega
  have hc1 : cs.length + 1 ≤ i + 1 := by omega
  have hx0 : x ≤ i + 1 := by omega
  have hh2 : h + 1 ≤ i + 1 := by omega
  obtain ⟨c', l', h1, h2, h3⟩ := bytes_drop t i hlt
  rw [hd] at h1
  obtain ⟨rfl, rfl⟩ := List.cons.inj h1
  have hwr : wrap64 ((i : Int) + 1) = ((i + 1 : Nat) : Int) := by rw [wr (by omega) (by omega)]; rfl
  have hwh : wrap64 ((h : Int) + 1) = ((h + 1 : Nat) : Int) := by rw [wr (by omega) (by omega)]; rfl
  have hwx : wrap64 ((x : Int) + 1) = ((x + 1 : Nat) : Int) := by rw [wr (by omega) (by omega)]; rfl
  have hi' : i + 1 + l.length = t.size := by simp at hi; omega
  refine Ev.step (f := fun k => spec_tyRead.j1 k t (x : Int) (i : Int) (bt t (i : Int) != 47) (w : Int) (h : Int) cs) (fun k => ?_) ?_
  ·rw [spec_tyRead.l0, if_pos (by omega), if_pos (by omega), if_pos (by omega)]
  rw [scan, h3]
  by_cases hc : c = 47
  ·subst hc
   rw [if_pos rfl]
   by_cases c1 : x = 0 ∨ (0 < h ∧ x ≠ w)
   ·rw [if_pos c1]
    refine Ev.step (f := fun _ => some (0, 0, [], false)) (fun k => ?_) (Ev.now _)
    rw [spec_tyRead.j1, if_neg (by decide)]
    by_cases c2 : (h : Int) > 0
    ·rw [if_pos c2]
     by_cases c3 : (x : Int) = (w : Int)
     ·rw [if_pos c3, if_pos (by omega)]
     ·rw [if_neg c3]
    ·rw [if_neg c2, if_pos (by omega)]
   ·rw [if_neg c1]
    refine Ev.step (f := fun k => spec_tyRead.l0 k t ((0 : Nat) : Int) ((i + 1 : Nat) : Int) (x : Int) ((h + 1 : Nat) : Int) cs) (fun k => ?_) (ih (i + 1) h2 hi' 0 x (h + 1) cs (Nat.zero_le _) hx0 hh2 (Nat.le_of_succ_le hc1))
    rw [spec_tyRead.j1, if_neg (by decide), hwr, hwh]
    by_cases c2 : (h : Int) > 0
    ·rw [if_pos c2, if_pos (by omega), if_neg (by omega)]
     rfl
    ·rw [if_neg c2, if_neg (by omega)]
     rfl
  ·rw [if_neg hc]
   have hne : ((c.toNat : Int) != 47) = true := by
    rw [bne_iff_ne]
    intro e
    apply hc
    have : c.toNat = 47 := by omega
    exact UInt8.toNat_inj.1 this
   rw [hne]
   have hz : (cs ++ [(c.toNat : Int)]).length ≤ i + 1 := by rw [List.length_append, List.length_singleton]; exact hc1
   have h5 := ih (i + 1) h2 hi' (x + 1) w h (cs ++ [(c.toNat : Int)]) hx1 hw1 hh1 hz
   by_cases ho : okc c = true
   ·rw [if_pos ho]
    exact Ev.step (f := fun k => spec_tyRead.l0 k t ((x + 1 : Nat) : Int) ((i + 1 : Nat) : Int) (w : Int) (h : Int) (cs ++ [(c.toNat : Int)])) (fun k => j1_go t x i w h k cs c hlt ht hx hcs h3 ⟨ho⟩) h5
   ·rw [if_neg ho]
    exact Ev.step (f := fun _ => some (0, 0, [], false)) (fun k => j1_stop t x i w h k cs c hlt ht h3 ⟨ho⟩) (Ev.now _)

theorem told_good (t : ByteArray) : told (scan t.data.toList 0 0 0 []) = if good t = true then ((W t : Int), (H t : Int), CS t, true) else (0, 0, [], false) := by
 rw [scan_eq]
 obtain ⟨r, rs, e⟩ := rows_form t
 have e' : splitC 47 t.data.toList = r :: rs := e
 have hW : W t = r.length := by unfold W; rw [e]; rfl
 have hH : H t = rs.length + 1 := by unfold H; rw [e]; rfl
 have hC : CS t = ints r ++ ints rs.flatten := by unfold CS; rw [e, List.flatten_cons, ints_append]
 rw [e']
 simp only [scanned, Nat.zero_add, List.nil_append]
 by_cases hs : shaped (r :: rs) = true
 ·obtain ⟨⟨h1, h2⟩, ⟨h3, h4⟩, h5⟩ := shaped_iff.1 hs
  have hall : rs.all (fun q => q.all okc && decide (q.length = r.length)) = true := by
   rw [List.all_eq_true]
   intro q hq
   have := h5 q (List.mem_cons_of_mem _ hq)
   simp only [Bool.and_eq_true, decide_eq_true_eq]
   exact this
  have hlen : (ints r ++ ints rs.flatten).length ≤ 36 := by
   rw [List.length_append, ints_length, ints_length, flat_len (n := r.length) (fun q hq => (h5 q (List.mem_cons_of_mem _ hq)).2)]
   have : r.length * (rs.length + 1) = r.length * rs.length + r.length := Nat.mul_succ _ _
   omega
  rw [if_pos ⟨⟨(h5 r (List.mem_cons_self ..)).1, by omega⟩, .inl trivial, hall⟩]
  simp only [told]
  rw [if_pos ⟨h2, by omega, hlen⟩, hW, hH, hC]
  have hg : good t = uniq [] (ints r ++ ints rs.flatten) := by
   unfold good named
   rw [e, hs, List.flatten_cons, ints_append]
   rfl
  rw [hg, Nat.add_comm 1]
 ·have hg : good t = false := by unfold good; rw [e, Bool.eq_false_iff.2 hs]; rfl
  rw [hg]
  simp only [Bool.false_eq_true, if_false]
  by_cases c : (r.all okc = true ∧ r.length ≠ 0) ∧ (True ∨ r.length = 0) ∧ rs.all (fun q => q.all okc && decide (q.length = r.length)) = true
  ·rw [if_pos c]
   simp only [told]
   rw [if_neg]
   rintro ⟨h1, h2, h3⟩
   apply hs
   have hq : ∀ q ∈ rs, q.all okc = true ∧ q.length = r.length := by
    intro q hq
    have := List.all_eq_true.1 c.2.2 q hq
    simpa only [Bool.and_eq_true, decide_eq_true_eq] using this
   rw [List.length_append, ints_length, ints_length, flat_len (n := r.length) (fun q h => (hq q h).2)] at h3
   have hm : r.length * (rs.length + 1) = r.length * rs.length + r.length := Nat.mul_succ _ _
   refine shaped_iff.2 ⟨⟨by omega, h1⟩, ⟨by omega, by omega⟩, ?_⟩
   intro q h
   rcases List.mem_cons.1 h with h | h
   ·subst h; exact ⟨c.1.1, rfl⟩
   ·exact hq q h
  ·rw [if_neg (fun c' => c ⟨c'.1, .inl trivial, c'.2.2⟩)]
   rfl

/-- THE REFERENCE's READING: a tray's columns, rows and cells; or nothing. -/
theorem tyRead_eq (t : ByteArray) : Ev (fun k => spec_tyRead.f k t) (if good t = true then ((W t : Int), (H t : Int), CS t, true) else (0, 0, [], false)) := by
 by_cases ht : t.size ≤ 42
 ·rw [← told_good t]
  have := l0_eq t ht t.data.toList 0 rfl (by rw [Array.length_toList]; rw [Nat.zero_add]; rfl) 0 0 0 [] (by omega) (by omega) (by omega) (by simp)
  refine Ev.congr (fun k => ?_) this
  show spec_tyRead.f k t = _
  rw [spec_tyRead.f, if_neg (by omega)]
  rfl
 ·have hg : good t = false := by
   cases h : good t with
   | false => rfl
   | true =>
    obtain ⟨h1, h2, h3, h4, h5, h6, h7⟩ := good_facts h
    omega
  rw [hg]
  refine ⟨0, fun k _ => ?_⟩
  show spec_tyRead.f k t = _
  rw [spec_tyRead.f, if_pos (by omega)]
  rfl

/-! ### the program's rows -/
theorem join_flat : ∀ l : List (List UInt8), Lib.join l [] = l.flatten
 | [] => rfl
 | x :: r => by
  rw [Lib.join_cons, List.flatten_cons]
  unfold Lib.joinTail
  simp
def rowsB (t : ByteArray) : List ByteArray := Lib.splitB ⟨#[47]⟩ 0 (Lib.countB t ⟨#[47]⟩) t
theorem rowsB_map (t : ByteArray) : (rowsB t).map (·.data.toList) = rowsOf t := by
 unfold rowsB rowsOf
 rw [Lib.splitB_data, ← splitK_eq]
theorem rowsB_len (t : ByteArray) : (rowsB t).length = H t := by
 unfold H
 rw [← rowsB_map, List.length_map]
theorem split_eq (t : ByteArray) (ht : t.size < 4294967281) : strings_Split.f t (⟨#[47]⟩ : ByteArray) = some (rowsB t) := by
 rw [strings_Split.f, if_pos (show (⟨#[47]⟩ : ByteArray).size = 1 from rfl), if_pos ht]
 rfl
theorem H_pos (t : ByteArray) : 1 ≤ H t := by
 obtain ⟨r, rs, e⟩ := rows_form t
 unfold H
 rw [e]
 simp
theorem rdOf_at (t : ByteArray) (i : Nat) (hi : i < H t) : ∃ b : ByteArray, ∃ q, rdOf ByteArray.empty (rowsB t) (i : Int) = b ∧ (rowsOf t)[i]? = some q ∧ b.data.toList = q ∧ b.size = q.length := by
 have hl : i < (rowsB t).length := by rw [rowsB_len]; exact hi
 refine ⟨(rowsB t)[i], (rowsB t)[i].data.toList, ?_, ?_, rfl, Lib.size_eq _⟩
 ·unfold rdOf
  rw [Int.toNat_natCast, List.getD_eq_getElem?_getD, List.getElem?_eq_getElem hl]
  rfl
 ·rw [← rowsB_map, List.getElem?_map, List.getElem?_eq_getElem hl]
  rfl
theorem rd0_size (t : ByteArray) : ((rdOf ByteArray.empty (rowsB t) 0).size : Int) = (W t : Int) := by
 obtain ⟨b, q, h1, h2, h3, h4⟩ := rdOf_at t 0 (H_pos t)
 have h1' : rdOf ByteArray.empty (rowsB t) 0 = b := h1
 rw [h1', h4]
 unfold W
 cases hr : rowsOf t with
 | nil => rw [hr] at h2; cases h2
 | cons r rs =>
  rw [hr] at h2
  have : r = q := by simpa using h2
  rw [this]
  rfl
/-- THE PROGRAM's READING: columns, rows and cells of any text. -/
theorem read_eq (t : ByteArray) (ht : t.size ≤ 1048576) : impl_read.f t = some ((W t : Int), (H t : Int), CS t) := by
 have hlen := splitC_len 47 t.data.toList
 have hz : t.data.toList.length = t.size := (Lib.size_eq t).symm
 have hH := H_pos t
 have hf : (rowsOf t).flatten.length ≤ t.size := by
  have : (splitC 47 t.data.toList).length = H t := rfl
  have e : (splitC 47 t.data.toList).flatten = (rowsOf t).flatten := rfl
  rw [this, e] at hlen
  omega
 have hHs : H t ≤ t.size + 1 := by
  have : (splitC 47 t.data.toList).length = H t := rfl
  omega
 have hj : (Lib.join ((rowsB t).map (·.data.toList)) (⟨#[]⟩ : ByteArray).data.toList) = (rowsOf t).flatten := by
  rw [rowsB_map]
  exact join_flat _
 have hb : bytesOf (⟨(rowsOf t).flatten.toArray⟩ : ByteArray) = CS t := rfl
 have hs : (⟨(rowsOf t).flatten.toArray⟩ : ByteArray).size = (rowsOf t).flatten.length := by rw [Lib.size_eq]
 rw [impl_read.f, split_eq t (by omega)]
 simp only [Option.bind_some]
 rw [rowsB_len, if_pos (by omega), strings_Join.f, if_pos (by rw [rowsB_len]; omega), hj, if_pos (by omega)]
 simp only [Option.bind_some]
 rw [if_pos (by rw [hs]; omega), rd0_size, hb]

theorem takeW_imp {p : UInt8 → Bool} {l : List UInt8} {x : UInt8} (h : x ∈ l.takeWhile p) : p x = true := List.all_eq_true.1 (List.all_takeWhile (p := p) (l := l)) x h
theorem dropW_nil {p : UInt8 → Bool} : ∀ {l : List UInt8}, (∀ x ∈ l, p x = true) → l.dropWhile p = []
 | [], _ => rfl
 | a :: l, h => by
  rw [List.dropWhile_cons, if_pos (h a (List.mem_cons_self ..))]
  exact dropW_nil fun x hx => h x (List.mem_cons_of_mem _ hx)
theorem trimS_nil (cs : List UInt8) (l : List UInt8) : Lib.trimS l cs = [] ↔ l.all (cs.contains ·) = true := by
 unfold Lib.trimS Lib.trimLeftS Lib.trimRightS
 rw [List.all_eq_true]
 constructor
 ·intro h
  have h1 : ∀ x ∈ (l.reverse.dropWhile (cs.contains ·)).reverse, cs.contains x = true := by
   intro x hx
   have h2 := List.takeWhile_append_dropWhile (p := (cs.contains ·)) (l := (l.reverse.dropWhile (cs.contains ·)).reverse)
   rw [h, List.append_nil] at h2
   rw [← h2] at hx
   exact takeW_imp hx
  intro x hx
  have h3 := List.takeWhile_append_dropWhile (p := (cs.contains ·)) (l := l.reverse)
  have h4 : x ∈ l.reverse := List.mem_reverse.2 hx
  rw [← h3] at h4
  rcases List.mem_append.1 h4 with h5 | h5
  ·exact takeW_imp h5
  ·exact h1 x (List.mem_reverse.2 h5)
 ·intro h
  have h1 : l.reverse.dropWhile (cs.contains ·) = [] := by
   refine dropW_nil ?_
   intro x hx
   exact h x (List.mem_reverse.1 hx)
  rw [h1]
  rfl
theorem cut_ok (b : UInt8) : ([35, 46, 111, 97, 98, 99, 100, 101, 102] : List UInt8).contains b = okc b := by
 have h : ∀ k : Fin 256, ([35, 46, 111, 97, 98, 99, 100, 101, 102] : List UInt8).contains (UInt8.ofNat k.val) = okc (UInt8.ofNat k.val) := by decide +kernel
 have := h ⟨b.toNat, b.toNat_lt⟩
 simpa using this
theorem trim_eq (b : ByteArray) (hb : b.size ≤ 9223372036854775807) : ∃ r, strings_Trim.f b (⟨#[35, 46, 111, 97, 98, 99, 100, 101, 102]⟩ : ByteArray) = some r ∧ (r.toList = [] ↔ b.data.toList.all okc = true) := by
 refine ⟨_, by rw [strings_Trim.f, if_pos hb, if_pos (by decide), if_pos (by decide)], ?_⟩
 rw [Lib.toList_data]
 have : (⟨(Lib.trimS b.data.toList [35, 46, 111, 97, 98, 99, 100, 101, 102]).toArray⟩ : ByteArray).data.toList = Lib.trimS b.data.toList [35, 46, 111, 97, 98, 99, 100, 101, 102] := rfl
 rw [show (⟨#[35, 46, 111, 97, 98, 99, 100, 101, 102]⟩ : ByteArray).data.toList = [35, 46, 111, 97, 98, 99, 100, 101, 102] from rfl, this, trimS_nil]
 rw [show (fun x => ([35, 46, 111, 97, 98, 99, 100, 101, 102] : List UInt8).contains x) = okc from funext cut_ok]

def rowOk (n : Nat) (q : List UInt8) : Bool := q.all okc && decide (q.length = n)
/-- The names' loop. -/
def nameOk (t : ByteArray) (n : Nat) : Bool := decide (t.data.toList.count (UInt8.ofNat n) ≤ 1)
theorem count_eq (t : ByteArray) (n : Nat) (h0 : 97 ≤ n) (h1 : n ≤ 102) : strings_Count.f t (Utf8.encode (n : Int)) = some ((t.data.toList.count (UInt8.ofNat n) : Nat) : Int) := by
 have he : ∀ k : Fin 103, 97 ≤ k.val → Utf8.encode (k.val : Int) = ⟨#[UInt8.ofNat k.val]⟩ := by decide +kernel
 have := he ⟨n, by omega⟩ h0
 have hx : Utf8.encode (n : Int) = ⟨#[UInt8.ofNat n]⟩ := this
 rw [hx, strings_Count.f, if_pos (show (⟨#[UInt8.ofNat n]⟩ : ByteArray).size = 1 from rfl)]
 show some ((Lib.count t.data.toList [UInt8.ofNat n] : Nat) : Int) = _
 rw [Lib.count_one]
theorem tl1_eq (t : ByteArray) : ∀ (d n : Nat), 103 - n = d → 97 ≤ n → n ≤ 103 → Ev (fun k => impl_IsTray.l1 k t (n : Int)) ((List.range' n (103 - n)).all (nameOk t)) := by
 intro d
 induction d with
 | zero =>
  intro n hd h0 h1
  have e : n = 103 := by omega
  subst e
  refine Ev.step (f := fun _ => some true) (fun k => ?_) (Ev.now _)
  rw [impl_IsTray.l1, if_neg (by omega)]
 | succ d ih =>
  intro n hd h0 h1
  have hw : wrap32 ((n : Int) + 1) = ((n + 1 : Nat) : Int) := by unfold wrap32; omega
  have e : 103 - n = (103 - (n + 1)) + 1 := by omega
  rw [e, List.range'_succ, List.all_cons]
  by_cases hc : t.data.toList.count (UInt8.ofNat n) ≤ 1
  ·have hn : nameOk t n = true := decide_eq_true hc
   rw [hn, Bool.true_and]
   refine Ev.step (f := fun k => impl_IsTray.l1 k t ((n + 1 : Nat) : Int)) (fun k => ?_) (ih (n + 1) (by omega) (by omega) (by omega))
   rw [impl_IsTray.l1, if_pos (by omega), count_eq t n h0 (by omega)]
   simp only [Option.bind_some]
   rw [if_neg (by omega), hw]
  ·have hn : nameOk t n = false := decide_eq_false hc
   rw [hn, Bool.false_and]
   refine Ev.step (f := fun _ => some false) (fun k => ?_) (Ev.now _)
   rw [impl_IsTray.l1, if_pos (by omega), count_eq t n h0 (by omega)]
   simp only [Option.bind_some]
   rw [if_pos (by omega)]
theorem tl0_eq (t : ByteArray) (ht : t.size ≤ 1048576) : ∀ (d i : Nat), H t - i = d → i ≤ H t →
  Ev (fun k => impl_IsTray.l0 k t (rowsB t) (rowsB t) ((rowsB t).length : Int) (i : Int)) (((rowsOf t).drop i).all (rowOk (W t)) && (List.range' 97 6).all (nameOk t)) := by
 have hHs : H t ≤ t.size + 1 := by
  have := splitC_len 47 t.data.toList
  have e : (splitC 47 t.data.toList).length = H t := rfl
  have hz : t.data.toList.length = t.size := (Lib.size_eq t).symm
  omega
 intro d
 induction d with
 | zero =>
  intro i hd hi
  have e : i = H t := by omega
  subst e
  have hdr : (rowsOf t).drop (H t) = [] := List.drop_length
  rw [hdr, List.all_nil, Bool.true_and]
  refine Ev.step (f := fun k => impl_IsTray.l1 k t ((97 : Nat) : Int)) (fun k => ?_) (tl1_eq t 6 97 rfl (by omega) (by omega))
  rw [impl_IsTray.l0, rowsB_len, if_neg (by omega)]
  rfl
 | succ d ih =>
  intro i hd hi
  have hlt : i < H t := by omega
  obtain ⟨b, q, h1, h2, h3, h4⟩ := rdOf_at t i hlt
  have hq : (rowsOf t).drop i = q :: (rowsOf t).drop (i + 1) := by
   have hl : i < (rowsOf t).length := hlt
   rw [List.drop_eq_getElem_cons hl]
   rw [List.getElem?_eq_getElem hl] at h2
   rw [Option.some.inj h2]
  have hw : wrap64 ((i : Int) + 1) = ((i + 1 : Nat) : Int) := by rw [wr (by omega) (by omega)]; rfl
  have hbs : b.size ≤ t.size := by
   rw [h4]
   have hm : q ∈ rowsOf t := List.mem_of_getElem? h2
   have h5 := splitC_len 47 t.data.toList
   have h6 : q.length ≤ (rowsOf t).flatten.length := by
    obtain ⟨l1, l2, e⟩ := List.append_of_mem hm
    rw [e, List.flatten_append, List.flatten_cons, List.length_append, List.length_append]
    omega
   have e : (splitC 47 t.data.toList).flatten = (rowsOf t).flatten := rfl
   have e2 : (splitC 47 t.data.toList).length = H t := rfl
   have hz : t.data.toList.length = t.size := (Lib.size_eq t).symm
   have := H_pos t
   rw [e, e2] at h5
   omega
  rw [hq, List.all_cons]
  obtain ⟨r, hr, hr2⟩ := trim_eq b (by omega)
  by_cases hW : q.length = W t
  ·by_cases ho : q.all okc = true
   ·have hrow : rowOk (W t) q = true := by unfold rowOk; rw [ho, decide_eq_true hW]; rfl
    rw [hrow, Bool.true_and]
    refine Ev.step (f := fun k => impl_IsTray.l0 k t (rowsB t) (rowsB t) ((rowsB t).length : Int) ((i + 1 : Nat) : Int)) (fun k => ?_) (ih (i + 1) (by omega) (by omega))
    rw [impl_IsTray.l0, rowsB_len, if_pos (by omega), if_pos (by omega), if_pos (by omega), if_pos (by omega), h1, rd0_size, h4, if_pos (by omega), hr]
    simp only [Option.bind_some]
    rw [if_pos (hr2.2 (by rw [h3]; exact ho)), hw]
   ·have hrow : rowOk (W t) q = false := by unfold rowOk; rw [Bool.eq_false_iff.2 ho]; rfl
    rw [hrow, Bool.false_and, Bool.false_and]
    refine Ev.step (f := fun _ => some false) (fun k => ?_) (Ev.now _)
    rw [impl_IsTray.l0, rowsB_len, if_pos (by omega), if_pos (by omega), if_pos (by omega), if_pos (by omega), h1, rd0_size, h4, if_pos (by omega), hr]
    simp only [Option.bind_some]
    rw [if_neg (fun h => ho (by rw [← h3]; exact hr2.1 h))]
  ·have hrow : rowOk (W t) q = false := by unfold rowOk; rw [decide_eq_false hW, Bool.and_false]
   rw [hrow, Bool.false_and, Bool.false_and]
   refine Ev.step (f := fun _ => some false) (fun k => ?_) (Ev.now _)
   rw [impl_IsTray.l0, rowsB_len, if_pos (by omega), if_pos (by omega), if_pos (by omega), if_pos (by omega), h1, rd0_size, h4, if_neg (by omega)]
theorem size_is (a b : Nat) (ha : a ≤ 1048577) (hb : b ≤ 1048577) : impl_isSize.f (a : Int) (b : Int) = some ((decide (1 ≤ a) && decide (a ≤ 7)) && ((decide (1 ≤ b) && decide (b ≤ 7)) && decide (a * b ≤ 36))) := by
 have hm : a * b ≤ 1048577 * 1048577 := Nat.mul_le_mul ha hb
 have hw : wrap64 ((a : Int) * (b : Int)) = ((a * b : Nat) : Int) := by rw [← Int.natCast_mul, wr (by omega) (by omega)]
 rw [impl_isSize.f, impl_within.f, impl_within.f, hw]
 by_cases h1 : 1 ≤ a
 ·by_cases h2 : a ≤ 7
  ·by_cases h3 : 1 ≤ b
   ·by_cases h4 : b ≤ 7
    ·have e1 : (1 : Int) ≤ a := by omega
     have e2 : (a : Int) ≤ 7 := by omega
     have e3 : (1 : Int) ≤ b := by omega
     have e4 : (b : Int) ≤ 7 := by omega
     have e5 : decide (((a * b : Nat) : Int) ≤ 36) = decide (a * b ≤ 36) := by
      by_cases h : a * b ≤ 36
      ·rw [decide_eq_true h, decide_eq_true (by omega)]
      ·rw [decide_eq_false h, decide_eq_false (by omega)]
     rw [e5]
     simp only [e1, e2, e3, e4, h1, h2, h3, h4, if_true, decide_true, Option.bind_some, Bool.true_and]
    ·have e1 : (1 : Int) ≤ a := by omega
     have e2 : (a : Int) ≤ 7 := by omega
     have e3 : (1 : Int) ≤ b := by omega
     have e4 : ¬ (b : Int) ≤ 7 := by omega
     simp [e1, e2, e3, e4, h1, h2, h3, h4]
   ·have e1 : (1 : Int) ≤ a := by omega
    have e2 : (a : Int) ≤ 7 := by omega
    have e3 : ¬ (1 : Int) ≤ b := by omega
    simp [e1, e2, e3, h1, h2, h3]
  ·have e1 : (1 : Int) ≤ a := by omega
   have e2 : ¬ (a : Int) ≤ 7 := by omega
   simp [e1, e2, h1, h2]
 ·have e1 : ¬ (1 : Int) ≤ a := by omega
  simp [e1, h1]
theorem ints_count (l : List UInt8) (n : Nat) (h : n < 256) : (ints l).count (n : Int) = l.count (UInt8.ofNat n) := by
 induction l with
 | nil => rfl
 | cons b l ih =>
  have e : ints (b :: l) = (b.toNat : Int) :: ints l := rfl
  rw [e, List.count_cons, List.count_cons, ih]
  congr 1
  by_cases hb : b = UInt8.ofNat n
  ·subst hb
   have : (UInt8.ofNat n).toNat = n := by simp; omega
   simp [this]
  ·have h2 : ¬ ((b.toNat : Int) = (n : Int)) := by
    intro e2
    apply hb
    have e3 : b.toNat = n := by omega
    rw [← e3]
    simp
   simp [hb, h2]
theorem named_iff (t : ByteArray) : named (rowsOf t) = (List.range' 97 6).all (nameOk t) := by
 rw [Bool.eq_iff_iff]
 unfold named
 rw [uniq_iff _ [] (fun n _ => by simp), List.nil_append, List.all_eq_true]
 constructor
 ·intro h n hn
  have hr : 97 ≤ n ∧ n < 103 := by
   have := List.mem_range'_1.1 hn
   omega
  unfold nameOk
  rw [decide_eq_true_eq]
  have h2 := h (n : Int) (by unfold isNm; rw [decide_eq_true (by omega), decide_eq_true (by omega)]; rfl)
  rw [ints_count _ n (by omega)] at h2
  have h3 := splitC_count 47 (UInt8.ofNat n) (by
   intro e
   have e2 : (UInt8.ofNat n).toNat = (47 : UInt8).toNat := by rw [e]
   simp at e2
   omega) t.data.toList
  have h4 : (rowsOf t).flatten = (splitC 47 t.data.toList).flatten := rfl
  rw [h4, h3] at h2
  exact h2
 ·intro h n hn
  unfold isNm at hn
  simp only [Bool.and_eq_true, decide_eq_true_eq] at hn
  obtain ⟨m, rfl⟩ := Int.eq_ofNat_of_zero_le (show 0 ≤ n by omega)
  have h2 := h m (List.mem_range'_1.2 (by omega))
  unfold nameOk at h2
  rw [decide_eq_true_eq] at h2
  show (ints (rowsOf t).flatten).count (m : Int) ≤ 1
  rw [ints_count _ m (by omega)]
  have h3 := splitC_count 47 (UInt8.ofNat m) (by
   intro e
   have e2 : (UInt8.ofNat m).toNat = (47 : UInt8).toNat := by rw [e]
   simp at e2
   omega) t.data.toList
  have h4 : (rowsOf t).flatten = (splitC 47 t.data.toList).flatten := rfl
  rw [h4, h3]
  exact h2
/-- THE PROGRAM's TEST. -/
theorem isTray_eq (t : ByteArray) (ht : t.size ≤ 1048576) : Ev (fun k => impl_IsTray.f k t) (good t) := by
 have hHs : H t ≤ t.size + 1 ∧ W t ≤ t.size := by
  have h5 := splitC_len 47 t.data.toList
  have e : (splitC 47 t.data.toList).length = H t := rfl
  have hz : t.data.toList.length = t.size := (Lib.size_eq t).symm
  have hp := H_pos t
  obtain ⟨r, rs, e2⟩ := rows_form t
  have hW : W t = r.length := by unfold W; rw [e2]; rfl
  have e3 : (splitC 47 t.data.toList).flatten = (rowsOf t).flatten := rfl
  rw [e3, e2, List.flatten_cons, List.length_append] at h5
  omega
 obtain ⟨r, rs, e⟩ := rows_form t
 have hW : W t = r.length := by unfold W; rw [e]; rfl
 have hH : H t = rs.length + 1 := by unfold H; rw [e]; rfl
 have hgood : good t = (((decide (1 ≤ W t) && decide (W t ≤ 7)) && ((decide (1 ≤ H t) && decide (H t ≤ 7)) && decide (W t * H t ≤ 36))) && ((rowsOf t).all (rowOk (W t)) && (List.range' 97 6).all (nameOk t))) := by
  unfold good
  rw [named_iff, e]
  unfold shaped
  rw [hW, hH]
  have h1 : decide (1 ≤ rs.length + 1) = true := decide_eq_true (by omega)
  rw [h1, Bool.true_and, Bool.and_assoc]
  rfl
 have h0 := tl0_eq t ht (H t) 0 rfl (by omega)
 rw [List.drop_zero] at h0
 by_cases hs : ((decide (1 ≤ W t) && decide (W t ≤ 7)) && ((decide (1 ≤ H t) && decide (H t ≤ 7)) && decide (W t * H t ≤ 36))) = true
 ·rw [hgood, hs, Bool.true_and]
  refine Ev.congr (fun k => ?_) h0
  show impl_IsTray.f k t = _
  rw [impl_IsTray.f, split_eq t (by omega)]
  simp only [Option.bind_some]
  rw [rowsB_len, if_pos (by omega), rd0_size, size_is _ _ (by omega) (by omega), hs]
  simp only [Option.bind_some, if_true]
  rfl
 ·rw [hgood, Bool.eq_false_iff.2 hs, Bool.false_and]
  refine ⟨0, fun k _ => ?_⟩
  show impl_IsTray.f k t = _
  rw [impl_IsTray.f, split_eq t (by omega)]
  simp only [Option.bind_some]
  rw [rowsB_len, if_pos (by omega), rd0_size, size_is _ _ (by omega) (by omega), Bool.eq_false_iff.2 hs]
  rfl
end Go.Proofs.YtplifefnjeledaaDoorL
