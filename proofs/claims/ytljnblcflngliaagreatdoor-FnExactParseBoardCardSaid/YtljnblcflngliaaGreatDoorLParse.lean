/- Boards read from texts: what the reference's l1Split, l1Read and the library's Split, Atoi make of bytes. -/
import Derived.Test.YtljnblcflngliaaGreatDoorMSplit
import Derived.Test.YtljnblcflngliaaGreatDoorLBTextP
import Derived.Test.YtljnblcflngliaaGreatDoorVParse
import Derived.Test.YtljnblcflngliaaGreatDoorQx1
import Derived.Test.YtljnblcflngliaaGreatDoorQx2
set_option linter.unusedVariables false
set_option linter.unusedSimpArgs false
namespace Go.Proofs.YtljnblcflngliaaGreatDoorL
open Go.RowKit Go.Proofs.YtljnblcflngliaaGreatDoor.Q Go.Proofs.YtljnblcflngliaaGreatDoorW.PrintWords Go.Proofs.YtljnblcflngliaaGreatDoorW.PrintLast Go.Proofs.YtljnblcflngliaaGreatDoorV Go.Proofs.YtljnblcflngliaaGreatDoorM
theorem bts_of (x : ByteArray) : bts x.data.toList = x := by
  apply ByteArray.ext
  simp [bts]
theorem bts_data (l : List UInt8) : (bts l).data.toList = l := by simp [bts]
/-! ### cutting -/
theorem cut_eq (c : UInt8) (s : ByteArray) : PB.cut c s = (splitC c s.data.toList).map bts := by
  have h : (PB.cut c s).map (·.data.toList) = splitC c s.data.toList := by
    unfold PB.cut
    rw [Lib.splitB_data, ← splitK_eq]
  rw [← h, List.map_map]
  conv => lhs; rw [← List.map_id (PB.cut c s)]
  apply List.map_congr_left
  intro x _
  exact (bts_of x).symm
theorem bt_at (s : ByteArray) (i : Nat) (h : i < s.size) : bt s (i : Int) = (((s.data.toList[i]'(by rw [Array.length_toList]; exact h)).toNat : Nat) : Int) := by
  unfold bt
  rw [dif_pos (show (i : Int).toNat < s.size by rw [Int.toNat_natCast]; exact h)]
  simp only [Int.toNat_natCast]
  rfl
theorem ext_eq (s : ByteArray) (a b : Nat) : s.extract a b = bts ((s.data.toList.drop a).take (b - a)) := by
  rw [← bts_of (s.extract a b), Lib.extract_data]
theorem split_l0 (s : ByteArray) (c : UInt8) (hs : s.size ≤ 1048576) : ∀ (d i fr : Nat) (out : List ByteArray) (r : List UInt8) (rs : List (List UInt8)), s.size - i = d → i ≤ s.size → fr ≤ i → out.length ≤ i → splitC c (s.data.toList.drop i) = r :: rs →
    Ev (fun k => spec_l1Split.l0 k s (c.toNat : Int) out (fr : Int) (i : Int)) (out ++ bts ((s.data.toList.drop fr).take (i - fr) ++ r) :: rs.map bts) := by
  have hsz : s.data.toList.length = s.size := by rw [Array.length_toList]; rfl
  intro d
  induction d with
  | zero =>
    intro i fr out r rs hd hi hf ho he
    have e : i = s.size := by omega
    subst e
    have g : ¬ ((s.size : Int) < (s.size : Int)) := by omega
    have g0 : (0 : Int) ≤ (fr : Int) := by omega
    have g1 : (fr : Int) ≤ (s.size : Int) := by omega
    have g2 : out.length < 8796093022208 := by omega
    rw [List.drop_eq_nil_of_le (by omega)] at he
    obtain ⟨rfl, rfl⟩ := List.cons.inj he
    refine Ev.step (f := fun _ => some (out ++ [s.extract fr s.size])) (fun k => by rw [spec_l1Split.l0, if_neg g, if_pos g0, if_pos g1, if_pos g2, Int.toNat_natCast]) ?_
    rw [ext_eq, List.append_nil]
    exact Ev.now _
  | succ d ih =>
    intro i fr out r rs hd hi hf ho he
    have hlt : i < s.size := by omega
    have hlt2 : i < s.data.toList.length := by omega
    have g : (i : Int) < (s.size : Int) := by omega
    have gi : (0 : Int) ≤ (i : Int) := by omega
    have e : wrap64 ((i : Int) + 1) = ((i + 1 : Nat) : Int) := wb (by omega) rfl
    have hb := bt_at s i hlt
    obtain ⟨r', rs', h'⟩ := splitC_form c (s.data.toList.drop (i + 1))
    rw [List.drop_eq_getElem_cons hlt2] at he
    by_cases hc : s.data.toList[i] = c
    · rw [hc, splitC_at, h'] at he
      obtain ⟨rfl, rfl⟩ := List.cons.inj he
      have g0 : (0 : Int) ≤ (fr : Int) := by omega
      have g1 : (fr : Int) ≤ (i : Int) := by omega
      have g2 : (i : Int) ≤ (s.size : Int) := by omega
      have g3 : out.length < 8796093022208 := by omega
      have h1 := ih (i + 1) (i + 1) (out ++ [s.extract fr i]) r' rs' (by omega) (by omega) (Nat.le_refl _) (by simp; omega) h'
      rw [Nat.sub_self, List.take_zero, List.nil_append, ext_eq, List.append_assoc] at h1
      rw [List.append_nil, List.map_cons]
      refine Ev.step (fun k => ?_) h1
      rw [spec_l1Split.l0, if_pos g, if_pos gi, hb, hc, if_pos rfl, if_pos g0, if_pos g1, if_pos g2, if_pos g3, e, Int.toNat_natCast, Int.toNat_natCast, ext_eq]
    · rw [splitC_ne hc h'] at he
      obtain ⟨rfl, rfl⟩ := List.cons.inj he
      have h1 := ih (i + 1) fr out r' rs' (by omega) (by omega) (by omega) (by omega) h'
      have hne : ¬ (((s.data.toList[i]).toNat : Nat) : Int) = (c.toNat : Int) := fun h => hc (UInt8.toNat_inj.1 (by omega))
      have et : (s.data.toList.drop fr).take (i + 1 - fr) = (s.data.toList.drop fr).take (i - fr) ++ [s.data.toList[i]] := by
        have e1 : i + 1 - fr = (i - fr) + 1 := by omega
        have hl : i - fr < (s.data.toList.drop fr).length := by rw [List.length_drop]; omega
        rw [e1, List.take_succ_eq_append_getElem hl, List.getElem_drop]
        congr 3
        omega
      rw [et, List.append_assoc] at h1
      refine Ev.step (fun k => ?_) h1
      rw [spec_l1Split.l0, if_pos g, if_pos gi, hb, if_neg hne, e]
theorem split_eq (s : ByteArray) (c : UInt8) (hs : s.size ≤ 1048576) : Ev (fun k => spec_l1Split.f k s (c.toNat : Int)) (PB.cut c s) := by
  obtain ⟨r, rs, h⟩ := splitC_form c s.data.toList
  have h1 := split_l0 s c hs s.size 0 0 [] r rs rfl (Nat.zero_le _) (Nat.le_refl _) (Nat.le_refl _) h
  rw [cut_eq, h]
  exact Ev.congr (fun k => rfl) h1
/-! ### numbers -/
def dec : List UInt8 → Nat → Int
  | [], n => (n : Int)
  | b :: t, n => if b.toNat < 48 then -1 else if b.toNat > 57 then -1 else dec t (10 * n + (b.toNat - 48))
def rdV (l : List UInt8) : Int := if 1 ≤ l.length ∧ l.length ≤ 6 then (if l.head? = some 48 ∧ l.length > 1 then -1 else dec l 0) else -1
theorem read_l0 (s : ByteArray) (hs : s.size ≤ 6) : ∀ (d i n : Nat), s.size - i = d → i ≤ s.size → n < 10 ^ i → Ev (fun k => spec_l1Read.l0 k s (n : Int) (i : Int)) (dec (s.data.toList.drop i) n) := by
  have hsz : s.data.toList.length = s.size := by rw [Array.length_toList]; rfl
  intro d
  induction d with
  | zero =>
    intro i n hd hi hn
    have e : i = s.size := by omega
    subst e
    have g : ¬ ((s.size : Int) < (s.size : Int)) := by omega
    rw [List.drop_eq_nil_of_le (by omega)]
    exact Ev.step (f := fun _ => some (n : Int)) (fun k => by rw [spec_l1Read.l0, if_neg g]) (Ev.now _)
  | succ d ih =>
    intro i n hd hi hn
    have hlt : i < s.size := by omega
    have hlt2 : i < s.data.toList.length := by omega
    have g : (i : Int) < (s.size : Int) := by omega
    have gi : (0 : Int) ≤ (i : Int) := by omega
    have e : wrap64 ((i : Int) + 1) = ((i + 1 : Nat) : Int) := wb (by omega) rfl
    have hb := bt_at s i hlt
    have d1 : s.size - (i + 1) = d := by omega
    have d2 : i + 1 ≤ s.size := by omega
    have hn6 : n < 100000 := Nat.lt_of_lt_of_le hn (show 10 ^ i ≤ 10 ^ 5 from Nat.pow_le_pow_right (by decide) (by omega))
    have hnx : Aside0 (∀ z : Nat, z ≤ 9 → 10 * n + z < 10 ^ (i + 1)) := Aside0.mk (fun z hz => by
      have hp : 10 ^ (i + 1) = 10 ^ i * 10 := Nat.pow_succ ..
      rw [hp]
      generalize 10 ^ i = p at hn
      omega)
    clear hn
    rw [List.drop_eq_getElem_cons hlt2, dec]
    generalize s.data.toList[i] = b at *
    by_cases h1 : b.toNat < 48
    · have h1' : ((b.toNat : Nat) : Int) < 48 := by omega
      rw [if_pos h1]
      exact Ev.step (f := fun _ => some (-1)) (fun k => by rw [spec_l1Read.l0, if_pos g, if_pos gi, hb, if_pos h1']) (Ev.now _)
    · have h1' : ¬ ((b.toNat : Nat) : Int) < 48 := by omega
      rw [if_neg h1]
      by_cases h2 : b.toNat > 57
      · have h2' : ((b.toNat : Nat) : Int) > 57 := by omega
        rw [if_pos h2]
        exact Ev.step (f := fun _ => some (-1)) (fun k => by rw [spec_l1Read.l0, if_pos g, if_pos gi, hb, if_neg h1', if_pos h2']) (Ev.now _)
      · have h2' : ¬ ((b.toNat : Nat) : Int) > 57 := by omega
        rw [if_neg h2]
        have d3 : b.toNat - 48 ≤ 9 := by omega
        have h3 := ih (i + 1) (10 * n + (b.toNat - 48)) d1 d2 (hnx.out _ d3)
        have e1 : wrap64 (10 * (n : Int)) = ((10 * n : Nat) : Int) := wb (by omega) (by omega)
        have e2 : (((b.toNat : Nat) : Int) - 48) % 256 = ((b.toNat - 48 : Nat) : Int) := by omega
        have e3 : wrap64 (((10 * n : Nat) : Int) + ((b.toNat - 48 : Nat) : Int)) = ((10 * n + (b.toNat - 48) : Nat) : Int) := wb (by omega) (by omega)
        refine Ev.step (fun k => ?_) h3
        rw [spec_l1Read.l0, if_pos g, if_pos gi, hb, if_neg h1', if_neg h2', e1, e2, e3, e]
theorem read_eq (s : ByteArray) : Ev (fun k => spec_l1Read.f k s) (rdV s.data.toList) := by
  have hsz : s.data.toList.length = s.size := by rw [Array.length_toList]; rfl
  have J1 : Ev (fun k => spec_l1Read.j0 k s true) (-1) := Ev.step (f := fun _ => some (-1)) (fun k => by rw [spec_l1Read.j0, if_pos rfl]) (Ev.now _)
  have hl : ∀ (b : Bool), spec_l1In.f (s.size : Int) 1 6 = some b → b = decide (1 ≤ s.size ∧ s.size ≤ 6) := by
    intro b h
    rw [spec_l1In.f] at h
    by_cases h1 : 1 ≤ (s.size : Int)
    · rw [if_pos h1] at h
      obtain rfl := Option.some.inj h
      by_cases h2 : (s.size : Int) ≤ 6
      · rw [decide_eq_true h2, decide_eq_true (by omega)]
      · rw [decide_eq_false h2, decide_eq_false (by omega)]
    · rw [if_neg h1] at h
      obtain rfl := Option.some.inj h
      rw [decide_eq_false (by omega)]
  obtain ⟨b, hb⟩ : ∃ b, spec_l1In.f (s.size : Int) 1 6 = some b := by
    rw [spec_l1In.f]
    split <;> exact ⟨_, rfl⟩
  have hb2 := hl b hb
  unfold rdV
  rw [hsz]
  by_cases h1 : 1 ≤ s.size ∧ s.size ≤ 6
  · rw [decide_eq_true h1] at hb2
    subst hb2
    rw [if_pos h1]
    have g0 : (0 : Int) < (s.size : Int) := by omega
    have h0 : 0 < s.data.toList.length := by omega
    have hbt := bt_at s 0 (by omega)
    have hh : s.data.toList.head? = some (s.data.toList[0]) := by rw [List.head?_eq_getElem?, List.getElem?_eq_getElem h0]
    have R := read_l0 s h1.2 s.size 0 0 rfl (Nat.zero_le _) (by simp)
    rw [List.drop_zero] at R
    have J0 : Ev (fun k => spec_l1Read.j0 k s false) (dec s.data.toList 0) := Ev.step (fun k => by rw [spec_l1Read.j0, if_neg (by decide)]; rfl) R
    by_cases h48 : s.data.toList[0] = 48
    · have hbt2 : bt s 0 = 48 := by
        have : bt s ((0 : Nat) : Int) = 48 := by rw [hbt, h48]; rfl
        exact this
      by_cases hg : s.size > 1
      · rw [if_pos ⟨by rw [hh, h48], hg⟩]
        refine Ev.congr (fun k => ?_) J1
        rw [spec_l1Read.f, hb, Option.bind_some, if_pos rfl, if_pos g0, if_pos hbt2, decide_eq_true (by omega)]
      · rw [if_neg (fun h => hg h.2)]
        refine Ev.congr (fun k => ?_) J0
        rw [spec_l1Read.f, hb, Option.bind_some, if_pos rfl, if_pos g0, if_pos hbt2, decide_eq_false (by omega)]
    · have hbt2 : ¬ bt s 0 = 48 := by
        intro h
        have h2 : bt s ((0 : Nat) : Int) = 48 := h
        rw [hbt] at h2
        exact h48 (UInt8.toNat_inj.1 (by show _ = 48; omega))
      rw [if_neg (fun h => h48 (by rw [hh] at h; exact Option.some.inj h.1))]
      refine Ev.congr (fun k => ?_) J0
      rw [spec_l1Read.f, hb, Option.bind_some, if_pos rfl, if_pos g0, if_neg hbt2]
  · rw [decide_eq_false h1] at hb2
    subst hb2
    rw [if_neg h1]
    refine Ev.congr (fun k => ?_) J1
    rw [spec_l1Read.f, hb, Option.bind_some, if_neg (by decide)]
theorem dec_big : ∀ (t : List UInt8) (n : Nat), dec t n = -1 ∨ (n : Int) ≤ dec t n
  | [], n => .inr (Int.le_refl _)
  | b :: t, n => by
    rw [dec]
    split
    · exact .inl rfl
    · split
      · exact .inl rfl
      · rcases dec_big t (10 * n + (b.toNat - 48)) with h | h
        · exact .inl h
        · exact .inr (by omega)
/-- A digit is read from one byte alone. -/
theorem rdV_digit {l : List UInt8} (h0 : 0 ≤ rdV l) (h9 : rdV l < 10) : l = [dg (rdV l)] := by
  unfold rdV at h0 h9 ⊢
  split at h0
  · rename_i h1
    rw [if_pos h1] at h9 ⊢
    split at h0
    · omega
    · rename_i h2
      rw [if_neg h2] at h9 ⊢
      match l, h1, h2 with
      | [b], h1, h2 =>
        rw [dec] at h0 h9 ⊢
        split at h0
        · omega
        · split at h0
          · omega
          · rename_i k1 k2
            rw [if_neg k1, if_neg k2] at h9 ⊢
            show [b] = [dg ((0 + (b.toNat - 48) : Nat) : Int)]
            congr 1
            unfold dg
            have e : 48 + (((0 + (b.toNat - 48) : Nat) : Int)).toNat = b.toNat := by omega
            rw [e]
            exact UInt8.toNat_inj.1 (by simp)
      | b :: c :: t, h1, h2 =>
        exfalso
        rw [dec] at h0 h9
        split at h0
        · omega
        · split at h0
          · omega
          · rename_i k1 k2
            rw [if_neg k1, if_neg k2] at h9
            have hb : b ≠ 48 := fun e => h2 ⟨by rw [e]; rfl, by simp⟩
            have hb2 : b.toNat ≠ 48 := fun e => hb (UInt8.toNat_inj.1 e)
            rw [dec] at h0 h9
            split at h0
            · omega
            · split at h0
              · omega
              · rename_i k3 k4
                rw [if_neg k3, if_neg k4] at h9
                rcases dec_big t (10 * (10 * 0 + (b.toNat - 48)) + (c.toNat - 48)) with h | h <;> omega
  · omega
theorem dg_toNat (x : Int) (h0 : 0 ≤ x) (h1 : x < 10) : (dg x).toNat = 48 + x.toNat := by
  unfold dg
  rw [UInt8.toNat_ofNat']
  omega
theorem rdV_dg (x : Int) (h0 : 0 ≤ x) (h1 : x < 10) : rdV [dg x] = x := by
  have e := dg_toNat x h0 h1
  unfold rdV
  rw [if_pos (by simp), if_neg (fun h => by have := h.2; simp at this), dec, if_neg (by omega), if_neg (by omega), dec]
  omega
theorem atoi_dg (x : Int) (h0 : 0 ≤ x) (h1 : x < 10) : PB.atoiV (bts [dg x]) = some x := by
  have hx : x = 0 ∨ x = 1 ∨ x = 2 ∨ x = 3 ∨ x = 4 ∨ x = 5 ∨ x = 6 ∨ x = 7 ∨ x = 8 ∨ x = 9 := by omega
  rcases hx with rfl | rfl | rfl | rfl | rfl | rfl | rfl | rfl | rfl | rfl <;> decide +kernel
end Go.Proofs.YtljnblcflngliaaGreatDoorL
