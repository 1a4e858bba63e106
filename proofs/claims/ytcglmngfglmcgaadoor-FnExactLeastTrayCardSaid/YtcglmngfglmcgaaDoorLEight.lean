/- The eight trays, turned and mirrored: the reference's list and the program's list of texts. -/
import Derived.Test.YtcglmngfglmcgaaDoorLMir
import Derived.Test.YtcglmngfglmcgaaDoorVMv
import Derived.Test.YtcglmngfglmcgaaDoorQx5
import Derived.Test.YtcglmngfglmcgaaDoorQx10
set_option linter.unusedVariables false
set_option linter.unusedSimpArgs false
namespace Go.Proofs.YtcglmngfglmcgaaDoorL
open Go.RowKit Go.Proofs.YtcglmngfglmcgaaDoor.Q Go.Proofs.YtcglmngfglmcgaaDoorW.PrintWords Go.Proofs.YtcglmngfglmcgaaDoorW.PrintLast Go.Proofs.YtcglmngfglmcgaaDoorM Go.Proofs.YtcglmngfglmcgaaDoorV
/-- A tray: columns, rows, cells. -/
structure Gr where
  w : Nat
  h : Nat
  cs : List UInt8
structure GOk (g : Gr) : Prop where
  len : g.cs.length = g.w * g.h
  w0 : 0 < g.w
  h0 : 0 < g.h
  w7 : g.w ≤ 7
  h7 : g.h ≤ 7
  m : g.w * g.h ≤ 36
def tG (g : Gr) : Gr := ⟨g.h, g.w, (turnG g.w g.h g.cs).flatten⟩
def mG (g : Gr) : Gr := ⟨g.w, g.h, (mirG g.w g.h g.cs).flatten⟩
theorem tG_ok {g : Gr} (h : GOk g) : GOk (tG g) := ⟨turnG_flat _ _ _, h.h0, h.w0, h.h7, h.w7, by rw [show (tG g).w * (tG g).h = g.h * g.w from rfl, Nat.mul_comm]; exact h.m⟩
theorem mG_ok {g : Gr} (h : GOk g) : GOk (mG g) := ⟨mirG_flat _ _ _, h.w0, h.h0, h.w7, h.h7, h.m⟩
def pick (n : Nat) (f : Nat → Nat) (cs : List UInt8) : List UInt8 := (List.range n).map fun p => cs.getD (f p) 0
theorem pick_at {n : Nat} {f : Nat → Nat} {cs : List UInt8} {p : Nat} (hp : p < n) : (pick n f cs).getD p 0 = cs.getD (f p) 0 := by
  unfold pick
  simp [List.getD, hp]
theorem turn_pick {w h : Nat} (hw : w ≤ 7) (hh : h ≤ 7) (hm : w * h ≤ 36) (cs : List UInt8) : (turnG w h cs).flatten = pick (w * h) (srcT w h) cs := by
  rw [← partT_all hw hh hm cs]
  unfold partT pick
  refine List.map_congr_left fun p hp => ?_
  have hp := List.mem_range.1 hp
  have := (src_lt ⟨w, by omega⟩ ⟨h, by omega⟩ ⟨p, by omega⟩ hp).1
  rw [if_pos this]
theorem pick_pick {n : Nat} {f g : Nat → Nat} {cs : List UInt8} (hg : ∀ p, p < n → g p < n) : pick n g (pick n f cs) = pick n (fun p => f (g p)) cs := by
  show (List.range n).map _ = (List.range n).map _
  refine List.map_congr_left fun p hp => ?_
  exact pick_at (hg p (List.mem_range.1 hp))
theorem pick_id {n : Nat} {f : Nat → Nat} {cs : List UInt8} (hl : cs.length = n) (hf : ∀ p, p < n → f p = p) : pick n f cs = cs := by
  apply List.ext_getElem
  · simp [pick, hl]
  · intro i h1 h2
    have hi : i < n := by omega
    simp [pick, hf i hi, List.getD, h2]
theorem src4 : ∀ w h : Fin 8, ∀ k : Fin 37, k.val < w.val * h.val → srcT w.val h.val (srcT h.val w.val (srcT w.val h.val (srcT h.val w.val k.val))) = k.val := by decide +kernel
theorem turn4 {g : Gr} (h : GOk g) : tG (tG (tG (tG g))) = g := by
  obtain ⟨w, hh, cs⟩ := g
  obtain ⟨l, w0, h0, w7, h7, m⟩ := h
  dsimp only at l w0 h0 w7 h7 m
  have m' : hh * w ≤ 36 := by rw [Nat.mul_comm]; exact m
  have s1 : ∀ p, p < w * hh → srcT w hh p < w * hh := fun p hp => (src_lt ⟨w, by omega⟩ ⟨hh, by omega⟩ ⟨p, by omega⟩ hp).1
  have s2 : ∀ p, p < w * hh → srcT hh w p < w * hh := fun p hp => by
    have := (src_lt ⟨hh, by omega⟩ ⟨w, by omega⟩ ⟨p, by omega⟩ (by show p < hh * w; rw [Nat.mul_comm]; exact hp)).1
    have e : hh * w = w * hh := Nat.mul_comm ..
    rw [← e]
    exact this
  unfold tG
  dsimp only
  rw [turn_pick w7 h7 m, turn_pick h7 w7 m', turn_pick w7 h7 m, turn_pick h7 w7 m', Nat.mul_comm hh w, pick_pick (cs := cs) (f := srcT w hh) s2, pick_pick (f := srcT w hh) s2, pick_pick (fun p hp => s1 _ (s2 p hp)), pick_id l]
  intro p hp
  exact src4 ⟨w, by omega⟩ ⟨hh, by omega⟩ ⟨p, by omega⟩ hp
def itG : Nat → Gr → Gr
  | 0, g => g
  | n + 1, g => itG n (tG g)
theorem itG_ok : ∀ (n : Nat) {g : Gr}, GOk g → GOk (itG n g)
  | 0, _, h => h
  | n + 1, _, h => itG_ok n (tG_ok h)
/-- The tray behind a move. -/
def mvG (i : Nat) (g : Gr) : Gr := itG (i % 4) (if 4 ≤ i then mG g else g)
theorem mvG_ok (i : Nat) {g : Gr} (h : GOk g) : GOk (mvG i g) := by
  unfold mvG
  split
  · exact itG_ok _ (mG_ok h)
  · exact itG_ok _ h
/-- The reference's order of them. -/
def nxG (i : Nat) (g : Gr) : Gr := if i = 3 then mG (tG g) else tG g
theorem nx_mv {g : Gr} (h : GOk g) (i : Nat) (hi : i < 7) : nxG i (mvG i g) = mvG (i + 1) g := by
  have : i = 0 ∨ i = 1 ∨ i = 2 ∨ i = 3 ∨ i = 4 ∨ i = 5 ∨ i = 6 := by omega
  rcases this with rfl | rfl | rfl | rfl | rfl | rfl | rfl
  · rfl
  · rfl
  · rfl
  · show mG (tG (tG (tG (tG g)))) = mG g
    rw [turn4 h]
  · rfl
  · rfl
  · rfl
def gT (g : Gr) : ByteArray := T g.w g.cs
theorem it_ev : ∀ (n : Nat) {g : Gr}, GOk g → Ev (fun k => itL (fun a b l => impl_tray_turned.f k a b l) n (g.w : Int) (g.h : Int) (ints g.cs)) (((itG n g).w : Int), ((itG n g).h : Int), ints (itG n g).cs) := by
  intro n
  induction n with
  | zero => exact fun h => Ev.now _
  | succ n ih =>
    intro g h
    exact Ev.bind (turned_eq h.len h.w0 h.h0 h.w7 h.h7 h.m) (ih (tG_ok h))
theorem moved_ev {g : Gr} (h : GOk g) (i : Nat) : Ev (fun k => impl_tray_moved.f k (g.w : Int) (g.h : Int) (ints g.cs) (i : Int)) (((mvG i g).w : Int), ((mvG i g).h : Int), ints (mvG i g).cs) := by
  have e0 : (0 : Int) ≤ (i : Int) := by omega
  have e1 : ((i : Int) % 4).toNat = i % 4 := by omega
  by_cases h4 : 4 ≤ i
  · have g4 : (4 : Int) ≤ (i : Int) := by omega
    have M := mirrored_eq h.len h.w0 h.h0 (by have := h.w7; omega) (by have := h.h7; omega)
    have I := it_ev (i % 4) (mG_ok h)
    have e2 : mvG i g = itG (i % 4) (mG g) := by unfold mvG; rw [if_pos h4]
    rw [e2]
    refine Ev.congr (g := _) (r := _) (fun k => ?_) I
    unfold impl_tray_moved.f
    rw [if_pos e0, if_pos g4, M, Option.bind_some, e1]
    rfl
  · have g4 : ¬ (4 : Int) ≤ (i : Int) := by omega
    have I := it_ev (i % 4) h
    have e2 : mvG i g = itG (i % 4) g := by unfold mvG; rw [if_neg h4]
    rw [e2]
    refine Ev.congr (g := _) (r := _) (fun k => ?_) I
    unfold impl_tray_moved.f
    rw [if_pos e0, if_neg g4, Option.bind_some, e1]
theorem gText {g : Gr} (h : GOk g) (a : Int) : impl_tray_text.f (g.w : Int) a (ints g.cs) = some (gT g) :=
  trayText_eq h.len h.w0 (by have := h.w7; omega) h.h0 (by have := h.h7; omega) a
theorem gTextS {g : Gr} (h : GOk g) : Ev (fun k => spec_tyText.f k (g.w : Int) (g.h : Int) (ints g.cs)) (gT g) :=
  tyText_cs h.len h.w0 (by have := h.w7; omega) (by have := h.h7; omega)
def txts (g : Gr) (i : Nat) : List ByteArray := (List.range i).map fun j => gT (mvG j g)
theorem txts_succ (g : Gr) (i : Nat) : txts g (i + 1) = txts g i ++ [gT (mvG i g)] := by simp [txts, List.range_succ]
theorem txts_len (g : Gr) (i : Nat) : (txts g i).length = i := by simp [txts]
theorem eight_ev {g : Gr} (h : GOk g) : Ev (fun k => impl_tray_eight.f k (g.w : Int) (g.h : Int) (ints g.cs)) (txts g 8) := by
  have key : ∀ (d i : Nat), 8 - i = d → i ≤ 8 → Ev (fun k => impl_tray_eight.l0 k (txts g i) (i : Int) (g.w : Int) (g.h : Int) (ints g.cs)) (txts g 8) := by
    intro d
    induction d with
    | zero =>
      intro i hd hi
      have e : i = 8 := by omega
      subst e
      exact Ev.step (f := fun _ => some (txts g 8)) (fun k => by rw [impl_tray_eight.l0, if_neg (by decide)]) (Ev.now _)
    | succ d ih =>
      intro i hd hi
      have g1 : (i : Int) < 8 := by omega
      have hI := ih (i + 1) (by omega) (by omega)
      have e : wrap64 ((i : Int) + 1) = ((i + 1 : Nat) : Int) := wm (n := i + 1) (by omega) (by omega)
      have gl : (txts g i).length < 8796093022208 := by rw [txts_len]; omega
      have hT := gText (mvG_ok i h) ((mvG i g).h : Int)
      rw [txts_succ] at hI
      refine Ev.step (f := fun k => (impl_tray_moved.f k (g.w : Int) (g.h : Int) (ints g.cs) (i : Int)).bind fun bt => (impl_tray_text.f bt.1 bt.2.1 bt.2.2).bind fun t202 => (if (txts g i).length < 8796093022208 then (impl_tray_eight.l0 k ((txts g i) ++ [t202]) (wrap64 ((i : Int) + 1)) (g.w : Int) (g.h : Int) (ints g.cs)) else (none))) (fun k => by rw [impl_tray_eight.l0, if_pos g1]) (Ev.bind (moved_ev h i) ?_)
      refine Ev.congr (g := _) (r := _) (fun k => ?_) hI
      show (impl_tray_text.f ((mvG i g).w : Int) ((mvG i g).h : Int) (ints (mvG i g).cs)).bind _ = _
      rw [hT, Option.bind_some, if_pos gl, e]
  exact Ev.congr (g := _) (r := _) (fun k => rfl) (key 8 0 rfl (by omega))
def gS (g : Gr) : S41 := ⟨(g.w : Int), (g.h : Int), ints g.cs⟩
def grs (g : Gr) (i : Nat) : List S41 := (List.range i).map fun j => gS (mvG j g)
theorem grs_succ (g : Gr) (i : Nat) : grs g (i + 1) = grs g i ++ [gS (mvG i g)] := by simp [grs, List.range_succ]
theorem grs_len (g : Gr) (i : Nat) : (grs g i).length = i := by simp [grs]
theorem grs_at (g : Gr) {i n : Nat} (h : i < n) : rd_T41 (grs g n) (i : Int) = gS (mvG i g) := by
  unfold rd_T41 grs
  rw [Int.toNat_natCast]
  simp [List.getD, h]
theorem tyEight_ev {g : Gr} (h : GOk g) : Ev (fun k => spec_tyEight.f k (g.w : Int) (g.h : Int) (ints g.cs)) (grs g 8) := by
  -- from the tray x on, which is the i-th one
  have key : ∀ (d i : Nat) (x : Gr), 8 - i = d → i ≤ 8 → GOk x → (i < 8 → x = mvG i g) → Ev (fun k => spec_tyEight.l0 k (grs g i) (i : Int) (x.w : Int) (x.h : Int) (ints x.cs)) (grs g 8) := by
    intro d
    induction d with
    | zero =>
      intro i x hd hi hx hm
      have e : i = 8 := by omega
      subst e
      exact Ev.step (f := fun _ => some (grs g 8)) (fun k => by rw [spec_tyEight.l0, if_neg (by decide)]) (Ev.now _)
    | succ d ih =>
      intro i x hd hi hx hm
      have g1 : (i : Int) < 8 := by omega
      have hxm := hm (by omega)
      have e : wrap64 ((i : Int) + 1) = ((i + 1 : Nat) : Int) := wm (n := i + 1) (by omega) (by omega)
      have gl : (grs g i).length < 3518437208883 := by rw [grs_len]; omega
      have hs : grs g i ++ [(⟨(x.w : Int), (x.h : Int), ints x.cs⟩ : S41)] = grs g (i + 1) := by
        rw [grs_succ, hxm]
        rfl
      have hnext : i + 1 < 8 → nxG i x = mvG (i + 1) g := fun hlt => by rw [hxm]; exact nx_mv h i (by omega)
      have S1 := tyTurn_eq hx.len (by have := hx.w7; omega) (by have := hx.h7; omega)
      refine Ev.step (f := fun k => (spec_tyTurn.f k (x.w : Int) (x.h : Int) (ints x.cs)).bind fun bt132 => (if (i : Int) = 3 then ((spec_tyMirror.f k bt132.1 bt132.2.1 bt132.2.2).bind fun bt137 => (spec_tyEight.l0 k (grs g (i + 1)) ((i + 1 : Nat) : Int) bt137.1 bt137.2.1 bt137.2.2)) else (spec_tyEight.l0 k (grs g (i + 1)) ((i + 1 : Nat) : Int) bt132.1 bt132.2.1 bt132.2.2))) (fun k => by rw [spec_tyEight.l0, if_pos g1, if_pos gl, Option.bind_some, hs, e]) (Ev.bind S1 ?_)
      by_cases h3 : i = 3
      · have g3 : (i : Int) = 3 := by omega
        have hn : nxG i x = mG (tG x) := if_pos h3
        rw [hn] at hnext
        have S2 := tyMirror_eq (tG_ok hx).len (by have := (tG_ok hx).w7; omega) (by have := (tG_ok hx).h7; omega)
        refine Ev.congr (f := fun k => (spec_tyMirror.f k ((tG x).w : Int) ((tG x).h : Int) (ints (tG x).cs)).bind fun bt137 => (spec_tyEight.l0 k (grs g (i + 1)) ((i + 1 : Nat) : Int) bt137.1 bt137.2.1 bt137.2.2)) (g := _) (r := _) (fun k => if_pos g3) (Ev.bind S2 ?_)
        exact ih (i + 1) (mG (tG x)) (by omega) (by omega) (mG_ok (tG_ok hx)) hnext
      · have g3 : ¬ (i : Int) = 3 := by omega
        have hn : nxG i x = tG x := if_neg h3
        rw [hn] at hnext
        refine Ev.congr (g := _) (r := _) (fun k => if_neg g3) ?_
        exact ih (i + 1) (tG x) (by omega) (by omega) (tG_ok hx) hnext
  exact Ev.congr (g := _) (r := _) (fun k => rfl) (key 8 0 g rfl (by omega) h (fun _ => rfl))
end Go.Proofs.YtcglmngfglmcgaaDoorL
