/- Contract of the program's ParseBoard: rows between slashes, numbers between commas, read by strconv.Atoi. -/
import Derived.WalkKit
import Derived.Deep.CutBlock
import Derived.Deep.LoopGhost
import Derived.Lib.Walk
import Derived.Lib.SliceRun
import Derived.Lib.SplitLaws
import Derived.Laws.AppendOwn
import Derived.RangeFuncBox
import Derived.Maps.AppendAt
import Derived.Outline
import Derived.Test.YtljnblcflngliaaGreatDoorVLib
import Derived.Test.YtljnblcflngliaaGreatDoorVBoard
set_option linter.unusedVariables false
set_option linter.unusedSimpArgs false
namespace Go.Proofs.YtljnblcflngliaaGreatDoorV
open Go.Shelf Go.RowKit Go.Proofs.YtljnblcflngliaaGreatDoorW.PrintWords Go.Proofs.YtljnblcflngliaaGreatDoorW.PrintLast
namespace PB
/-- What the library's error variables hold can be read as errors. -/
def ErrAt (w : World) (g : Nat) : Prop := ∃ ev, w.cell? ⟨g, 0, none⟩ = some ev ∧ (ev = .nilIface ∨ ∃ te pe, ev = .iface te pe)
def ErrsIn (w : World) : Prop := ErrAt w 0 ∧ ErrAt w 1
theorem ErrAt.below {w W : World} {g : Nat} (h : ErrAt w g) (hB : Below w.heap.size w W) : ErrAt W g := by
  obtain ⟨ev, hc, he⟩ := h
  exact ⟨ev, (hB.cell (p := ⟨g, 0, none⟩) (World.block_lt_of_cell? w _ hc)).trans hc, he⟩
theorem ErrsIn.below {w W : World} (h : ErrsIn w) (hB : Below w.heap.size w W) : ErrsIn W := ⟨h.1.below hB, h.2.below hB⟩
/-- The number that bytes spell. -/
def atoiV (x : ByteArray) : Option Int := match Lib.atoiAll x.data.toList with
  | .ok v => some v
  | _ => none
theorem atoi_ok {x : ByteArray} {v : Int} (hx : x.size ≤ 1048576) (h : atoiV x = some v) (W : World) :
    Calls Tryz.prog 13 #[.string x] W fun e w' => e = .returned (.tuple #[.int .i64 v, .nilIface]) ∧ Below W.heap.size W w' := by
  unfold atoiV at h
  cases hr : Lib.atoiAll x.data.toList with
  | ok u =>
    rw [hr] at h
    obtain rfl := Option.some.inj h
    refine (Any.strconv_Atoi_ok Tryz.laysC172 x (by omega) u hr W).mono ?_
    rintro e w' ⟨rfl, rfl | ⟨t, rfl⟩⟩
    · exact ⟨rfl, Below.refl _ _⟩
    · exact ⟨rfl, ⟨rfl, rfl, rfl, by rw [Lib.bytesWorld_size]; omega, fun i hi => Lib.bytesWorld_at_old W _ t i hi⟩⟩
  | «syntax» => rw [hr] at h; cases h
  | range => rw [hr] at h; cases h
theorem atoi_no {x : ByteArray} (hx : x.size ≤ 1048576) (h : atoiV x = none) (W : World) (hE : ErrsIn W) :
    Calls Tryz.prog 13 #[.string x] W fun e w' => ∃ (v : Int) (t : TypeId) (p : Value), e = .returned (.tuple #[.int .i64 v, .iface t p]) ∧ Below W.heap.size W w' := by
  unfold atoiV at h
  obtain ⟨⟨e1, c1, k1⟩, ⟨e2, c2, k2⟩⟩ := hE
  cases hr : Lib.atoiAll x.data.toList with
  | ok u => rw [hr] at h; cases h
  | «syntax» =>
    refine (Any.strconv_Atoi_syntax Tryz.laysC172 x (by omega) hr e1 W c1 k1).mono ?_
    rintro e w' ⟨N, rfl, _, _, hb⟩
    exact ⟨_, _, _, rfl, hb⟩
  | range =>
    refine (Any.strconv_Atoi_range Tryz.laysC172 x (by omega) hr e2 W c2 k2).mono ?_
    rintro e w' ⟨N, rfl, _, _, hb⟩
    exact ⟨_, _, _, rfl, hb⟩
/-- A text's pieces between a byte. -/
def cut (c : UInt8) (s : ByteArray) : List ByteArray := Lib.splitB ⟨#[c]⟩ 0 (Lib.countB s ⟨#[c]⟩) s
def pbWords : List ByteArray → List Int → Option (List Int)
  | [], acc => some acc
  | x :: t, acc => (atoiV x).bind fun v => pbWords t (acc ++ [v])
def pbRows : List ByteArray → Int → List Int → Option (Int × List Int)
  | [], w, acc => some (w, acc)
  | r :: t, _, acc => (pbWords (cut 44 r) acc).bind fun acc' => pbRows t ((cut 44 r).length : Int) acc'
theorem pbWords_snoc : ∀ (t : List ByteArray) (x : ByteArray) (acc : List Int), pbWords (t ++ [x]) acc = (pbWords t acc).bind fun a => (atoiV x).bind fun v => some (a ++ [v])
  | [], x, acc => by
    show (atoiV x).bind _ = (some acc).bind _
    rfl
  | y :: t, x, acc => by
    show (atoiV y).bind _ = ((atoiV y).bind _).bind _
    cases atoiV y with
    | none => rfl
    | some v => exact pbWords_snoc t x _
theorem pbWords_stop : ∀ (t u : List ByteArray) (acc : List Int), pbWords t acc = none → pbWords (t ++ u) acc = none
  | [], u, acc, h => by cases h
  | y :: t, u, acc, h => by
    have h : (atoiV y).bind (fun v => pbWords t (acc ++ [v])) = none := h
    show (atoiV y).bind (fun v => pbWords (t ++ u) (acc ++ [v])) = none
    cases hy : atoiV y with
    | none => rfl
    | some v =>
      rw [hy] at h
      exact pbWords_stop t u _ h
theorem pbWords_len : ∀ (t : List ByteArray) (acc a : List Int), pbWords t acc = some a → a.length = acc.length + t.length
  | [], acc, a, h => by
    obtain rfl := Option.some.inj h
    rfl
  | y :: t, acc, a, h => by
    obtain ⟨v, _, h⟩ := Option.bind_eq_some_iff.1 h
    have := pbWords_len t _ a h
    rw [List.length_append, List.length_singleton] at this
    rw [List.length_cons]
    omega
theorem pbRows_snoc : ∀ (t : List ByteArray) (x : ByteArray) (w : Int) (acc : List Int), pbRows (t ++ [x]) w acc = (pbRows t w acc).bind fun p => (pbWords (cut 44 x) p.2).bind fun a => some (((cut 44 x).length : Int), a)
  | [], x, w, acc => rfl
  | y :: t, x, w, acc => by
    show (pbWords (cut 44 y) acc).bind _ = ((pbWords (cut 44 y) acc).bind _).bind _
    cases pbWords (cut 44 y) acc with
    | none => rfl
    | some a => exact pbRows_snoc t x _ a
theorem pbRows_stop : ∀ (t u : List ByteArray) (w : Int) (acc : List Int), pbRows t w acc = none → pbRows (t ++ u) w acc = none
  | [], u, w, acc, h => by cases h
  | y :: t, u, w, acc, h => by
    have h : (pbWords (cut 44 y) acc).bind (fun a => pbRows t ((cut 44 y).length : Int) a) = none := h
    show (pbWords (cut 44 y) acc).bind (fun a => pbRows (t ++ u) ((cut 44 y).length : Int) a) = none
    cases hy : pbWords (cut 44 y) acc with
    | none => rfl
    | some v =>
      rw [hy] at h
      exact pbRows_stop t u _ _ h
def sizes (l : List ByteArray) : Nat := (l.map fun x => x.size + 1).sum
theorem cut_sizes (c : UInt8) : ∀ (k : Nat) (s : ByteArray), sizes (Lib.splitB ⟨#[c]⟩ 0 k s) ≤ s.size + 1
  | 0, s => by
    show s.size + 1 + 0 ≤ s.size + 1
    omega
  | k + 1, s => by
    rcases Lib.indexB_cases s ⟨#[c]⟩ with hm | ⟨i, hi, hroom⟩
    · rw [Lib.splitB_miss _ _ _ _ hm]
      show s.size + 1 + 0 ≤ s.size + 1
      omega
    · rw [Lib.splitB_hit _ _ _ _ i hi]
      have h1 : (⟨#[c]⟩ : ByteArray).size = 1 := rfl
      rw [h1] at hroom ⊢
      have h2 := cut_sizes c k (s.extract (i + 1) s.size)
      unfold sizes at h2 ⊢
      rw [List.map_cons, List.sum_cons]
      have e1 : (s.extract 0 (i + 0)).size = i := by rw [ByteArray.size_extract]; omega
      have e2 : (s.extract (i + 1) s.size).size = s.size - (i + 1) := by rw [ByteArray.size_extract]; omega
      rw [e1]
      rw [e2] at h2
      omega
theorem cut_all (c : UInt8) (s : ByteArray) : sizes (cut c s) ≤ s.size + 1 := cut_sizes c _ s
theorem sizes_take (l : List ByteArray) (i : Nat) (h : i < l.length) : sizes (l.take (i + 1)) = sizes (l.take i) + ((l[i]'h).size + 1) := by
  unfold sizes
  rw [List.take_succ_eq_append_getElem h, List.map_append, List.sum_append]
  simp
theorem sizes_le (l : List ByteArray) (i : Nat) : sizes (l.take i) ≤ sizes l := by
  have : sizes l = sizes (l.take i) + sizes (l.drop i) := by
    unfold sizes
    rw [← List.sum_append, ← List.map_append, List.take_append_drop]
  omega
theorem mem_sizes (x : ByteArray) : ∀ l : List ByteArray, x ∈ l → x.size + 1 ≤ sizes l
  | [], h => by cases h
  | a :: l, h => by
    unfold sizes
    rw [List.map_cons, List.sum_cons]
    rcases List.mem_cons.1 h with rfl | h
    · omega
    · have := mem_sizes x l h
      unfold sizes at this
      omega
theorem cut_mem {c : UInt8} {s x : ByteArray} (h : x ∈ cut c s) : x.size ≤ s.size := by
  have h1 := cut_all c s
  have : x.size + 1 ≤ sizes (cut c s) := by
    exact mem_sizes _ _ h
  omega
theorem cut_len (c : UInt8) (s : ByteArray) : (cut c s).length ≤ s.size + 1 := by
  have h := cut_all c s
  have : ∀ l : List ByteArray, l.length ≤ sizes l := by
    intro l
    induction l with
    | nil => exact Nat.le_refl _
    | cons a l ih =>
      unfold sizes at ih ⊢
      rw [List.map_cons, List.sum_cons, List.length_cons]
      omega
  have := this (cut c s)
  omega
/-- What lies in memory while the text is read: the result's box, the board's box with its own row, the pieces. -/
def St (w : World) (b : Nat) (rows : List ByteArray) (wd : Int) (acc : List Int) (v : Value) (W : World) : Prop :=
  W.heap[b]? = some (.cells #[.int .i64 0, .slice none 0 0] 24 (0, 0)) ∧ W.heap[b + 1]? = some (.cells #[.int .i64 wd, v] 24 (0, 0)) ∧ W.ownsRow b 3 1 v acc.length (acc.map (Value.int .i64)) ∧
  W.heap[b + 2]? = some (.cells (rows.map Value.string).toArray 9 (0, 0)) ∧ Below b w W
theorem own_below {W W' : World} {base e size n : Nat} {v : Value} {xs : List Value} (h : W.ownsRow base e size v n xs) (hB : Below W.heap.size W W') : W'.ownsRow base e size v n xs := by
  refine ⟨h.1, ?_⟩
  rcases h.2 with h | ⟨g, cap, cur, h1, h2, h3, h4⟩
  · exact .inl h
  · exact .inr ⟨g, cap, cur, h1, h2, (hB.block g (Array.getElem?_eq_some_iff.1 h3).1).trans h3, h4⟩
theorem St.below {w W W' : World} {b : Nat} {rows : List ByteArray} {wd : Int} {acc : List Int} {v : Value} (h : St w b rows wd acc v W) (hB : Below W.heap.size W W') : St w b rows wd acc v W' := by
  obtain ⟨h1, h2, h3, h4, h5⟩ := h
  have old : ∀ (i : Nat) (o : Obj), W.heap[i]? = some o → W'.heap[i]? = some o := fun i o h => (hB.block i (Array.getElem?_eq_some_iff.1 h).1).trans h
  refine ⟨old _ _ h1, old _ _ h2, own_below h3 hB, old _ _ h4, h5.trans (hB.mono ?_)⟩
  have := (Array.getElem?_eq_some_iff.1 h1).1
  omega
theorem set_heap {W : World} {B j : Nat} {cur : Array Value} {t : TypeId} {fr : Nat × Nat} {v : Value} (h : W.heap[B]? = some (.cells cur t fr)) : (W.setCell ⟨B, j, none⟩ v).heap[B]? = some (.cells (cur.setIfInBounds j v) t fr) := by
  obtain ⟨hlt, hk⟩ := Array.getElem?_eq_some_iff.1 h
  show (W.heap.modify B _)[B]? = _
  rw [Array.getElem?_eq_getElem (by rw [Array.size_modify]; exact hlt), Array.getElem_modify_self, hk]
  rfl
theorem own_set {W : World} {base e size n p j : Nat} {v u : Value} {xs : List Value} {cs : Array Value} {t : TypeId} (h : W.ownsRow base e size v n xs) (hp : W.heap[p]? = some (.cells cs t (0, 0))) (ht : t ≠ e) : (W.setCell ⟨p, j, none⟩ u).ownsRow base e size v n xs := by
  refine ⟨h.1, ?_⟩
  rcases h.2 with h | ⟨g, cap, cur, h1, h2, h3, h4⟩
  · exact .inl h
  · refine .inr ⟨g, cap, cur, h1, h2, (Below.heap_setCell _ ⟨p, j, none⟩ _ g (fun e' => ?_)).trans h3, h4⟩
    have e' : g = p := e'
    subst e'
    rw [h3] at hp
    injection hp with hp
    injection hp with _ hp _
    exact ht hp.symm
theorem St.width {w W : World} {b : Nat} {rows : List ByteArray} {wd : Int} {acc : List Int} {v : Value} (wd' : Int) (h : St w b rows wd acc v W) : St w b rows wd' acc v (W.setCell ⟨b + 1, 0, none⟩ (.int .i64 wd')) := by
  obtain ⟨h1, h2, h3, h4, h5⟩ := h
  exact ⟨(Below.heap_setCell _ ⟨b + 1, 0, none⟩ _ b (show b ≠ b + 1 by omega)).trans h1, set_heap h2, own_set h3 h2 (by decide), (Below.heap_setCell _ ⟨b + 1, 0, none⟩ _ (b + 2) (show b + 2 ≠ b + 1 by omega)).trans h4, h5.setCell (p := ⟨b + 1, 0, none⟩) (show b ≤ b + 1 by omega) _⟩
theorem own_ne {W : World} {base e size n p : Nat} {v : Value} {xs : List Value} {cs : Array Value} {t : TypeId} (h : W.ownsRow base e size v n xs) (hp : W.heap[p]? = some (.cells cs t (0, 0))) (ht : t ≠ e) : some p ≠ v.ownBlock := by
  rcases h.2 with ⟨rfl, _⟩ | ⟨g, cap, cur, rfl, h2, h3, h4⟩
  · simp [Value.ownBlock]
  · intro e'
    obtain rfl : p = g := by simpa [Value.ownBlock] using e'
    rw [h3] at hp
    injection hp with hp
    injection hp with _ hp _
    exact ht hp.symm
theorem kept {W W' : World} {p : Nat} {o : Obj} {row : Option Nat} (hg : W.grownBy W' row) (h : W.heap[p]? = some o) (hne : some p ≠ row) : W'.heap[p]? = some o := by
  obtain ⟨_, _, _, _, h5⟩ := hg
  exact (h5 p (Array.getElem?_eq_some_iff.1 h).1 hne).trans h
theorem St.app {w W W3 : World} {b : Nat} {rows : List ByteArray} {wd x : Int} {acc : List Int} {v v' : Value} {tmp : Obj} (h : St w b rows wd acc v W) (hown : W3.ownsRow b 3 1 v' (acc.length + 1) (acc.map (Value.int .i64) ++ [.int .i64 x])) (hg : (W.alloc tmp).grownBy W3 v.ownBlock) :
    W3.heap[b + 1]? = some (.cells #[.int .i64 wd, v] 24 (0, 0)) ∧ St w b rows wd (acc ++ [x]) v' (W3.setCell ⟨b + 1, 1, none⟩ v') := by
  obtain ⟨h1, h2, h3, h4, h5⟩ := h
  have al : ∀ (i : Nat) (o : Obj), W.heap[i]? = some o → (W.alloc tmp).heap[i]? = some o := fun i o h => (Below.heap_alloc _ _ _ (Array.getElem?_eq_some_iff.1 h).1).trans h
  have k1 := kept hg (al _ _ h1) (own_ne h3 h1 (by decide))
  have k2 := kept hg (al _ _ h2) (own_ne h3 h2 (by decide))
  have k4 := kept hg (al _ _ h4) (own_ne h3 h4 (by decide))
  have hb : b < W.heap.size := (Array.getElem?_eq_some_iff.1 h1).1
  have hB3 : Below b w W3 := (h5.alloc (by omega) tmp).grown hg (by simp; omega) (fun k hk => by
    rcases h3.2 with ⟨rfl, _⟩ | ⟨g, cap, cur, rfl, h6, _⟩
    · simp [Value.ownBlock] at hk
    · obtain rfl : g = k := by simpa [Value.ownBlock] using hk
      exact h6)
  refine ⟨k2, (Below.heap_setCell _ ⟨b + 1, 1, none⟩ _ b (show b ≠ b + 1 by omega)).trans k1, set_heap k2, ?_, (Below.heap_setCell _ ⟨b + 1, 1, none⟩ _ (b + 2) (show b + 2 ≠ b + 1 by omega)).trans k4, hB3.setCell (p := ⟨b + 1, 1, none⟩) (show b ≤ b + 1 by omega) _⟩
  have := own_set (p := b + 1) (j := 1) (u := v') hown k2 (by decide)
  rw [List.map_append, List.length_append]
  exact this
theorem cells2 {W : World} {p : Nat} {x y : Value} (h : W.heap[p]? = some (.cells #[x, y] 24 (0, 0))) : (W.cell? ⟨p, 0, none⟩ = some x ∧ W.cell? ⟨p, 1, none⟩ = some y) ∧ W.frozen? ⟨p, 0, none⟩ = false ∧ W.frozen? ⟨p, 1, none⟩ = false := by
  refine ⟨⟨by simp [World.cell?, h], by simp [World.cell?, h]⟩, ?_, ?_⟩ <;> simp [World.frozen?, h]
theorem strAt {W : World} {p i : Nat} {rows : List ByteArray} (h : W.heap[p]? = some (.cells (rows.map Value.string).toArray 9 (0, 0))) (hi : i < rows.length) : W.cell? ⟨p, i, none⟩ = some (.string rows[i]) := by
  simp [World.cell?, h, hi]
end PB
set_option maxRecDepth 100000 in
set_option maxHeartbeats 4000000 in
theorem parse_calls (s T : ByteArray) (wd : Int) (l : List Int) (ok : Bool) (w : World) (hs : s.size ≤ 1048576) (hE : PB.ErrsIn w)
    (hres : (wd, l, ok) = match PB.pbRows (PB.cut 47 s) 0 [] with
      | none => (0, [], false)
      | some p => if isBoardB p.1 p.2 = true ∧ T = s then (p.1, p.2, true) else (0, [], false))
    (HI : ∀ W a A c z, Below w.heap.size w W → Kd.C (Kd.int .i64) W A z.length z → z.length ≤ c → z.length ≤ 2000000 → Calls Tryz.prog 14 #[.agg #[.int .i64 a, .slice A z.length c]] W fun e w' => e = .returned (.bool (isBoardB a z)) ∧ Below W.heap.size W w')
    (HT : ∀ W a A c z, PB.pbRows (PB.cut 47 s) 0 [] = some (a, z) → isBoardB a z = true → Kd.C (Kd.int .i64) W A z.length z → z.length ≤ c → Calls Tryz.prog 15 #[.agg #[.int .i64 a, .slice A z.length c]] W fun e w' => e = .returned (.string T) ∧ Below W.heap.size W w') :
    Calls Tryz.prog 5 #[.string s] w fun e w' => ∃ v_ : Value, e = .returned (.tuple #[.agg #[.int .i64 wd, v_], .bool ok]) ∧ Kd.R (Kd.int .i64) 3 w' w.heap.size (fun _ => True) v_ l ∧ Below w.heap.size w w' := by
  have HI' := Aside0.mk HI
  have HT' := Aside0.mk HT
  have HR := Aside0.mk hres
  have HE := Aside0.mk hE
  clear HI HT hres hE
  have hspl : Aside0 (∀ (x : ByteArray) (c : UInt8) (W : World), x.size ≤ 1048576 → Calls Tryz.prog 12 #[.string x, .string ⟨#[c]⟩] W fun e w' => e = .returned (.slice (some ⟨W.heap.size, 0, none⟩) (PB.cut c x).length (PB.cut c x).length) ∧ w'.heap[W.heap.size]? = some (.cells ((PB.cut c x).map Value.string).toArray 9 (0, 0)) ∧ Below W.heap.size W w') :=
    Aside0.mk (fun x c W hx => (lib_split x c W (by omega)).mono (by
      rintro e w' ⟨rfl, rfl⟩
      exact ⟨rfl, World.alloc_heap_new W _, (Below.refl _ W).alloc (Nat.le_refl _) _⟩))
  have hw0 : Aside0 (Below w.heap.size w ((w.alloc (.cells #[.int .i64 0, .slice none 0 0] 24)).alloc (.cells #[.int .i64 0, .slice none 0 0] 24)) ∧ ((w.alloc (.cells #[.int .i64 0, .slice none 0 0] 24)).alloc (.cells #[.int .i64 0, .slice none 0 0] 24)).heap[w.heap.size]? = some (.cells #[.int .i64 0, .slice none 0 0] 24 (0, 0)) ∧
      ((w.alloc (.cells #[.int .i64 0, .slice none 0 0] 24)).alloc (.cells #[.int .i64 0, .slice none 0 0] 24)).heap[w.heap.size + 1]? = some (.cells #[.int .i64 0, .slice none 0 0] 24 (0, 0))) := by
    refine Aside0.mk ⟨((Below.refl _ w).alloc (Nat.le_refl _) _).alloc (by simp) _, (Below.heap_alloc _ _ _ (by simp)).trans (World.alloc_heap_new w _), ?_⟩
    have := World.alloc_heap_new (w.alloc (.cells #[.int .i64 0, .slice none 0 0] 24)) (.cells #[.int .i64 0, .slice none 0 0] 24)
    rwa [World.size_alloc] at this
  have hrl := PB.cut_len 47 s
  go_enter Tryz.func5, Tryz.ntmps5
  go_wp2_with (go_at_call 12; refine (hspl.out s 47 _ hs).mono ?_; rintro e w1 ⟨rfl, hrw, hb1⟩)
  have hS0 : PB.St w w.heap.size (PB.cut 47 s) 0 [] (.slice none 0 0) w1 := by
    obtain ⟨k1, k2, k3⟩ := hw0.out
    refine ⟨(hb1.block _ (by simp; omega)).trans k2, (hb1.block _ (by simp)).trans k3, ⟨rfl, .inl ⟨rfl, rfl⟩⟩, ?_, k1.trans (hb1.mono (by simp; omega))⟩
    rw [World.size_alloc, World.size_alloc] at hrw
    exact hrw
  clear hrw hb1 hw0
  obtain ⟨b, hb⟩ : ∃ b, w.heap.size = b := ⟨_, rfl⟩
  rw [hb] at hS0 ⊢
  obtain ⟨rows, hrows⟩ : ∃ rows, PB.cut 47 s = rows := ⟨_, rfl⟩
  rw [hrows] at hS0 hrl ⊢
  have HRW := Aside0.mk hrows
  have HB := Aside0.mk hb
  clear hrows hb
  go_loopw [16] (fun s16 wr => ∃ (i : Nat) (a : Int) (acc : List Int) (v : Value), i ≤ rows.length ∧ s16 = .int .i64 (i : Int) ∧ PB.pbRows (rows.take i) 0 [] = some (a, acc) ∧ acc.length ≤ PB.sizes (rows.take i) ∧ PB.St w b rows a acc v wr) (fun s16 _ => rows.length - (intOf s16).toNat)
  case atStart => exact ⟨0, 0, [], _, Nat.zero_le _, rfl, rfl, Nat.zero_le _, hS0⟩
  case round =>
    obtain ⟨i, a, acc, v, hi, rfl, hpb, hal, hSt⟩ := hrel
    obtain ⟨wo, rfl⟩ : ∃ wo : World, wo = wr := ⟨_, rfl⟩
    have HP := Aside0.mk (And.intro hpb (And.intro hal hSt))
    by_cases hlt : i < rows.length
    · have hci := PB.strAt hSt.2.2.2.1 hlt
      obtain ⟨row, hrow⟩ : ∃ row, rows[i] = row := ⟨_, rfl⟩
      rw [hrow] at hci
      have hrs : row.size ≤ 1048576 := by
        have := PB.cut_mem (c := 47) (s := s) (x := rows[i]) (by rw [HRW.out]; exact List.getElem_mem hlt)
        rw [hrow] at this
        omega
      have HRo := Aside0.mk hrow
      clear hpb hal hSt hrow
      go_upto_region 6 with (go_at_call 12; refine (hspl.out row 44 _ hrs).mono ?_; rintro e w2 ⟨rfl, hgw, hb2⟩)
      have hS2 := HP.out.2.2.below hb2
      have hgl : b + 2 < wo.heap.size := by
        have := (Array.getElem?_eq_some_iff.1 HP.out.2.2.2.2.2.1).1
        omega
      obtain ⟨gw, hgwe⟩ : ∃ gw, wo.heap.size = gw := ⟨_, rfl⟩
      rw [hgwe] at hgw hgl ⊢
      have hc2 := PB.cells2 hS2.2.1
      obtain ⟨words, hwds⟩ : ∃ words, PB.cut 44 row = words := ⟨_, rfl⟩
      rw [hwds] at hgw ⊢
      have hwl : words.length ≤ row.size + 1 := by rw [← hwds]; exact PB.cut_len 44 row
      have HWd := Aside0.mk (And.intro hwds (And.intro hS2 hgw))
      clear hb2 hgwe hwds hS2 hgw
      go_upto_region 7 with fail
      have hS3 := HWd.out.2.1.width (words.length : Int)
      have hgw3 : (w2.setCell ⟨b + 1, 0, none⟩ (.int .i64 (words.length : Int))).heap[gw]? = some (.cells (words.map Value.string).toArray 9 (0, 0)) := (Below.heap_setCell _ ⟨b + 1, 0, none⟩ _ gw (show gw ≠ b + 1 by omega)).trans HWd.out.2.2
      obtain ⟨w3, hw3⟩ : ∃ w3, w2.setCell ⟨b + 1, 0, none⟩ (.int .i64 (words.length : Int)) = w3 := ⟨_, rfl⟩
      rw [hw3] at hS3 hgw3 ⊢
      clear hw3 hc2
      go_wp2
      go_loopw [27] (fun s27 wi => ∃ (j : Nat) (acc2 : List Int) (v2 : Value), j ≤ words.length ∧ s27 = .int .i64 (j : Int) ∧ PB.pbWords (words.take j) acc = some acc2 ∧ PB.St w b rows (words.length : Int) acc2 v2 wi ∧ wi.heap[gw]? = some (.cells (words.map Value.string).toArray 9 (0, 0))) (fun s27 _ => words.length - (intOf s27).toNat)
      case atStart => exact ⟨0, acc, v, Nat.zero_le _, rfl, rfl, hS3, hgw3⟩
      case round =>
        obtain ⟨j, acc2, v2, hj, rfl, hpw, hSi, hgi⟩ := hrel
        by_cases hjl : j < words.length
        · have hcj := PB.strAt hgi hjl
          obtain ⟨x, hx⟩ : ∃ x, words[j] = x := ⟨_, rfl⟩
          rw [hx] at hcj
          have hxs : x.size ≤ 1048576 := by
            have := PB.cut_mem (c := 44) (s := row) (x := words[j]) (by rw [HWd.out.1]; exact List.getElem_mem hjl)
            rw [hx] at this
            omega
          have hEi : PB.ErrsIn wr := HE.out.below (by rw [HB.out]; exact hSi.2.2.2.2)
          have HI2 := Aside0.mk (And.intro hpw (And.intro hSi (And.intro hgi (And.intro hx hEi))))
          clear hpw hSi hgi hx hEi
          cases hv : PB.atoiV x with
          | some z =>
            have hA := Aside0.mk (PB.atoi_ok hxs hv)
            have HV := Aside0.mk hv
            clear hv
            go_upto_region 13 with (go_at_call 13; refine (hA.out _).mono ?_; rintro e w4 ⟨rfl, hb4⟩)
            have hS4 := HI2.out.2.1.below hb4
            have hg4 : w4.heap[gw]? = some (.cells (words.map Value.string).toArray 9 (0, 0)) := (hb4.block gw (Array.getElem?_eq_some_iff.1 HI2.out.2.2.1).1).trans HI2.out.2.2.1
            have hcv := (PB.cells2 hS4.2.1).1
            have hla : acc2.length ≤ 3000000 := by
              have h1 := PB.pbWords_len _ _ _ HI2.out.1
              rw [List.length_take] at h1
              have h2 := HP.out.2.1
              have h3 := PB.sizes_le rows i
              have h4 := PB.cut_all 47 s
              rw [HRW.out] at h4
              omega
            have hbs : b ≤ w4.heap.size := by have := (Array.getElem?_eq_some_iff.1 hS4.1).1; omega
            obtain ⟨i0, hi0, hz0, hz1, hz2⟩ := info_parts infoI
            have HS4 := Aside0.mk (And.intro hS4 hg4)
            have hown := hS4.2.2.1
            clear hb4 hS4 hg4
            go_wp2_with (at_builtin; refine wpList_append_own _ rfl _ _ 22 rfl b 3 i0 (.int .i64 0) 1 8 Tryz.underlying22 hi0 hz0 hz1 hz2 rfl (by decide) _ _ _ rfl (hown.alloc _) ⟨w4.heap.size, 0, none⟩ 1 1 [.int .i64 z] rfl rfl (cell_one_new _ _ _) (by simp [Value.oneCell']) (by unfold maxLen; omega) (by omega) (by simp; omega) ?_; intro v' w5 hown' hgrow _; obtain ⟨g', cap', rfl⟩ := ownsRow_succ hown'; obtain ⟨hk5, hS5⟩ := HS4.out.1.app hown' hgrow; have hc5 := PB.cells2 hk5)
            have hg5 : (w5.setCell ⟨b + 1, 1, none⟩ (.slice (some ⟨g', 0, none⟩) (acc2.length + 1) cap')).heap[gw]? = some (.cells (words.map Value.string).toArray 9 (0, 0)) :=
              (Below.heap_setCell _ ⟨b + 1, 1, none⟩ _ gw (show gw ≠ b + 1 by omega)).trans (PB.kept hgrow ((Below.heap_alloc _ _ _ (Array.getElem?_eq_some_iff.1 HS4.out.2).1).trans HS4.out.2) (PB.own_ne hown HS4.out.2 (by decide)))
            go_roundw
            case rel => exact ⟨j + 1, acc2 ++ [z], _, hjl, by simp, by rw [List.take_succ_eq_append_getElem hjl, PB.pbWords_snoc, HI2.out.1, HI2.out.2.2.2.1]; show (PB.atoiV x).bind _ = _; rw [HV.out]; rfl, hS5, hg5⟩
            case measure => simp [intOf]; omega
          | none =>
            have hA := Aside0.mk (PB.atoi_no hxs hv)
            have HV := Aside0.mk hv
            clear hv
            go_upto_region 12 with (go_at_call 13; refine (hA.out _ HI2.out.2.2.2.2).mono ?_; rintro e w4 ⟨z, te, pe, rfl, hb4⟩)
            have hS4 := HI2.out.2.1.below hb4
            have hcr := PB.cells2 hS4.1
            have HS4 := Aside0.mk hS4
            clear hb4 hS4
            go_wp2
            have hnone : PB.pbRows rows 0 [] = none := by
              have e1 : rows = rows.take i ++ [row] ++ rows.drop (i + 1) := by
                rw [← HRo.out, ← List.take_succ_eq_append_getElem hlt, List.take_append_drop]
              have e2 : words = words.take j ++ [x] ++ words.drop (j + 1) := by
                rw [← HI2.out.2.2.2.1, ← List.take_succ_eq_append_getElem hjl, List.take_append_drop]
              rw [e1]
              refine PB.pbRows_stop _ _ _ _ ?_
              rw [PB.pbRows_snoc, HP.out.1]
              show (PB.pbWords (PB.cut 44 row) acc).bind _ = none
              have hw2 : PB.pbWords (PB.cut 44 row) acc = none := by
                rw [HWd.out.1, e2]
                refine PB.pbWords_stop _ _ _ ?_
                rw [PB.pbWords_snoc, HI2.out.1]
                show (PB.atoiV x).bind _ = none
                rw [HV.out]
                rfl
              rw [hw2]
              rfl
            have hr2 := HR.out
            rw [HRW.out, hnone] at hr2
            obtain ⟨rfl, rfl, rfl⟩ : wd = 0 ∧ l = [] ∧ ok = false := by
              have h1 := congrArg Prod.fst hr2
              have h2 := congrArg (fun p : Int × List Int × Bool => p.2.1) hr2
              have h3 := congrArg (fun p : Int × List Int × Bool => p.2.2) hr2
              exact ⟨h1, h2, h3⟩
            have hfh := PB.set_heap (j := 1) (v := .slice none 0 0) (PB.set_heap (j := 0) (v := .int .i64 0) HS4.out.1)
            have hfc := (PB.cells2 hfh).1
            refine bodyPost_ret (v := .tuple #[.agg #[.int .i64 0, .slice none 0 0], .bool false]) (by simp [results, Tryz.results5, go_sem, hfc.1, hfc.2]) rfl ⟨_, rfl, Kd.R_nil _ _ _ _ _, ?_⟩
            have hbw := HS4.out.2.2.2.2
            rw [HB.out]
            exact (hbw.setCell (p := ⟨b, 0, none⟩) (Nat.le_refl b) _).setCell (p := ⟨b, 1, none⟩) (Nat.le_refl b) _
        · have hje : j = words.length := by omega
          subst hje
          rw [List.take_length] at hpw
          have hsz := PB.sizes_take rows i hlt
          have hwl2 := PB.pbWords_len _ _ _ hpw
          have HI3 := Aside0.mk (And.intro hpw (And.intro hSi hsz))
          clear hpw hSi hgi hsz
          go_wp2
          go_roundw
          case rel => exact ⟨i + 1, (words.length : Int), acc2, v2, hlt, by simp, by rw [List.take_succ_eq_append_getElem hlt, PB.pbRows_snoc, HP.out.1, HRo.out]; show (PB.pbWords (PB.cut 44 row) acc).bind _ = _; rw [HWd.out.1, HI3.out.1]; rfl, by have := HI3.out.2.2; rw [HRo.out] at this; have := HP.out.2.1; omega, HI3.out.2.1⟩
          case measure => simp [intOf]; omega
    · have hie : i = rows.length := by omega
      subst hie
      rw [List.take_length] at hpb hal
      have HRr : Kd.R (Kd.int .i64) 3 wo b (fun _ => True) v acc := Kd.R_of_own hSt.2.2.1 (fun _ _ => trivial)
      obtain ⟨A, c, rfl⟩ := Kd.R_slice HRr
      obtain ⟨_, hle, hC⟩ := Kd.R_reads' HRr
      have hlen : acc.length ≤ 2000000 := by
        have h4 := PB.cut_all 47 s
        rw [HRW.out] at h4
        omega
      have hBw : Below w.heap.size w wo := by rw [HB.out]; exact hSt.2.2.2.2
      have hI := Aside0.mk (HI'.out wo a A c acc hBw hC hle hlen)
      have hr2 := HR.out
      rw [HRW.out, hpb] at hr2
      have hcb := (PB.cells2 hSt.2.1).1
      cases hib : isBoardB a acc with
      | false =>
        rw [hib] at hI
        have hr2 : (wd, l, ok) = (0, [], false) := hr2.trans (by show (if isBoardB a acc = true ∧ T = s then _ else _) = _; rw [hib, if_neg (fun h => by cases h.1)])
        have HF := Aside0.mk (And.intro hSt hr2)
        clear hr2 hib hSt hpb hC HRr
        go_upto_region 17 with (go_at_call 14; refine hI.out.mono ?_; rintro e w4 ⟨rfl, hb4⟩)
        have hS4 := HF.out.1.below hb4
        have hcr := PB.cells2 hS4.1
        have HS4 := Aside0.mk hS4
        clear hb4 hS4
        go_wp2
        have hr2 := HF.out.2
        obtain ⟨rfl, rfl, rfl⟩ : wd = 0 ∧ l = [] ∧ ok = false := by
          have h1 := congrArg Prod.fst hr2
          have h2 := congrArg (fun p : Int × List Int × Bool => p.2.1) hr2
          have h3 := congrArg (fun p : Int × List Int × Bool => p.2.2) hr2
          exact ⟨h1, h2, h3⟩
        have hfh := PB.set_heap (j := 1) (v := .slice none 0 0) (PB.set_heap (j := 0) (v := .int .i64 0) HS4.out.1)
        have hfc := (PB.cells2 hfh).1
        refine bodyPost_ret (v := .tuple #[.agg #[.int .i64 0, .slice none 0 0], .bool false]) (by simp [results, Tryz.results5, go_sem, hfc.1, hfc.2]) rfl ⟨_, rfl, Kd.R_nil _ _ _ _ _, ?_⟩
        have hbw := HS4.out.2.2.2.2
        rw [HB.out]
        exact (hbw.setCell (p := ⟨b, 0, none⟩) (Nat.le_refl b) _).setCell (p := ⟨b, 1, none⟩) (Nat.le_refl b) _
      | true =>
        rw [hib] at hI
        have hT2 : Aside0 (∀ W, Below wo.heap.size wo W → Calls Tryz.prog 15 #[.agg #[.int .i64 a, .slice A acc.length c]] W fun e w' => e = .returned (.string T) ∧ Below W.heap.size W w') := Aside0.mk (fun W hW => HT'.out W a A c acc (by rw [HRW.out]; exact hpb) hib (Kd.C_below hC hW) hle)
        by_cases hTs : T = s
        · have cT : (!T.toList == s.toList) = false := by rw [hTs]; simp
          have hr2 : (wd, l, ok) = (a, acc, true) := hr2.trans (by show (if isBoardB a acc = true ∧ T = s then _ else _) = _; rw [hib, if_pos ⟨rfl, hTs⟩])
          have HF := Aside0.mk (And.intro hSt hr2)
          clear hr2 hib hSt hpb hC HRr hTs
          go_upto_region 18 with (first | (go_at_call 14; refine hI.out.mono ?_; rintro e w4 ⟨rfl, hb4⟩; have hcb4 := (PB.cells2 (HF.out.1.below hb4).2.1).1) | (go_at_call 15; refine (hT2.out _ hb4).mono ?_; rintro e w5 ⟨rfl, hb5⟩))
          have hS5 := (HF.out.1.below hb4).below hb5
          have hcr := PB.cells2 hS5.1
          have hcc := (PB.cells2 hS5.2.1).1
          have HS5 := Aside0.mk hS5
          clear hb4 hb5 hS5 hcb4 hcb
          go_wp2
          have hr2 := HF.out.2
          obtain ⟨rfl, rfl, rfl⟩ : wd = a ∧ l = acc ∧ ok = true := by
            have h1 := congrArg Prod.fst hr2
            have h2 := congrArg (fun p : Int × List Int × Bool => p.2.1) hr2
            have h3 := congrArg (fun p : Int × List Int × Bool => p.2.2) hr2
            exact ⟨h1, h2, h3⟩
          have hfh := PB.set_heap (j := 1) (v := .slice A l.length c) (PB.set_heap (j := 0) (v := .int .i64 wd) HS5.out.1)
          have hfc := (PB.cells2 hfh).1
          refine bodyPost_ret (v := .tuple #[.agg #[.int .i64 wd, .slice A l.length c], .bool true]) (by simp [results, Tryz.results5, go_sem, hfc.1, hfc.2]) rfl ⟨_, rfl, ?_, ?_⟩
          · rw [HB.out]
            exact Kd.R_of_own (PB.own_set (PB.own_set HS5.out.2.2.1 HS5.out.1 (by decide)) (PB.set_heap HS5.out.1) (by decide)) (fun _ _ => trivial)
          · have hbw := HS5.out.2.2.2.2
            rw [HB.out]
            exact (hbw.setCell (p := ⟨b, 0, none⟩) (Nat.le_refl b) _).setCell (p := ⟨b, 1, none⟩) (Nat.le_refl b) _
        · have cT : (!T.toList == s.toList) = true := by
            rw [Bool.not_eq_true', beq_eq_false_iff_ne, ByteArray.toList_eq, ByteArray.toList_eq]
            exact fun h => hTs (Go.WideShapes.bytes_inj h)
          have hr2 : (wd, l, ok) = (0, [], false) := hr2.trans (by show (if isBoardB a acc = true ∧ T = s then _ else _) = _; rw [if_neg (fun h => hTs h.2)])
          have HF := Aside0.mk (And.intro hSt hr2)
          clear hr2 hib hSt hpb hC HRr hTs
          go_upto_region 17 with (first | (go_at_call 14; refine hI.out.mono ?_; rintro e w4 ⟨rfl, hb4⟩; have hcb4 := (PB.cells2 (HF.out.1.below hb4).2.1).1) | (go_at_call 15; refine (hT2.out _ hb4).mono ?_; rintro e w5 ⟨rfl, hb5⟩))
          have hS5 := (HF.out.1.below hb4).below hb5
          have hcr := PB.cells2 hS5.1
          have HS5 := Aside0.mk hS5
          clear hb4 hb5 hS5 hcb4 hcb
          go_wp2
          have hr2 := HF.out.2
          obtain ⟨rfl, rfl, rfl⟩ : wd = 0 ∧ l = [] ∧ ok = false := by
            have h1 := congrArg Prod.fst hr2
            have h2 := congrArg (fun p : Int × List Int × Bool => p.2.1) hr2
            have h3 := congrArg (fun p : Int × List Int × Bool => p.2.2) hr2
            exact ⟨h1, h2, h3⟩
          have hfh := PB.set_heap (j := 1) (v := .slice none 0 0) (PB.set_heap (j := 0) (v := .int .i64 0) HS5.out.1)
          have hfc := (PB.cells2 hfh).1
          refine bodyPost_ret (v := .tuple #[.agg #[.int .i64 0, .slice none 0 0], .bool false]) (by simp [results, Tryz.results5, go_sem, hfc.1, hfc.2]) rfl ⟨_, rfl, Kd.R_nil _ _ _ _ _, ?_⟩
          have hbw := HS5.out.2.2.2.2
          rw [HB.out]
          exact (hbw.setCell (p := ⟨b, 0, none⟩) (Nat.le_refl b) _).setCell (p := ⟨b, 1, none⟩) (Nat.le_refl b) _
end Go.Proofs.YtljnblcflngliaaGreatDoorV
