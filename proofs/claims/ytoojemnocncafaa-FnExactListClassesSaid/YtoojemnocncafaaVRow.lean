/- Growing rows of records that hold slices of whole numbers: how they are read and appended to; a map of texts that the call itself has made, looked up. -/
import Derived.WalkKit
import Derived.Deep.AppendLies
import Derived.Maps.AppendAt
import Derived.Maps.OwnOps
import Derived.Maps.OwnSet
import Derived.Lib.Walk
import Derived.Lib.SliceRun
import Derived.Test.YtoojemnocncafaaProg
import Derived.Test.YtoojemnocncafaaWLast
import Derived.Test.YtoojemnocncafaaWMore
set_option linter.unusedVariables false
set_option linter.unusedSimpArgs false
namespace Go.Proofs.YtoojemnocncafaaV
open Go.RowKit Go.Proofs.YtoojemnocncafaaW.PrintWords Go.Proofs.YtoojemnocncafaaW.PrintLast Go.Maps Go.ChangeMaps Go.MapKept
namespace RB
theorem add0 (g j : Nat) : (⟨g, 0, none⟩ : Addr).add j = ⟨g, j, none⟩ := by
  unfold Addr.add
  split
  · rename_i e
    subst e
    rfl
  · simp
theorem addp (g o j : Nat) : (⟨g, o, none⟩ : Addr).add j = ⟨g, o + j, none⟩ := by
  unfold Addr.add
  split
  · rename_i e
    subst e
    rfl
  · rfl
/-- append, and what lay in the row still lies there. -/
theorem run_append_keep {P : Program} (w : World) (base : Nat) (t ty e : TypeId) (i : TypeInfo) (z : Value) (size bytes : Nat) (ht : P.underlying t = some (.slice e)) (hi : P.info? e = some i) (hz : i.zero = some z)
    (hsize : i.size = size) (hby : i.bytes = bytes) (hzs : z.cells.size = size) (hsz : 0 < size)
    (v : Value) (n : Nat) (xs : List Value) (hown : w.ownsRow base e size v n xs)
    (a : Addr) (m c : Nat) (news : List Value) (hl : news.length = m * size) (hnews : ∀ j u, news[j]? = some u → w.cell? (a.add j) = some u) (h1 : ∀ u ∈ news, u.oneCell' = true)
    (hm : 0 < m) (h63 : n + m ≤ maxLen) (hbytes : (n + m) * bytes ≤ 140737488355328) (hbase : base ≤ w.heap.size) :
    ∃ v' w', (Builtin.append_ #[t, t] ty #[v, .slice (some a) m c]).run P w = .ok v' w' ∧ w'.ownsRow base e size v' (n + m) (xs ++ news) ∧ w.grownBy w' v.ownBlock ∧
      (v'.ownBlock = v.ownBlock ∨ v'.ownBlock = some w.heap.size) ∧ (∀ g cap, v = .slice (some ⟨g, 0, none⟩) n cap → ∀ j u, xs[j]? = some u → w'.cell? ⟨g, j, none⟩ = some u) := by
  obtain ⟨v', w', hr, hown', hg, _, hat⟩ := run_append_own_at (P := P) w base t ty e i z size bytes ht hi hz hsize hby hzs hsz v n xs hown a m c news hl hnews h1 h63 hbytes hbase
  refine ⟨v', w', hr, hown', hg, hat, ?_⟩
  rintro g cap rfl j u hj
  rcases hown.2 with ⟨hv, _⟩ | ⟨g', cap', cur, hv, hbg, hgh, hnc, hcm, hcs, htake⟩
  · cases hv
  · obtain ⟨rfl, rfl⟩ : g = g' ∧ cap = cap' := by
      simp only [Value.slice.injEq, Option.some.injEq, Addr.mk.injEq] at hv
      exact ⟨hv.1.1, hv.2.2⟩
    have hlt : g < w.heap.size := (Array.getElem?_eq_some_iff.1 hgh).1
    rcases hat with hat | hat
    · rcases hown'.2 with ⟨rfl, _⟩ | ⟨g', cap', cur', rfl, _⟩
      · simp [Value.ownBlock] at hat
      · have e1 : g' = g := by simpa [Value.ownBlock] using hat
        subst e1
        have := hown'.cells (g := g') rfl j u (by rw [List.getElem?_append_left (List.getElem?_eq_some_iff.1 hj).1]; exact hj)
        rw [add0] at this
        exact this
    · have hc0 : w.cell? ⟨g, j, none⟩ = some u := by
        have := hown.cells (g := g) rfl j u hj
        rwa [add0] at this
      by_cases hroom : n + m ≤ cap
      · subst hsize
        have hfit : n * i.size + news.length ≤ cur.size := by rw [hl, hcs, ← Nat.add_mul]; exact Nat.mul_le_mul_right _ hroom
        have hr2 := run_append_room (P := P) w t ty e i ht hi g n cap cur hgh a m c news hl hnews h1 hroom hfit
        rw [hr2] at hr
        injection hr with h1 _
        rw [← h1] at hat
        simp [Value.ownBlock] at hat
        omega
      · subst hsize
        subst hby
        have holds : ∀ j u, xs[j]? = some u → w.cell? ((⟨g, 0, none⟩ : Addr).add j) = some u := hown.cells (g := g) rfl
        have hr2 := run_append_grow (P := P) w t ty e i z ht hi hz ⟨g, 0, none⟩ n cap xs hown.1 holds a m c news hl hnews (by omega) (by simp only [maxLen] at h63; omega) (growslice_fits (by omega) hbytes)
        rw [hr2] at hr
        injection hr with _ h2
        rw [← h2]
        rw [World.cell?_of_block (w := w) (a := ⟨g, j, none⟩) (heap_alloc_old w.drew _ hlt)]
        exact hc0
/-- What an append onto the call's own row says behind it. -/
def AppK (P : Program) (w : World) (base : Nat) (e : TypeId) (size : Nat) (v : Value) (n : Nat) (xs news : List Value) (m : Nat) (K : Value → World → Prop) : Prop :=
  ∀ v' w', w'.ownsRow base e size v' (n + m) (xs ++ news) → w.grownBy w' v.ownBlock → (v'.ownBlock = v.ownBlock ∨ v'.ownBlock = some w.heap.size) → (∀ g cap, v = .slice (some ⟨g, 0, none⟩) n cap → ∀ j u, xs[j]? = some u → w'.cell? ⟨g, j, none⟩ = some u) → K v' w'
theorem wp_append_keep {P : Program} (w : World) {o : Oper} {a : Act} {K : Act → World → Prop} {Q : Exit → Act → World → Prop} (s x : Operand) (t : TypeId)
    (ho : o.op = .call { callee := .builtin .append, args := #[s, x], argTypes := #[t, t] })
    (base : Nat) (e : TypeId) (i : TypeInfo) (z : Value) (size bytes : Nat) (ht : P.underlying t = some (.slice e)) (hi : P.info? e = some i) (hz : i.zero = some z)
    (hsize : i.size = size) (hby : i.bytes = bytes) (hzs : z.cells.size = size) (hsz : 0 < size)
    (v : Value) (n : Nat) (xs : List Value) (hs : a.eval s = v) (hown : w.ownsRow base e size v n xs)
    (ad : Addr) (m c : Nat) (news : List Value) (hx : a.eval x = .slice (some ad) m c) (hl : news.length = m * size) (hnews : ∀ j u, news[j]? = some u → w.cell? (ad.add j) = some u) (h1 : ∀ u ∈ news, u.oneCell' = true)
    (hm : 0 < m) (h63 : n + m ≤ maxLen) (hbytes : (n + m) * bytes ≤ 140737488355328) (hbase : base ≤ w.heap.size)
    (h : AppK P w base e size v n xs news m fun v' w' => K (a.put o.dst v') w') : Oper.wp P o a w K Q := by
  obtain ⟨v', w', hr, h2, h3, h4, h5⟩ := run_append_keep (P := P) w base t o.type e i z size bytes ht hi hz hsize hby hzs hsz v n xs hown ad m c news hl hnews h1 hm h63 hbytes hbase
  unfold Oper.wp
  simp [execOp, ho, resolve, invoke, builtin, hs, hx, hr, Result.andThen]
  exact h v' w' h2 h3 h4 h5
theorem wpList_append_keep {P : Program} (w : World) {ops : Array Oper} {rest : List Oper} {o : Oper} {a : Act} {Q : Exit → Act → World → Prop} (hgd : o.guard = none) (s x : Operand) (t : TypeId)
    (ho : o.op = .call { callee := .builtin .append, args := #[s, x], argTypes := #[t, t] })
    (base : Nat) (e : TypeId) (i : TypeInfo) (z : Value) (size bytes : Nat) (ht : P.underlying t = some (.slice e)) (hi : P.info? e = some i) (hz : i.zero = some z)
    (hsize : i.size = size) (hby : i.bytes = bytes) (hzs : z.cells.size = size) (hsz : 0 < size)
    (v : Value) (n : Nat) (xs : List Value) (hs : a.eval s = v) (hown : w.ownsRow base e size v n xs)
    (ad : Addr) (m c : Nat) (news : List Value) (hx : a.eval x = .slice (some ad) m c) (hl : news.length = m * size) (hnews : ∀ j u, news[j]? = some u → w.cell? (ad.add j) = some u) (h1 : ∀ u ∈ news, u.oneCell' = true)
    (hm : 0 < m) (h63 : n + m ≤ maxLen) (hbytes : (n + m) * bytes ≤ 140737488355328) (hbase : base ≤ w.heap.size)
    (h : AppK P w base e size v n xs news m fun v' w' => wpList P ops Q rest (a.put o.dst v') w') : wpList P ops Q (o :: rest) a w :=
  wpList_plain hgd fun _ hK => wp_append_keep w s x t ho base e i z size bytes ht hi hz hsize hby hzs hsz v n xs hs hown ad m c news hx hl hnews h1 hm h63 hbytes hbase fun v' w' h2 h3 h4 h5 => hK _ _ (h v' w' h2 h3 h4 h5)
theorem step_append_keep {P : Program} (w : World) {ops : Array Oper} {o : Oper} {a : Act} {K : Act → World → Prop} {Q : Exit → Act → World → Prop} {E : Prop} (hgd : o.guard = none) (s x : Operand) (t : TypeId)
    (ho : o.op = .call { callee := .builtin .append, args := #[s, x], argTypes := #[t, t] })
    (base : Nat) (e : TypeId) (i : TypeInfo) (z : Value) (size bytes : Nat) (ht : P.underlying t = some (.slice e)) (hi : P.info? e = some i) (hz : i.zero = some z)
    (hsize : i.size = size) (hby : i.bytes = bytes) (hzs : z.cells.size = size) (hsz : 0 < size)
    (v : Value) (n : Nat) (xs : List Value) (hs : a.eval s = v) (hown : w.ownsRow base e size v n xs)
    (ad : Addr) (m c : Nat) (news : List Value) (hx : a.eval x = .slice (some ad) m c) (hl : news.length = m * size) (hnews : ∀ j u, news[j]? = some u → w.cell? (ad.add j) = some u) (h1 : ∀ u ∈ news, u.oneCell' = true)
    (hm : 0 < m) (h63 : n + m ≤ maxLen) (hbytes : (n + m) * bytes ≤ 140737488355328) (hbase : base ≤ w.heap.size)
    (h : AppK P w base e size v n xs news m fun v' w' => K (a.put o.dst v') w') :
    if Region.wanted o (yielded ops a.tmps) = true then Oper.wp P o a w K Q else E := by
  have hw : Region.wanted o (yielded ops a.tmps) = true := by simp [Region.wanted, hgd]
  rw [if_pos hw]
  exact wp_append_keep w s x t ho base e i z size bytes ht hi hz hsize hby hzs hsz v n xs hs hown ad m c news hx hl hnews h1 hm h63 hbytes hbase h
/-! ### a map of texts, with truth values -/
theorem plainElem_bool_inv {P : Program} {e : TypeId} (he : P.underlying e = some .bool) {v : Value} {z : DataW Unit × List MemPlace} (h : plainElem P e v = some z) : ∃ x, v = .bool x ∧ z = (.lit (.bool x), []) := by
  unfold plainElem at h
  rw [he] at h
  cases v <;> simp at h
  subst h
  exact ⟨_, rfl, rfl⟩
def boolOf : DataW Unit → Bool
  | .lit (.bool b) => b
  | _ => false
theorem lookup_bool {P : Program} {k : TypeId} {w : World} {b n : Nat} {D : DataW Unit} {t e : TypeId} (h : w.ownsMap P k (plainElem P e) b n D) (K : Keyed P k) (ht : P.underlying t = some (.map k e)) (he : P.underlying e = some .bool) (hz : (zeroValue e).run P w = .ok (.bool false) w)
    {key : Value} {kl : Lit} (hkey : keyOf P k key = some kl) : (Instr.lookup t (.map (some b)) key false).run P w = .ok (.bool (boolOf (D.atKey kl (.lit (.bool false))))) w := by
  obtain ⟨v, ps, hrun, hv⟩ := h.lookup K ht hz (plainElem_bool he false) hkey
  obtain ⟨c, rfl, hc⟩ := plainElem_bool_inv he hv
  simp only [Prod.mk.injEq] at hc
  rw [hrun, hc.1]
  rfl
/-- The set of keys as a map to 'true'. -/
def setD (ks : List ByteArray) : DataW Unit := Maps.setOf (.lit (.bool true)) (ks.map fun s => Lit.string s.data.toList)
open Classical in
theorem atKey_fold (u : DataW Unit) (k : Lit) (z : DataW Unit) (hk : WideAt.IsKeyLit k) : ∀ (acc : List Lit) (m : DataW Unit), Maps.IsMap m → (∀ x ∈ acc, WideAt.IsKeyLit x) → (acc.foldl (fun m x => m.put x u) m).atKey k z = if k ∈ acc then u else m.atKey k z
  | [], m, hm, hacc => by simp
  | x :: acc, m, hm, hacc => by
    show ((acc.foldl (fun m x => m.put x u) (m.put x u)).atKey k z) = _
    rw [atKey_fold u k z hk acc _ (hm.put x u) (fun y hy => hacc y (List.mem_cons_of_mem _ hy))]
    by_cases h1 : k ∈ acc
    · rw [if_pos h1, if_pos (List.mem_cons_of_mem _ h1)]
    · rw [if_neg h1]
      by_cases h2 : k = x
      · subst h2
        rw [if_pos List.mem_cons_self]
        exact Maps.atKey_put_same hm hk u z
      · rw [if_neg (by simp [h1, h2])]
        exact Maps.atKey_put_other h2 u z
theorem keyLit_string (s : List UInt8) : WideAt.IsKeyLit (Lit.string s) := by
  simp [WideAt.IsKeyLit]
theorem bytes_inj {a b : ByteArray} (h : a.data.toList = b.data.toList) : a = b := by
  cases a with
  | mk a =>
    cases b with
    | mk b =>
      congr 1
      exact Array.toList_inj.1 h
def hasB (ks : List ByteArray) (s : ByteArray) : Bool := ks.any fun k => decide (k = s)
theorem hasB_iff (ks : List ByteArray) (s : ByteArray) : hasB ks s = true ↔ s ∈ ks := by
  unfold hasB
  rw [List.any_eq_true]
  exact ⟨fun ⟨k, h, e⟩ => by rw [decide_eq_true_eq] at e; exact e ▸ h, fun h => ⟨s, h, by simp⟩⟩
theorem setD_at (ks : List ByteArray) (s : ByteArray) : boolOf ((setD ks).atKey (Lit.string s.data.toList) (.lit (.bool false))) = hasB ks s := by
  unfold setD Maps.setOf
  rw [atKey_fold _ _ _ (keyLit_string _) _ _ Maps.isMap_empty (fun x hx => by obtain ⟨y, _, rfl⟩ := List.mem_map.1 hx; exact keyLit_string _)]
  by_cases h : s ∈ ks
  · rw [if_pos (List.mem_map.2 ⟨s, h, rfl⟩), (hasB_iff ks s).2 h]
    rfl
  · rw [if_neg, Bool.eq_false_iff.2 (fun z => h ((hasB_iff ks s).1 z))]
    · rfl
    · intro h2
      obtain ⟨y, hy, e⟩ := List.mem_map.1 h2
      injection e with e
      rw [bytes_inj e] at hy
      exact h hy
theorem setD_put (ks : List ByteArray) (s : ByteArray) : (setD ks).put (Lit.string s.data.toList) (.lit (.bool true)) = setD (ks ++ [s]) := by
  unfold setD
  rw [List.map_append, List.map_singleton, Maps.setOf_snoc]
/-! ### rows of records -/
def flat {α : Type} (enc : α → Value → List Value) : List α → List Value → List Value
  | x :: xs, v :: vs => enc x v ++ flat enc xs vs
  | _, _ => []
theorem flat_snoc {α : Type} (enc : α → Value → List Value) (x : α) (v : Value) : ∀ (xs : List α) (vs : List Value), vs.length = xs.length → flat enc (xs ++ [x]) (vs ++ [v]) = flat enc xs vs ++ enc x v
  | [], [], _ => by simp [flat]
  | [], _ :: _, h => by simp at h
  | _ :: _, [], h => by simp at h
  | y :: xs, u :: vs, h => by
    show enc y u ++ flat enc (xs ++ [x]) (vs ++ [v]) = _
    rw [flat_snoc enc x v xs vs (by simpa using h)]
    show _ = (enc y u ++ flat enc xs vs) ++ enc x v
    rw [List.append_assoc]
theorem flat_at {α : Type} (enc : α → Value → List Value) (sz : Nat) (hsz : ∀ x v, (enc x v).length = sz) : ∀ (xs : List α) (vs : List Value) (j : Nat) (x : α) (v : Value) (i : Nat), xs[j]? = some x → vs[j]? = some v → i < sz → (flat enc xs vs)[j * sz + i]? = (enc x v)[i]?
  | [], _, _, _, _, _, h, _, _ => by simp at h
  | _ :: _, [], _, _, _, _, _, h, _ => by simp at h
  | y :: xs, u :: vs, 0, x, v, i, h1, h2, hi => by
    simp only [List.getElem?_cons_zero, Option.some.injEq] at h1 h2
    subst h1 h2
    show (enc y u ++ flat enc xs vs)[0 * sz + i]? = _
    rw [Nat.zero_mul, Nat.zero_add, List.getElem?_append_left (by rw [hsz]; exact hi)]
  | y :: xs, u :: vs, j + 1, x, v, i, h1, h2, hi => by
    simp only [List.getElem?_cons_succ] at h1 h2
    show (enc y u ++ flat enc xs vs)[(j + 1) * sz + i]? = _
    rw [List.getElem?_append_right (by rw [hsz, Nat.succ_mul]; omega), hsz, show (j + 1) * sz + i - sz = j * sz + i by rw [Nat.succ_mul]; omega]
    exact flat_at enc sz hsz xs vs j x v i h1 h2 hi
/-- A slice of whole numbers that is only read; what it leads to lies in ok. -/
abbrev IV (W : World) (ok : Nat → Prop) (v : Value) (l : List Int) : Prop := Kd.V (Kd.int .i64) 3 W 0 ok v l
theorem IV.step {W W' : World} {ok ok' : Nat → Prop} {v : Value} {l : List Int} (h : IV W ok v l) (hm : ∀ k, ok k → k < W.heap.size → W'.heap[k]? = W.heap[k]? ∧ ok' k) : IV W' ok' v l :=
  Kd.V_mono (Kd.V_step (Kd.V_bound h) (fun k hk hlt => (hm k hk.1 hlt).1)) (fun k hk => (hm k hk.1 hk.2).2)
/-- The same; with 'some nb': a row of the call's own, made from block nb on. -/
def El (o : Option Nat) (W : World) (ok : Nat → Prop) (v : Value) (l : List Int) : Prop := match o with
  | none => IV W ok v l
  | some nb => Kd.R (Kd.int .i64) 3 W nb ok v l
theorem El.iv {o : Option Nat} {W : World} {ok : Nat → Prop} {v : Value} {l : List Int} (h : El o W ok v l) : IV W ok v l := by
  cases o with
  | none => exact h
  | some nb => exact Kd.R_V h
theorem El.step {o : Option Nat} {W W' : World} {ok ok' : Nat → Prop} {v : Value} {l : List Int} (h : El o W ok v l) (hm : ∀ k, ok k → k < W.heap.size → W'.heap[k]? = W.heap[k]? ∧ ok' k) : El o W' ok' v l := by
  cases o with
  | none => exact IV.step h hm
  | some nb => exact Kd.R_mono (Kd.R_step (Kd.R_bound h) (fun k hk hlt => (hm k hk.1 hlt).1)) (fun k hk => (hm k hk.1 hk.2.2.1).2)
theorem El.fresh {o : Option Nat} {W' : World} {n : Nat} {ok : Nat → Prop} {v : Value} {l : List Int} (ho : ∀ nb, o = some nb → nb ≤ n) (hv : Kd.R (Kd.int .i64) 3 W' n (fun _ => True) v l) (hok : ∀ k, n ≤ k → ok k) : El o W' ok v l := by
  cases o with
  | none => exact Kd.V_mono (Kd.R_V (base' := 0) (Kd.R_bound hv)) (fun k hk => hok k hk.2.1)
  | some nb => exact Kd.R_mono (Kd.R_lower (Kd.R_bound hv) (ho nb rfl)) (fun k hk => hok k hk.2.1)
/-- A row of the call's own, of records that hold one slice each. -/
def Row {α : Type} (o : Option Nat) (n₀ : Nat) (T : TypeId) (sz : Nat) (enc : α → Value → List Value) (cells : α → List Int) (W : World) (ok : Nat → Prop) (V : Value) (xs : List α) : Prop :=
  ∃ vs : List Value, vs.length = xs.length ∧ W.ownsRow n₀ T sz V xs.length (flat enc xs vs) ∧ ∀ (j : Nat) (v : Value) (x : α), vs[j]? = some v → xs[j]? = some x → El o W ok v (cells x)
section
variable {α : Type} {o : Option Nat} {n₀ : Nat} {T : TypeId} {sz : Nat} {enc : α → Value → List Value} {cells : α → List Int} {W W' : World} {ok ok' : Nat → Prop} {V V' : Value} {xs : List α}
theorem Row.step (h : Row o n₀ T sz enc cells W ok V xs) (hm : ∀ k, ok k → k < W.heap.size → W'.heap[k]? = W.heap[k]? ∧ ok' k) (ho : ∀ k, V.ownBlock = some k → W'.heap[k]? = W.heap[k]?) : Row o n₀ T sz enc cells W' ok' V xs := by
  obtain ⟨vs, h1, h2, h3⟩ := h
  exact ⟨vs, h1, own_move h2 ho, fun j v x hv hx => (h3 j v x hv hx).step hm⟩
theorem Row.push (h : Row o n₀ T sz enc cells W ok V xs) (hm : ∀ k, ok k → k < W.heap.size → W'.heap[k]? = W.heap[k]? ∧ ok' k) {x : α} {v : Value}
    (ho : ∀ fl, W.ownsRow n₀ T sz V xs.length fl → W'.ownsRow n₀ T sz V' (xs.length + 1) (fl ++ enc x v)) (hv : El o W' ok' v (cells x)) : Row o n₀ T sz enc cells W' ok' V' (xs ++ [x]) := by
  obtain ⟨vs, h1, h2, h3⟩ := h
  refine ⟨vs ++ [v], by simp [h1], ?_, fun j u y hu hy => ?_⟩
  · rw [flat_snoc enc x v xs vs h1, List.length_append, List.length_singleton]
    exact ho _ h2
  · by_cases hj : j < xs.length
    · rw [List.getElem?_append_left (by omega)] at hu
      rw [List.getElem?_append_left hj] at hy
      exact (h3 j u y hu hy).step hm
    · have hj2 : j = xs.length := by
        have := (List.getElem?_eq_some_iff.1 hy).1
        simp at this
        omega
      subst hj2
      rw [← h1, List.getElem?_concat_length] at hu
      rw [List.getElem?_concat_length] at hy
      obtain rfl := Option.some.inj hu
      obtain rfl := Option.some.inj hy
      exact hv
theorem Row.own (h : Row o n₀ T sz enc cells W ok V xs) : ∃ fl, W.ownsRow n₀ T sz V xs.length fl := by
  obtain ⟨vs, _, h2, _⟩ := h
  exact ⟨_, h2⟩
theorem Row.lt (h : Row o n₀ T sz enc cells W ok V xs) : ∀ k, V.ownBlock = some k → k < W.heap.size := fun k hk => by
  obtain ⟨_, ho⟩ := h.own
  exact own_lt ho k hk
theorem Row.ge (h : Row o n₀ T sz enc cells W ok V xs) : ∀ k, V.ownBlock = some k → n₀ ≤ k := fun k hk => by
  obtain ⟨_, ho⟩ := h.own
  exact own_base ho k hk
theorem Row.getE (hsz : ∀ x v, (enc x v).length = sz) (h : Row o n₀ T sz enc cells W ok V xs) {j : Nat} {x : α} (hx : xs[j]? = some x) :
    ∃ g c A cc, V = .slice (some ⟨g, 0, none⟩) xs.length c ∧ xs.length ≤ c ∧ g < W.heap.size ∧ n₀ ≤ g ∧ (∀ i u, (enc x (.slice A (cells x).length cc))[i]? = some u → W.cell? ⟨g, j * sz + i, none⟩ = some u) ∧
      (cells x).length ≤ cc ∧ Kd.C (Kd.int .i64) W A (cells x).length (cells x) ∧ El o W ok (.slice A (cells x).length cc) (cells x) ∧ (∃ cur, W.heap[g]? = some (.cells cur T (0, 0))) := by
  obtain ⟨vs, h1, h2, h3⟩ := h
  have hj := (List.getElem?_eq_some_iff.1 hx).1
  obtain ⟨v, hv⟩ : ∃ v, vs[j]? = some v := ⟨_, List.getElem?_eq_getElem (by omega)⟩
  have hel := h3 j v x hv hx
  have hiv := hel.iv
  obtain ⟨A, cc, rfl⟩ := Kd.V_slice hiv
  obtain ⟨_, hle, hC⟩ := Kd.V_reads' hiv
  have hlt := own_lt h2
  have hge := own_base h2
  have h2c := h2
  rcases h2.2 with ⟨_, h0⟩ | ⟨g, cap, cur, rfl, hb, hh, hcap, r⟩
  · omega
  · refine ⟨g, cap, A, cc, rfl, hcap, hlt g rfl, hb, fun i u hu => ?_, hle, hC, hel, cur, hh⟩
    have hi : i < sz := by
      have := (List.getElem?_eq_some_iff.1 hu).1
      rwa [hsz] at this
    have := h2c.cells (g := g) rfl (j * sz + i) u (by rw [flat_at enc sz hsz xs vs j x _ i hx hv hi]; exact hu)
    rwa [add0] at this
theorem Row.get (hsz : ∀ x v, (enc x v).length = sz) (h : Row o n₀ T sz enc cells W ok V xs) {j : Nat} {x : α} (hx : xs[j]? = some x) :
    ∃ g c A cc, V = .slice (some ⟨g, 0, none⟩) xs.length c ∧ xs.length ≤ c ∧ g < W.heap.size ∧ n₀ ≤ g ∧ (∀ i u, (enc x (.slice A (cells x).length cc))[i]? = some u → W.cell? ⟨g, j * sz + i, none⟩ = some u) ∧
      (cells x).length ≤ cc ∧ Kd.C (Kd.int .i64) W A (cells x).length (cells x) ∧ IV W ok (.slice A (cells x).length cc) (cells x) ∧ (∃ cur, W.heap[g]? = some (.cells cur T (0, 0))) := by
  obtain ⟨g, c, A, cc, h1, h2, h3, h4, h5, h6, h7, h8, h9⟩ := h.getE hsz hx
  exact ⟨g, c, A, cc, h1, h2, h3, h4, h5, h6, h7, h8.iv, h9⟩
/-- A row of records as the kinds tell it. -/
theorem Row.toV {β : Type} (d : Kd β) (f : α → β) (hd : d.sz = sz) (hsz : ∀ x v, (enc x v).length = sz) (hK : ∀ (W : World) (x : α) (A : Option Addr) (c : Nat), (cells x).length ≤ c → Kd.C (Kd.int .i64) W A (cells x).length (cells x) → d.K W (f x) (enc x (.slice A (cells x).length c)))
    (h : Row o n₀ T sz enc cells W ok V xs) (hok : ∀ k, ok k → ok' k) (hge : ∀ k, n₀ ≤ k → ok' k) (hlen : xs.length ≤ 1000000) (e base : Nat) : Kd.V d e W base ok' V (xs.map f) := by
  obtain ⟨_, hown⟩ := h.own
  have hlt := h.lt
  have hgeo := h.ge
  rcases hown.2 with ⟨rfl, h0⟩ | ⟨g, cap, cur, rfl, _, _, hcap, _⟩
  · obtain rfl := List.eq_nil_of_length_eq_zero h0
    exact Kd.V_nil _ _ _ _ _
  · rw [show xs.length = (xs.map f).length by simp]
    refine Kd.V_mk (by simpa using hcap) (fun W' hW => ?_)
    have hr := h.step (W' := W') (ok' := ok) (fun k hk hl => ⟨hW k (hok k hk) hl, hk⟩) (fun k hk => hW k (hge k (hgeo k hk)) (hlt k hk))
    refine ⟨rfl, by rw [List.length_map]; omega, fun _ => ⟨_, rfl, fun j p hp => ?_⟩⟩
    rw [List.getElem?_map] at hp
    obtain ⟨x, hx, rfl⟩ := Option.map_eq_some_iff.1 hp
    obtain ⟨g', c', A, cc, hV, _, _, _, hcell, hle, hC, _⟩ := hr.get hsz hx
    obtain rfl : g = g' := by
      simp only [Value.slice.injEq, Option.some.injEq, Addr.mk.injEq] at hV
      exact hV.1.1
    refine ⟨enc x (.slice A (cells x).length cc), by rw [hd]; exact hsz _ _, hK W' x A cc hle hC, fun i u hu => ?_⟩
    rw [hd, add0]
    exact hcell i u hu
end
end RB
end Go.Proofs.YtoojemnocncafaaV
