/- Contracts of slices.Chunk over bytes, of strings.Join with '/', and of the program's method (tray).text: the pieces of n cells, written with slashes. -/
import Derived.RangeFuncNested
import Derived.RangeFuncBound
import Derived.RangeFuncCalls
import Derived.RangeFuncLeaves
import Derived.Shelf.Abstract
import Derived.Shelf.RegionOpen
import Derived.WalkKit
import Derived.OwnWalkIn
import Derived.TacticsInMore
import Derived.LoopNIn
import Derived.LoopIn
import Derived.Maps.AppendAt
import Derived.Lib.Join
import Derived.Test.YtoojemnocncafaaVChunk
import Derived.Test.YtoojemnocncafaaShelf
import Derived.Test.YtoojemnocncafaaWLast
import Derived.Test.YtoojemnocncafaaWMore
namespace Go.Proofs.YtoojemnocncafaaV
open Go.RowKit Go.Shelf Go.Proofs.YtoojemnocncafaaW.PrintWords Go.Proofs.YtoojemnocncafaaW.PrintLast
attribute [local go_sem] Oper.semAt_some

set_option maxHeartbeats 1000000 in
theorem chunk_in (F : Fence) (m : Nat) (hf : F.fn 32) (hro : F.round = none) (a : Option Addr) (len cap n : Nat) (hn : 0 < n) (w : World) :
    CallsIn F m Try.prog 32 #[.slice a len cap, .int .i64 n] w fun e w' => e = .returned (.func (.func 41) #[] #[.pointer (some ⟨w.heap.size, 0, none⟩), .pointer (some ⟨w.heap.size + 1, 0, none⟩)]) ∧
      w' = (w.alloc (.cells #[.slice a len cap] 32)).alloc (.cells #[.int .i64 n] 3) := by
  refine callsIn_of_wp Try.func32 rfl hf ?_ hro
  simp only [Try.ntmps32, List.size_toArray, List.length_cons, List.length_nil, Nat.reduceAdd, Nat.reduceSub, Array.replicate_succ, Array.replicate_zero, List.push_toArray, List.append_toArray, List.nil_append, List.cons_append]
  have hn1 : ¬ ((n : Int) < 1) := by omega
  have bN := Boxed.new (w.alloc (.cells #[.slice a len cap] 32)) 3 (.int .i64 n)
  rw [World.size_alloc] at bN
  have hc := bN.cell
  gi_wp2
  go_ret
  exact ⟨rfl, rfl⟩
theorem infoS : (Try.prog.info? 9).map (fun i => (i.zero, i.size, i.bytes)) = some (some (.string ByteArray.empty), 1, 16) := by kernel_rfl
/-- The pieces, as texts. -/
def piece (n : Nat) (l : List Int) (k : Nat) : ByteArray := strOfNums ((l.drop (k * n)).take n)
def pieces (n : Nat) (l : List Int) : List ByteArray := (List.range (nch n l.length)).map (piece n l)
theorem pieces_fin (n : Nat) (l : List Int) : (List.finRange (nch n l.length)).map (fun x => piece n l x.val) = pieces n l := by
  apply List.ext_getElem <;> simp [pieces]
def chunkKp (n₀ Bs Bn : Nat) (W W' : World) : Prop := Below n₀ W W' ∧ W'.heap[Bs]? = W.heap[Bs]? ∧ W'.heap[Bn]? = W.heap[Bn]?
theorem chunkKp_t {n₀ Bs Bn : Nat} {A B C : World} (h : chunkKp n₀ Bs Bn A B) (k : chunkKp n₀ Bs Bn B C) : chunkKp n₀ Bs Bn A C := ⟨h.1.trans k.1, k.2.1.trans h.2.1, k.2.2.trans h.2.2⟩
theorem chunkKp_b {n₀ Bs Bn : Nat} {w : World} (hn : n₀ ≤ w.heap.size) (hs : Bs < w.heap.size) (hb : Bn < w.heap.size) (W : World) (l : Nat) (o o' : Obj) (hl : w.heap.size ≤ l) (h : W.heap[l]? = some o) (hc : o.isCells = false) (hw : o.isWalk = false) : chunkKp n₀ Bs Bn W (W.putObj l o') :=
  ⟨belowK_b hn W l o o' hl h hc hw, World.putObj_heap_other (by omega), World.putObj_heap_other (by omega)⟩
theorem chunk_stops (F : Fence) (m : Nat) (hf : F.fn 41) (hro : F.round = none) (hm : 1 ≤ m) (Bs Bn b off len cap n : Nat) (hn : 0 < n) (hn2 : n ≤ 1000000) (hlen : len ≤ 1000000) (hcap : len ≤ cap)
    (w : World) (hBs : Boxed w Bs 32 (.slice (some ⟨b, off, none⟩) len cap)) (hBn : Boxed w Bn 3 (.int .i64 n)) (n₀ : Nat) :
    SeqStopsK F m Try.prog 41 #[.pointer (some ⟨Bs, 0, none⟩), .pointer (some ⟨Bn, 0, none⟩)] (fun x : Fin (nch n len) => #[chunkV b off len n x.val])
      (chunkKp n₀ Bs Bn) (fun ys => ys = List.finRange (nch n len)) (fun pre => pre <+: List.finRange (nch n len)) (nch n len) w := fun l J Jx W hW hJ _ hY h0 => by
  have hs := (hW.block Bs hBs.lt).trans hBs
  have hn' := (hW.block Bn hBn.lt).trans hBn
  refine chunk1_in F m hf hro hm l Bs Bn b off len cap n hn hn2 hlen hcap (chunkKp n₀ Bs Bn) (fun W W' hk => ?_) J Jx (fun s W hs => hJ s W W.drew none hs ⟨rfl, rfl, rfl, Nat.le_refl _, fun _ _ _ => rfl⟩ (fun r e => by cases e)) hY W (Boxed.cell (t := 32) hs) (Boxed.cell (t := 3) hn') h0
  constructor
  · unfold World.cell?; simp only; rw [hk.2.1]
  · unfold World.cell?; simp only; rw [hk.2.2]
theorem piece_reads {w W : World} {b off n : Nat} {l : List Int} (hc : ∀ j, j < l.length → w.cell? ⟨b, off + j, none⟩ = some (.int .u8 (l.getD j 0))) (hb : b < w.heap.size) (hB : Below w.heap.size w W) (hlen : l.length ≤ 1000000) (k c : Nat) :
    (convert 32 9 (.slice (some ⟨b, off + k * n, none⟩) (min n (l.length - k * n)) c)).run Try.prog W = .ok (.string (piece n l k)) W := by
  refine string_of_reads Try.underlying32 Try.underlying5 Try.underlying9 ⟨?_, ?_, fun hp => ⟨_, rfl, fun j hj => ?_⟩⟩
  · rw [List.length_take, List.length_drop]
  · omega
  · have hj2 : k * n + j < l.length := by omega
    have e : (⟨b, off + k * n, none⟩ : Addr).add j = ⟨b, off + (k * n + j), none⟩ := by
      unfold Addr.add
      split
      · rename_i e0; subst e0; simp
      · simp [Nat.add_assoc]
    rw [e, hB.cell (p := ⟨b, off + (k * n + j), none⟩) hb, hc _ hj2]
    simp only [List.getD_eq_getElem?_getD, List.getElem?_take, List.getElem?_drop]
    rw [if_pos (by omega)]
def JoinIn (F : Fence) (m : Nat) : Prop := ∀ (A : Option Addr) (c : Nat) (xs : List ByteArray) (W : World), (Kd.string).C W A xs.length xs → xs.length ≤ c → xs.length ≤ 140737488355328 → (Lib.join (xs.map (·.data.toList)) [47]).length ≤ 140737488355328 →
  CallsIn F m Try.prog 33 #[.slice A xs.length c, .string ⟨#[47]⟩] W fun e w' => e = .returned (.string ⟨(Lib.join (xs.map (·.data.toList)) [47]).toArray⟩) ∧ Below W.heap.size W w'
set_option maxRecDepth 100000 in
set_option maxHeartbeats 2000000 in
theorem text_in (F : Fence) (hfn : ∀ g, F.fn g) (hro : F.round = none) (m : Nat) (hm : 5 ≤ m) (hJn : JoinIn F (m - 1)) (b off cap n : Nat) (a1 : Int) (l : List Int) (hn : 0 < n) (hn2 : n ≤ 1000000) (hlen : l.length ≤ 1000000) (hcap : l.length ≤ cap) (w : World)
    (hb : b < w.heap.size) (hc : ∀ j, j < l.length → w.cell? ⟨b, off + j, none⟩ = some (.int .u8 (l.getD j 0))) (hT : (Lib.join ((pieces n l).map (·.data.toList)) [47]).length ≤ 140737488355328) :
    CallsIn F m Try.prog 16 #[.agg #[.int .i64 n, .int .i64 a1, .slice (some ⟨b, off, none⟩) l.length cap]] w fun e w' => e = .returned (.string ⟨(Lib.join ((pieces n l).map (·.data.toList)) [47]).toArray⟩) ∧ Below w.heap.size w w' := by
  have h1 : 1 ≤ m := by omega
  have HJ := Aside0.mk hJn
  have HC := Aside0.mk hc
  have HT := Aside0.mk hT
  clear hJn hc hT
  obtain ⟨i0, hi, hz0, hz1, hz2⟩ := info_parts infoS
  refine callsIn_of_wp_marks Try.func16 rfl (hfn _) ?_ hro
  simp only [Try.ntmps16, List.size_toArray, List.length_cons, List.length_nil, Nat.reduceAdd, Nat.reduceSub, Array.replicate_succ, Array.replicate_zero, List.push_toArray, List.append_toArray, List.nil_append, List.cons_append]
  gi_wp2_with (gi_at_call 32; refine (chunk_in F (m - 1) (hfn _) hro _ _ _ n hn _).mono ?_; rintro e w' ⟨rfl, rfl⟩)
  obtain ⟨w1, hw1⟩ : ∃ w1, w.alloc (.cells #[.int .i64 n, .int .i64 a1, .slice (some ⟨b, off, none⟩) l.length cap] 40) = w1 := ⟨_, rfl⟩
  have s1 : w1.heap.size = w.heap.size + 1 := by rw [← hw1]; simp
  have B1 : Below w.heap.size w w1 := by rw [← hw1]; exact (Below.refl _ w).alloc (Nat.le_refl _) _
  rw [hw1]
  have r0 : (w1.alloc (.cells #[] 9)).ownsRow w.heap.size 9 1 (.slice (some ⟨w.heap.size + 1, 0, none⟩) 0 0) 0 [] := by
    have := World.ownsRow_made (base := w.heap.size) (e := 9) (size := 1) w1 #[] 0 (by omega) (Nat.zero_le _) rfl
    rw [s1] at this
    exact this
  obtain ⟨w2, hw2⟩ : ∃ w2, w1.alloc (.cells #[] 9) = w2 := ⟨_, rfl⟩
  have s2 : w2.heap.size = w.heap.size + 1 + 1 := by rw [← hw2, World.size_alloc, s1]
  have B2 : Below w.heap.size w w2 := by rw [← hw2]; exact B1.alloc (by omega) _
  rw [hw2] at r0 ⊢
  have bR := Boxed.new w2 22 (.slice (some ⟨w.heap.size + 1, 0, none⟩) 0 0)
  rw [s2] at bR
  have r1 := r0.alloc (.cells #[.slice (some ⟨w.heap.size + 1, 0, none⟩) 0 0] 22)
  obtain ⟨w3, hw3⟩ : ∃ w3, w2.alloc (.cells #[.slice (some ⟨w.heap.size + 1, 0, none⟩) 0 0] 22) = w3 := ⟨_, rfl⟩
  have s3 : w3.heap.size = w.heap.size + 1 + 1 + 1 := by rw [← hw3, World.size_alloc, s2]
  have B3 : Below w.heap.size w w3 := by rw [← hw3]; exact B2.alloc (by omega) _
  rw [hw3] at bR r1 ⊢
  have bS := Boxed.new w3 32 (.slice (some ⟨b, off, none⟩) l.length cap)
  rw [s3] at bS
  replace bR := bR.alloc (.cells #[.slice (some ⟨b, off, none⟩) l.length cap] 32)
  replace r1 := r1.alloc (.cells #[.slice (some ⟨b, off, none⟩) l.length cap] 32)
  obtain ⟨w4, hw4⟩ : ∃ w4, w3.alloc (.cells #[.slice (some ⟨b, off, none⟩) l.length cap] 32) = w4 := ⟨_, rfl⟩
  have s4 : w4.heap.size = w.heap.size + 1 + 1 + 1 + 1 := by rw [← hw4, World.size_alloc, s3]
  have B4 : Below w.heap.size w w4 := by rw [← hw4]; exact B3.alloc (by omega) _
  rw [hw4] at bR r1 bS ⊢
  have bN := Boxed.new w4 3 (.int .i64 (n : Int))
  rw [s4] at bN
  replace bR := bR.alloc (.cells #[.int .i64 (n : Int)] 3)
  replace bS := bS.alloc (.cells #[.int .i64 (n : Int)] 3)
  replace r1 := r1.alloc (.cells #[.int .i64 (n : Int)] 3)
  obtain ⟨w5, hw5⟩ : ∃ w5, w4.alloc (.cells #[.int .i64 (n : Int)] 3) = w5 := ⟨_, rfl⟩
  have s5 : w5.heap.size = w.heap.size + 1 + 1 + 1 + 1 + 1 := by rw [← hw5, World.size_alloc, s4]
  have B5 : Below w.heap.size w w5 := by rw [← hw5]; exact B4.alloc (by omega) _
  rw [hw5] at bR r1 bS bN ⊢
  clear hw1 hw2 hw3 hw4 hw5 B1 B2 B3 B4 s1 s2 s3 s4 r0 w1 w2 w3 w4
  obtain ⟨R, hR⟩ : ∃ R, w.heap.size + 1 + 1 = R := ⟨_, rfl⟩
  obtain ⟨Bs, hBs⟩ : ∃ Bs, w.heap.size + 1 + 1 + 1 = Bs := ⟨_, rfl⟩
  obtain ⟨Bn, hBn⟩ : ∃ Bn, w.heap.size + 1 + 1 + 1 + 1 = Bn := ⟨_, rfl⟩
  rw [hBn] at bN ⊢
  rw [hBs] at bS ⊢
  rw [hR] at bR ⊢
  refine wpIn_rangeFunc_ownG hro h1 (gf := 41) (lb := #[.pointer (some ⟨Bs, 0, none⟩), .pointer (some ⟨Bn, 0, none⟩)]) rfl (hfn _) (enters_of Try.func41 (by kernel_rfl) rfl)
    (chunk_stops F (m - 1) (hfn _) hro (by omega) Bs Bn b off l.length cap n hn hn2 hlen hcap w5 bS bN w.heap.size) chunkKp_t (chunkKp_b (by omega) (by omega) (by omega)) (Below.refl _ _) (fun _ => rfl)
    (fun (pre : List (Fin (nch n l.length))) W => ((∃ v, Boxed W R 22 v ∧ W.ownsRow w.heap.size 9 1 v pre.length (pre.map fun x => Value.string (piece n l x.val)) ∧ True) ∧ Boxed W Bs 32 (.slice (some ⟨b, off, none⟩) l.length cap) ∧ Boxed W Bn 3 (.int .i64 n)) ∧ Below w.heap.size w W)
    (fun _ _ _ => False)
    (OwnFrom.and (OwnFrom.and (Own.from (holdsRow_own w.heap.size R 22 9 1 (fun (pre : List (Fin (nch n l.length))) => pre.length) (fun pre => pre.map fun x => Value.string (piece n l x.val)) (fun _ _ => True)) _) (OwnFrom.and (Own.from (boxed_own Bs 32 (fun _ => .slice (some ⟨b, off, none⟩) l.length cap)) _) (Own.from (boxed_own Bn 3 (fun _ => .int .i64 n)) _))) (ownFrom_below (Nat.le_refl _) (by omega)))
    (fun _ _ _ _ _ hs _ _ => hs)
    ⟨⟨⟨_, bR, r1, trivial⟩, bS, bN⟩, B5⟩
    (fun x => { tmps := #[.agg #[.int .i64 n, .int .i64 a1, .slice (some ⟨b, off, none⟩) l.length cap], .pointer (some ⟨w.heap.size, 0, none⟩), .string ⟨#[]⟩, .pointer (some ⟨R, 0, none⟩), chunkV b off l.length n x.val, .slice (some ⟨w.heap.size + 1, 0, none⟩) 0 0, .pointer (some ⟨w.heap.size, 2, none⟩), .slice (some ⟨b, off, none⟩) l.length cap, .pointer (some ⟨w.heap.size, 0, none⟩), .int .i64 n, .func (.func 41) #[] #[.pointer (some ⟨Bs, 0, none⟩), .pointer (some ⟨Bn, 0, none⟩)], chunkV b off l.length n x.val, undef, undef, undef, undef, undef, undef, undef], defers := [] }) ?assign ?body ?done ?stop
  case assign =>
    intro l x W K hK
    gi_wp2
    exact hK
  case body =>
    rintro l' pre x W ⟨⟨⟨v, hv, hrow, _⟩, hs, hnn⟩, hB⟩ hlt
    have hcc := hv.cell
    have hcv := piece_reads (n := n) HC.out hb hB hlen x.val (min n (l.length - x.val * n))
    have hN : nch n l.length ≤ 2000000 := by
      unfold nch
      exact Nat.le_trans (Nat.div_le_self _ _) (by omega)
    unfold chunkV
    gi_wp2_with (gi_at_builtin; refine wpListIn_append_own _ rfl _ _ 22 rfl w.heap.size 9 i0 (.string ByteArray.empty) 1 16 Try.underlying22 hi hz0 hz1 hz2 rfl (by decide) _ _ _ rfl (hrow.alloc _) ⟨W.heap.size, 0, none⟩ 1 1 [.string (piece n l x.val)] rfl rfl (cell_one_new _ _ _) (by simp [Value.oneCell']) (by unfold maxLen; omega) (by omega) (by have := hB.size; simp; omega) ?_; intro v' w1 hown' hgrow _; obtain ⟨g', cap', rfl⟩ := ownsRow_succ hown'; obtain ⟨hv1, hv2, hr2, hk2, hb2⟩ := hv.appended (by decide) hrow hB.size (by omega) hown' hgrow; have hc1 := hv1.cell; have hf1 := hv1.frozen)
    have hs1 := (hs.alloc (.cells #[.string (piece n l x.val)] 9)).kept hgrow (hs.not_row (by decide) hrow)
    have hn1 := (hnn.alloc (.cells #[.string (piece n l x.val)] 9)).kept hgrow (hnn.not_row (by decide) hrow)
    have hs2 := hs1.other (B' := R) (by omega) (.slice (some ⟨g', 0, none⟩) (pre.length + 1) cap')
    have hn2 := hn1.other (B' := R) (by omega) (.slice (some ⟨g', 0, none⟩) (pre.length + 1) cap')
    exact ⟨hk2.from _, ⟨hb2, Eq.trans hs2 (Eq.symm hs), Eq.trans hn2 (Eq.symm hnn)⟩, ⟨⟨_, hv2, by simpa using hr2, trivial⟩, hs2, hn2⟩, hB.trans hb2⟩
  case done =>
    rintro D ys W hD rfl ⟨⟨⟨v, hv, hrow, _⟩, hs, hnn⟩, hB⟩ hK
    have hcc := hv.cell
    have e1 : (List.finRange (nch n l.length)).length = (pieces n l).length := by simp [pieces]
    have e2 : ((List.finRange (nch n l.length)).map fun x => Value.string (piece n l x.val)) = encs Value.string (pieces n l) := by
      rw [← pieces_fin]
      simp [encs]
    rw [e1, e2] at hrow
    have HR := Kd.R_of_own (h1 := fun _ => rfl) (ok := fun _ => True) hrow (fun _ _ => trivial)
    obtain ⟨A, c, rfl⟩ := Kd.R_slice HR
    obtain ⟨_, hle, hC⟩ := Kd.R_reads' HR
    have hN : (pieces n l).length ≤ 2000000 := by
      unfold pieces nch
      rw [List.length_map, List.length_range]
      exact Nat.le_trans (Nat.div_le_self _ _) (by omega)
    have hJc := HJ.out A c (pieces n l) W hC hle (by omega) HT.out
    clear HR hC e1 e2
    gi_wp2_with (gi_at_call 33; refine hJc.mono ?_; rintro e w' ⟨rfl, hbj⟩)
    have hK' := (hbj.block D (Array.getElem?_eq_some_iff.1 hK).1).trans hK
    refine ⟨by simp, .inl ⟨_, _, rfl, run_takeDeferred hK', ?_⟩⟩
    exact ⟨_, results_tmp rfl _ _ _, rfl, (hB.trans (hbj.mono hB.size)).trans (belowK_b (w := w) (Nat.le_refl _) w' D _ _ (by omega) hK' rfl rfl)⟩
  case stop =>
    rintro D c pre W _ _ h _
    exact h.elim
/-- strings.Join with '/' between. -/
theorem join_in (m : Nat) : JoinIn Fence.wide m := by
  intro A0 c0 l0 W hr0 hc0 h1 h2
  refine callsIn_wide.2 ?_
  by_cases h3 : l0.length = 0
  · have hn : l0 = [] := List.eq_nil_of_length_eq_zero h3
    subst hn
    refine (Any.strings_Join_none Try.lays156 Try.Builder_Extra_156 A0 c0 ⟨#[47]⟩ W).mono ?_
    rintro e w' ⟨rfl, rfl⟩
    exact ⟨rfl, Below.refl _ _⟩
  · obtain ⟨ad, hA, hcell⟩ := hr0.2.2 (Nat.pos_of_ne_zero h3)
    subst hA
    obtain ⟨b, off, sp⟩ := ad
    have hcl : ∀ (j : Nat) x, l0[j]? = some x → W.cell? ((⟨b, off, sp⟩ : Addr).add j) = some (.string x) := by
      intro j x hx
      obtain ⟨c, hl, hk, hcc⟩ := hcell j x hx
      have hk' : c = [Value.string x] := hk
      subst hk'
      have hz := hcc 0 (.string x) rfl
      have e1 : j * (Kd.string).sz + 0 = j := by show j * 1 + 0 = j; omega
      rw [e1] at hz
      exact hz
    obtain ⟨x0, hx0⟩ : ∃ x0, l0[0]? = some x0 := ⟨_, List.getElem?_eq_getElem (Nat.pos_of_ne_zero h3)⟩
    have h00 : W.cell? ⟨b, off, sp⟩ = some (.string x0) := hcl 0 x0 hx0
    have hsp : sp = none := World.cell?_spot h00
    subst hsp
    have hc : ∀ (j : Nat) x, l0[j]? = some x → W.cell? ⟨b, off + j, none⟩ = some (.string x) := by
      intro j x hx
      have hz := hcl j x hx
      have ea : (⟨b, off, none⟩ : Addr).add j = ⟨b, off + j, none⟩ := by
        unfold Addr.add
        split
        · rename_i e0
          subst e0
          rfl
        · rfl
      rw [ea] at hz
      exact hz
    refine (Any.strings_Join Try.lays156 Try.Builder_Extra_156 b off c0 l0 ⟨#[47]⟩ W hc (World.block_lt_of_cell? W _ h00) h1 hc0 h2).mono ?_
    rintro e w' ⟨rfl, hb⟩
    exact ⟨rfl, hb⟩
/-- The cells of a row that is read, its first cell's block and place. -/
theorem row_cells {w : World} {A : Option Addr} {l : List Int} (hr : Kd.C (Kd.int .u8) w A l.length l) (hp : 0 < l.length) :
    ∃ b off, A = some ⟨b, off, none⟩ ∧ b < w.heap.size ∧ ∀ j, j < l.length → w.cell? ⟨b, off + j, none⟩ = some (.int .u8 (l.getD j 0)) := by
  obtain ⟨ad, hA, hcell⟩ := hr.2.2 hp
  subst hA
  obtain ⟨b, off, sp⟩ := ad
  have hcl : ∀ (j : Nat) x, l[j]? = some x → w.cell? ((⟨b, off, sp⟩ : Addr).add j) = some (.int .u8 x) := by
    intro j x hx
    obtain ⟨c, hl, hk, hcc⟩ := hcell j x hx
    have hk' : c = [Value.int .u8 x] := hk
    subst hk'
    have hz := hcc 0 (.int .u8 x) rfl
    have e1 : j * (Kd.int .u8).sz + 0 = j := by show j * 1 + 0 = j; omega
    rw [e1] at hz
    exact hz
  have h00 : w.cell? ⟨b, off, sp⟩ = some (.int .u8 l[0]) := hcl 0 _ (List.getElem?_eq_getElem hp)
  have hsp : sp = none := World.cell?_spot h00
  subst hsp
  refine ⟨b, off, rfl, World.block_lt_of_cell? w _ h00, fun j hj => ?_⟩
  have hz := hcl j _ (List.getElem?_eq_getElem hj)
  have ea : (⟨b, off, none⟩ : Addr).add j = ⟨b, off + j, none⟩ := by
    unfold Addr.add
    split
    · rename_i e0
      subst e0
      rfl
    · rfl
  rw [ea] at hz
  rw [hz, List.getD_eq_getElem?_getD, List.getElem?_eq_getElem hj]
  rfl
/-- The text of cells. -/
def textOf (n : Nat) (l : List Int) : ByteArray := ⟨(Lib.join ((pieces n l).map (·.data.toList)) [47]).toArray⟩
theorem text_calls (a0 a1 : Int) (A : Option Addr) (c : Nat) (l : List Int) (w : World) (hr : Kd.C (Kd.int .u8) w A l.length l) (hc : l.length ≤ c) (h0 : 0 < a0) (h1 : a0 ≤ 1000000) (h2 : 0 < l.length) (h3 : l.length ≤ 1000000) (h4 : (textOf a0.toNat l).size ≤ 140737488355328) :
    Calls Try.prog 16 #[.agg #[.int .i64 a0, .int .i64 a1, .slice A l.length c]] w fun e w' => e = .returned (.string (textOf a0.toNat l)) ∧ Below w.heap.size w w' := by
  obtain ⟨b, off, rfl, hb, hcells⟩ := row_cells hr h2
  obtain ⟨n, rfl⟩ := Int.eq_ofNat_of_zero_le (show 0 ≤ a0 by omega)
  have := text_in Fence.wide (fun _ => trivial) rfl 5 (Nat.le_refl _) (join_in _) b off c n a1 l (by omega) (by omega) h3 hc w hb hcells h4
  exact callsIn_wide.1 this

end Go.Proofs.YtoojemnocncafaaV
