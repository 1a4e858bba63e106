/- Contract of the program's boardText: the rows' texts, with slashes between them. -/
import Derived.RangeFuncNested
import Derived.RangeFuncBound
import Derived.RangeFuncCalls
import Derived.RangeFuncLeaves
import Derived.Shelf.Abstract
import Derived.Shelf.RegionOpen
import Derived.WalkKit
import Derived.OwnWalkIn
import Derived.TacticsInMore
import Derived.LoopNIn
import Derived.LoopIn
import Derived.Maps.AppendAt
import Derived.Deep.RegionLaw
import Derived.Lib.Join
import Derived.Lib.SliceRun
import Derived.Test.YtmplgijnmjdogaaDoorVChunkI
import Derived.Test.YtmplgijnmjdogaaDoorShelf
import Derived.Test.YtmplgijnmjdogaaDoorWLast
import Derived.Test.YtmplgijnmjdogaaDoorWMore
set_option linter.unusedVariables false
set_option linter.unusedSimpArgs false
namespace Go.Proofs.YtmplgijnmjdogaaDoorV
open Go.RowKit Go.Shelf Go.Proofs.YtmplgijnmjdogaaDoorW.PrintWords Go.Proofs.YtmplgijnmjdogaaDoorW.PrintLast
attribute [local go_sem] Oper.semAt_some
set_option maxHeartbeats 1000000 in
theorem chunk_in (F : Fence) (m : Nat) (hf : F.fn 60) (hro : F.round = none) (a : Option Addr) (len cap n : Nat) (hn : 0 < n) (w : World) :
    CallsIn F m Tryd.prog 60 #[.slice a len cap, .int .i64 n] w fun e w' => e = .returned (.func (.func 80) #[] #[.pointer (some ⟨w.heap.size, 0, none⟩), .pointer (some ⟨w.heap.size + 1, 0, none⟩)]) ∧
      w' = (w.alloc (.cells #[.slice a len cap] 22)).alloc (.cells #[.int .i64 n] 3) := by
  refine callsIn_of_wp Tryd.func60 rfl hf ?_ hro
  simp only [Tryd.ntmps60, List.size_toArray, List.length_cons, List.length_nil, Nat.reduceAdd, Nat.reduceSub, Array.replicate_succ, Array.replicate_zero, List.push_toArray, List.append_toArray, List.nil_append, List.cons_append]
  have hn1 : ¬ ((n : Int) < 1) := by omega
  have bN := Boxed.new (w.alloc (.cells #[.slice a len cap] 22)) 3 (.int .i64 n)
  rw [World.size_alloc] at bN
  have hc := bN.cell
  gi_wp2
  go_ret
  exact ⟨rfl, rfl⟩
def chunkKp (n₀ Bs Bn : Nat) (W W' : World) : Prop := Below n₀ W W' ∧ W'.heap[Bs]? = W.heap[Bs]? ∧ W'.heap[Bn]? = W.heap[Bn]?
theorem chunkKp_t {n₀ Bs Bn : Nat} {A B C : World} (h : chunkKp n₀ Bs Bn A B) (k : chunkKp n₀ Bs Bn B C) : chunkKp n₀ Bs Bn A C := ⟨h.1.trans k.1, k.2.1.trans h.2.1, k.2.2.trans h.2.2⟩
theorem chunkKp_b {n₀ Bs Bn : Nat} {w : World} (hn : n₀ ≤ w.heap.size) (hs : Bs < w.heap.size) (hb : Bn < w.heap.size) (W : World) (l : Nat) (o o' : Obj) (hl : w.heap.size ≤ l) (h : W.heap[l]? = some o) (hc : o.isCells = false) (hw : o.isWalk = false) : chunkKp n₀ Bs Bn W (W.putObj l o') :=
  ⟨belowK_b hn W l o o' hl h hc hw, World.putObj_heap_other (by omega), World.putObj_heap_other (by omega)⟩
theorem chunk_stops (F : Fence) (m : Nat) (hf : F.fn 80) (hro : F.round = none) (hm : 1 ≤ m) (Bs Bn b off len cap n : Nat) (hn : 0 < n) (hn2 : n ≤ 1000000) (hlen : len ≤ 1000000) (hcap : len ≤ cap)
    (w : World) (hBs : Boxed w Bs 22 (.slice (some ⟨b, off, none⟩) len cap)) (hBn : Boxed w Bn 3 (.int .i64 n)) (n₀ : Nat) :
    SeqStopsK F m Tryd.prog 80 #[.pointer (some ⟨Bs, 0, none⟩), .pointer (some ⟨Bn, 0, none⟩)] (fun x : Fin (nch n len) => #[chunkV b off len n x.val])
      (chunkKp n₀ Bs Bn) (fun ys => ys = List.finRange (nch n len)) (fun pre => pre <+: List.finRange (nch n len)) (nch n len) w := fun l J Jx W hW hJ _ hY h0 => by
  have hs := (hW.block Bs hBs.lt).trans hBs
  have hn' := (hW.block Bn hBn.lt).trans hBn
  refine chunk1_in F m hf hro hm l Bs Bn b off len cap n hn hn2 hlen hcap (chunkKp n₀ Bs Bn) (fun W W' hk => ?_) J Jx (fun s W hs => hJ s W W.drew none hs ⟨rfl, rfl, rfl, Nat.le_refl _, fun _ _ _ => rfl⟩ (fun r e => by cases e)) hY W (Boxed.cell (t := 22) hs) (Boxed.cell (t := 3) hn') h0
  constructor
  · unfold World.cell?; simp only; rw [hk.2.1]
  · unfold World.cell?; simp only; rw [hk.2.2]
theorem infoS : (Tryd.prog.info? 9).map (fun i => (i.zero, i.size, i.bytes)) = some (some (.string ByteArray.empty), 1, 16) := by kernel_rfl
theorem step_append_own {P : Program} {ops : Array Oper} {w : World} {E : Prop} {o : Oper} {a : Act} {K : Act → World → Prop} {Q : Exit → Act → World → Prop} (hg : o.guard = none) (s x : Operand) (t : TypeId)
    (ho : o.op = .call { callee := .builtin .append, args := #[s, x], argTypes := #[t, t] })
    (base : Nat) (e : TypeId) (i : TypeInfo) (z : Value) (size bytes : Nat) (ht : P.underlying t = some (.slice e)) (hi : P.info? e = some i) (hz : i.zero = some z)
    (hsize : i.size = size) (hby : i.bytes = bytes) (hzs : z.cells.size = size) (hsz : 0 < size)
    (v : Value) (n : Nat) (xs : List Value) (hs : a.eval s = v) (hown : w.ownsRow base e size v n xs)
    (ad : Addr) (m c : Nat) (news : List Value) (hx : a.eval x = .slice (some ad) m c) (hl : news.length = m * size) (hnews : ∀ j u, news[j]? = some u → w.cell? (ad.add j) = some u) (h1 : ∀ u ∈ news, u.oneCell' = true)
    (h63 : n + m ≤ maxLen) (hbytes : (n + m) * bytes ≤ 140737488355328) (hbase : base ≤ w.heap.size)
    (h : ∀ v' w', w'.ownsRow base e size v' (n + m) (xs ++ news) → w.grownBy w' v.ownBlock → (v' = .slice none 0 0 ↔ v = .slice none 0 0 ∧ m = 0) → K (a.put o.dst v') w') :
    if Region.wanted o (yielded ops a.tmps) = true then Oper.wp P o a w K Q else E := by
  have hw : Region.wanted o (yielded ops a.tmps) = true := by simp [Region.wanted, hg]
  rw [if_pos hw]
  exact wp_append_own w s x t ho base e i z size bytes ht hi hz hsize hby hzs hsz v n xs hs hown ad m c news hx hl hnews h1 h63 hbytes hbase h
theorem stepIn_append_own {F : Fence} {n : Nat} {P : Program} (w : World) {ops : Array Oper} {E : Prop} {o : Oper} {a : Act} {K : Act → World → Prop} {Q : Exit → Act → World → Prop}
    (hg : o.guard = none) (s x : Operand) (t : TypeId) (hop : o.op = Op.call { callee := Callee.builtin Builtin.append, args := #[s, x], argTypes := #[t, t] })
    (base : Nat) (e : TypeId) (i : TypeInfo) (z : Value) (size bytes : Nat) (h1 : P.underlying t = some (.slice e)) (h2 : P.info? e = some i) (h3 : i.zero = some z) (h4 : i.size = size) (h5 : i.bytes = bytes) (h6 : z.cells.size = size) (h7 : 0 < size)
    (v : Value) (k : Nat) (xs : List Value) (hs : a.eval s = v) (hown : w.ownsRow base e size v k xs) (ad : Addr) (m c : Nat) (news : List Value) (hx : a.eval x = .slice (some ad) m c) (hn : news.length = m * size)
    (hc : ∀ j u, news[j]? = some u → w.cell? (ad.add j) = some u) (h1c : ∀ u ∈ news, u.oneCell' = true) (b1 : k + m ≤ maxLen) (b2 : (k + m) * bytes ≤ 140737488355328) (b3 : base ≤ w.heap.size)
    (hK : ∀ v' w', w'.ownsRow base e size v' (k + m) (xs ++ news) → w.grownBy w' v.ownBlock → (v' = .slice none 0 0 ↔ v = .slice none 0 0 ∧ m = 0) → K (a.put o.dst v') w') :
    if Region.wanted o (yielded ops a.tmps) = true then Oper.wpIn F n P o a w K Q else E := by
  have hw : Region.wanted o (yielded ops a.tmps) = true := by simp [Region.wanted, hg]
  rw [if_pos hw]
  obtain ⟨v', w', hrun, r1, r2, r3⟩ := run_append_own (P := P) w base t o.type e i z size bytes h1 h2 h3 h4 h5 h6 h7 v k xs hown ad m c news hn hc h1c b1 b2 b3
  unfold Oper.wpIn
  refine ⟨?_, ?_⟩
  · simp [Oper.about, hop, resolve, Target.leads, Sem.run_pure]
  · rw [Oper.semAt_plain F _ _ (by rw [hop]; intro c hc'; cases hc')]
    simp [execOp, hop, resolve, invoke, builtin, hs, hx, hrun, Result.andThen]
    exact hK v' w' r1 r2 r3
/-- The rows' texts. -/
def btRows (n len : Nat) (T : Nat → ByteArray) : List ByteArray := (List.range (nch n len)).map T
theorem below_drew0 {w W : World} (h : Below w.heap.size w W) : Below w.heap.size w W.drew := pw_below_drewN h 1
/-- Behind a call that makes memory of its own: what lay stays. -/
theorem behind {W w2 : World} {base n₀ R Bs Bn : Nat} {t e : TypeId} {size k : Nat} {v s z : Value} {xs : List Value} {ts tn : TypeId} {w : World} (hb : Below W.drew.heap.size W.drew w2) (hn : n₀ ≤ W.heap.size) (hv : Boxed W R t v) (hrow : W.ownsRow base e size v k xs) (hs : Boxed W Bs ts s) (hnn : Boxed W Bn tn z) (hB : Below n₀ w W) :
    Boxed w2 R t v ∧ w2.ownsRow base e size v k xs ∧ Boxed w2 Bs ts s ∧ Boxed w2 Bn tn z ∧ Below n₀ w w2 ∧ KeepsOthers W w2 ∧ Below n₀ W w2 := by
  have hb' : Below W.heap.size W w2 := (pw_below_drewN (Below.refl W.heap.size W) 1).trans hb
  have old : ∀ (i : Nat) (o : Obj), W.heap[i]? = some o → w2.heap[i]? = some o := fun i o h => (hb'.block i (Array.getElem?_eq_some_iff.1 h).1).trans h
  refine ⟨old _ _ hv, ⟨hrow.1, ?_⟩, old _ _ hs, old _ _ hnn, hB.trans (hb'.mono hn), ⟨hb'.size, fun i o h _ => old i o h⟩, hb'.mono hn⟩
  rcases hrow.2 with h | ⟨g, cap, cur, h1, h2, h3, h4⟩
  · exact .inl h
  · exact .inr ⟨g, cap, cur, h1, h2, old _ _ h3, h4⟩
set_option maxRecDepth 100000 in
set_option maxHeartbeats 4000000 in
theorem boardText_in (b off cap n : Nat) (l : List Int) (T : Nat → ByteArray) (r : ByteArray) (hn : 0 < n) (hn2 : n ≤ 1000000) (hlen : l.length ≤ 1000000) (hcap : l.length ≤ cap) (w : World) (hb : b < w.heap.size)
    (HL0 : ∀ k W, k < nch n l.length → Below w.heap.size w W → Calls Tryd.prog 61 #[chunkV b off l.length n k] W fun e w' => e = .returned (.string (T k)) ∧ Below W.heap.size W w')
    (HJ0 : ∀ A c W, Kd.C Kd.string W A (btRows n l.length T).length (btRows n l.length T) → (btRows n l.length T).length ≤ c → Calls Tryd.prog 62 #[.slice A (btRows n l.length T).length c, .string ⟨#[47]⟩] W fun e w' => e = .returned (.string r) ∧ Below W.heap.size W w') :
    Calls Tryd.prog 51 #[.agg #[.int .i64 n, .slice (some ⟨b, off, none⟩) l.length cap]] w fun e w' => e = .returned (.string r) ∧ Below w.heap.size w w' := by
  refine (callsIn_wide (n := 5)).1 ?_
  have hfn : ∀ g, Fence.wide.fn g := fun _ => trivial
  have hro : Fence.wide.round = none := rfl
  have h1 : 1 ≤ 5 := by omega
  have HJ := Aside0.mk HJ0
  have HL := Aside0.mk HL0
  clear HJ0 HL0
  obtain ⟨i0, hi, hz0, hz1, hz2⟩ := info_parts infoS
  refine callsIn_of_wp_marks Tryd.func51 rfl (hfn _) ?_ hro
  simp only [Tryd.ntmps51, List.size_toArray, List.length_cons, List.length_nil, Nat.reduceAdd, Nat.reduceSub, Array.replicate_succ, Array.replicate_zero, List.push_toArray, List.append_toArray, List.nil_append, List.cons_append]
  gi_wp2_with (gi_at_call 60; refine (chunk_in Fence.wide (5 - 1) (hfn _) hro _ _ _ n hn _).mono ?_; rintro e w' ⟨rfl, rfl⟩)
  obtain ⟨w1, hw1⟩ : ∃ w1, w.alloc (.cells #[.int .i64 n, .slice (some ⟨b, off, none⟩) l.length cap] 28) = w1 := ⟨_, rfl⟩
  have s1 : w1.heap.size = w.heap.size + 1 := by rw [← hw1]; simp
  have B1 : Below w.heap.size w w1 := by rw [← hw1]; exact (Below.refl _ w).alloc (Nat.le_refl _) _
  rw [hw1]
  have r0 : (w1.alloc (.cells #[] 9)).ownsRow w.heap.size 9 1 (.slice (some ⟨w.heap.size + 1, 0, none⟩) 0 0) 0 [] := by
    have := World.ownsRow_made (base := w.heap.size) (e := 9) (size := 1) w1 #[] 0 (by omega) (Nat.zero_le _) rfl
    rw [s1] at this
    exact this
  obtain ⟨w2, hw2⟩ : ∃ w2, w1.alloc (.cells #[] 9) = w2 := ⟨_, rfl⟩
  have s2 : w2.heap.size = w.heap.size + 1 + 1 := by rw [← hw2, World.size_alloc, s1]
  have B2 : Below w.heap.size w w2 := by rw [← hw2]; exact B1.alloc (by omega) _
  rw [hw2] at r0 ⊢
  have bR := Boxed.new w2 47 (.slice (some ⟨w.heap.size + 1, 0, none⟩) 0 0)
  rw [s2] at bR
  have r1 := r0.alloc (.cells #[.slice (some ⟨w.heap.size + 1, 0, none⟩) 0 0] 47)
  obtain ⟨w3, hw3⟩ : ∃ w3, w2.alloc (.cells #[.slice (some ⟨w.heap.size + 1, 0, none⟩) 0 0] 47) = w3 := ⟨_, rfl⟩
  have s3 : w3.heap.size = w.heap.size + 1 + 1 + 1 := by rw [← hw3, World.size_alloc, s2]
  have B3 : Below w.heap.size w w3 := by rw [← hw3]; exact B2.alloc (by omega) _
  rw [hw3] at bR r1 ⊢
  have bS := Boxed.new w3 22 (.slice (some ⟨b, off, none⟩) l.length cap)
  rw [s3] at bS
  replace bR := bR.alloc (.cells #[.slice (some ⟨b, off, none⟩) l.length cap] 22)
  replace r1 := r1.alloc (.cells #[.slice (some ⟨b, off, none⟩) l.length cap] 22)
  obtain ⟨w4, hw4⟩ : ∃ w4, w3.alloc (.cells #[.slice (some ⟨b, off, none⟩) l.length cap] 22) = w4 := ⟨_, rfl⟩
  have s4 : w4.heap.size = w.heap.size + 1 + 1 + 1 + 1 := by rw [← hw4, World.size_alloc, s3]
  have B4 : Below w.heap.size w w4 := by rw [← hw4]; exact B3.alloc (by omega) _
  rw [hw4] at bR r1 bS ⊢
  have bN := Boxed.new w4 3 (.int .i64 (n : Int))
  rw [s4] at bN
  replace bR := bR.alloc (.cells #[.int .i64 (n : Int)] 3)
  replace bS := bS.alloc (.cells #[.int .i64 (n : Int)] 3)
  replace r1 := r1.alloc (.cells #[.int .i64 (n : Int)] 3)
  obtain ⟨w5, hw5⟩ : ∃ w5, w4.alloc (.cells #[.int .i64 (n : Int)] 3) = w5 := ⟨_, rfl⟩
  have s5 : w5.heap.size = w.heap.size + 1 + 1 + 1 + 1 + 1 := by rw [← hw5, World.size_alloc, s4]
  have B5 : Below w.heap.size w w5 := by rw [← hw5]; exact B4.alloc (by omega) _
  rw [hw5] at bR r1 bS bN ⊢
  clear hw1 hw2 hw3 hw4 hw5 B1 B2 B3 B4 s1 s2 s3 s4 r0 w1 w2 w3 w4
  obtain ⟨R, hR⟩ : ∃ R, w.heap.size + 1 + 1 = R := ⟨_, rfl⟩
  obtain ⟨Bs, hBs⟩ : ∃ Bs, w.heap.size + 1 + 1 + 1 = Bs := ⟨_, rfl⟩
  obtain ⟨Bn, hBn⟩ : ∃ Bn, w.heap.size + 1 + 1 + 1 + 1 = Bn := ⟨_, rfl⟩
  rw [hBn] at bN ⊢
  rw [hBs] at bS ⊢
  rw [hR] at bR ⊢
  refine wpIn_rangeFunc_ownG hro h1 (gf := 80) (lb := #[.pointer (some ⟨Bs, 0, none⟩), .pointer (some ⟨Bn, 0, none⟩)]) rfl (hfn _) (enters_of Tryd.func80 (by kernel_rfl) rfl)
    (chunk_stops Fence.wide (5 - 1) (hfn _) hro (by omega) Bs Bn b off l.length cap n hn hn2 hlen hcap w5 bS bN w.heap.size) chunkKp_t (chunkKp_b (by omega) (by omega) (by omega)) (Below.refl _ _) (fun _ => rfl)
    (fun (pre : List (Fin (nch n l.length))) W => ((∃ v, Boxed W R 47 v ∧ W.ownsRow w.heap.size 9 1 v pre.length (pre.map fun x => Value.string (T x.val)) ∧ True) ∧ Boxed W Bs 22 (.slice (some ⟨b, off, none⟩) l.length cap) ∧ Boxed W Bn 3 (.int .i64 n)) ∧ Below w.heap.size w W)
    (fun _ _ _ => False)
    (OwnFrom.and (OwnFrom.and (Own.from (holdsRow_own w.heap.size R 47 9 1 (fun (pre : List (Fin (nch n l.length))) => pre.length) (fun pre => pre.map fun x => Value.string (T x.val)) (fun _ _ => True)) _) (OwnFrom.and (Own.from (boxed_own Bs 22 (fun _ => .slice (some ⟨b, off, none⟩) l.length cap)) _) (Own.from (boxed_own Bn 3 (fun _ => .int .i64 n)) _))) (ownFrom_below (Nat.le_refl _) (by omega)))
    (fun _ _ _ _ _ hs _ _ => hs)
    ⟨⟨⟨_, bR, r1, trivial⟩, bS, bN⟩, B5⟩
    (fun x => { tmps := #[.agg #[.int .i64 n, .slice (some ⟨b, off, none⟩) l.length cap], .pointer (some ⟨w.heap.size, 0, none⟩), .string ⟨#[]⟩, .pointer (some ⟨R, 0, none⟩), chunkV b off l.length n x.val, .slice (some ⟨w.heap.size + 1, 0, none⟩) 0 0, .pointer (some ⟨w.heap.size, 1, none⟩), .slice (some ⟨b, off, none⟩) l.length cap, .pointer (some ⟨w.heap.size, 0, none⟩), .int .i64 n, .func (.func 80) #[] #[.pointer (some ⟨Bs, 0, none⟩), .pointer (some ⟨Bn, 0, none⟩)], chunkV b off l.length n x.val, undef, undef, undef, undef, undef, undef, undef], defers := [] }) ?assign ?body ?done ?stop
  case assign =>
    intro l x W K hK
    gi_wp2
    exact hK
  case body =>
    rintro l' pre x W ⟨⟨⟨v, hv, hrow, _⟩, hs, hnn⟩, hB⟩ hlt
    have hcc := hv.cell
    have hN : nch n l.length ≤ 2000000 := by
      unfold nch
      exact Nat.le_trans (Nat.div_le_self _ _) (by omega)
    have mixed : Tryd.prog.follows Departure.mixedOrders = true := by kernel_rfl
    gi_wp2
    refine wpIn_region_any mixed ?_
    change wpAnyIn _ _ _ _ _ _ _ _ _ (World.drew _)
    refine wpAnyIn_ready (rs := [0, 1]) (by kernel_rfl) (by simp) ?_
    refine AllReadyIn.cons rfl (fun K hK => ?_) ?_
    · go_simp
      refine hK _ _ ?_
      clear hK K
      refine wpAnyIn_ready (rs := [1]) (by kernel_rfl) (by simp) ?_
      refine AllReadyIn.cons rfl (fun K hK => ?_) ?_
      · go_simp
        refine hK _ _ ?_
        clear hK K
        refine wpAnyIn_ready (rs := [2]) (by kernel_rfl) (by simp) ?_
        refine AllReadyIn.cons rfl (fun K hK => ?_) ?_
        · go_simp
          gi_wp2_with (gi_at_call 61; refine (CallsIn.inRound l' (callsIn_wide.2 (HL.out x.val _ x.isLt (below_drew0 hB)))).mono ?_; rintro e w2 ⟨rfl, hb2⟩)
          obtain ⟨hv2, hrow2, hs2, hn2, hB2, hk2, hW2⟩ := behind hb2 hB.size hv hrow hs hnn hB
          have hcc2 := hv2.cell
          have hcc3 := (hv2.alloc (.cells #[.string (T x.val)] 9)).cell
          refine wpAnyIn_ready (rs := [3]) (by kernel_rfl) (by simp) ?_
          refine AllReadyIn.cons rfl (fun K hK => ?_) ?_
          · go_simp
            refine hK _ _ ?_
            clear hK K
            refine wpAnyIn_ready (rs := [4]) (by kernel_rfl) (by simp) ?_
            refine AllReadyIn.cons rfl (fun K hK => ?_) ?_
            · refine stepIn_append_own _ rfl _ _ 47 rfl w.heap.size 9 i0 (.string ByteArray.empty) 1 16 Tryd.underlying47 hi hz0 hz1 hz2 rfl (by decide) _ _ _ rfl (hrow2.alloc _) ⟨w2.heap.size, 0, none⟩ 1 1 [.string (T x.val)] rfl rfl (cell_one_new _ _ _) (by simp [Value.oneCell']) (by unfold maxLen; omega) (by omega) (by have := hB2.size; simp; omega) ?_
              intro v' w3 hown' hgrow _
              obtain ⟨g', cap', rfl⟩ := ownsRow_succ hown'
              obtain ⟨hv3, hv4, hr4, hk4, hb4⟩ := hv2.appended (by decide) hrow2 hB2.size (by omega) hown' hgrow
              have hc4 := hv3.cell
              have hf4 := hv3.frozen
              refine hK _ _ ?_
              clear hK K
              refine wpAnyIn_ready (rs := [5]) (by kernel_rfl) (by simp) ?_
              refine AllReadyIn.cons rfl (fun K hK => ?_) ?_
              · go_simp
                refine hK _ _ ?_
                clear hK K
                refine wpAnyIn_done (by kernel_rfl) ?_ _
                have hs3 := (hs2.alloc (.cells #[.string (T x.val)] 9)).kept hgrow (hs2.not_row (by decide) hrow2)
                have hn3 := (hn2.alloc (.cells #[.string (T x.val)] 9)).kept hgrow (hn2.not_row (by decide) hrow2)
                have hs5 := hs3.other (B' := R) (by omega) (.slice (some ⟨g', 0, none⟩) (pre.length + 1) cap')
                have hn5 := hn3.other (B' := R) (by omega) (.slice (some ⟨g', 0, none⟩) (pre.length + 1) cap')
                exact ⟨(hk2.trans hk4).from _, ⟨hW2.trans hb4, Eq.trans hs5 (Eq.symm hs), Eq.trans hn5 (Eq.symm hnn)⟩, ⟨⟨_, hv4, by simpa using hr4, trivial⟩, hs5, hn5⟩, hB2.trans hb4⟩
              exact AllReadyIn.nil
            exact AllReadyIn.nil
          exact AllReadyIn.nil
        exact AllReadyIn.nil
      exact AllReadyIn.nil
    refine AllReadyIn.cons rfl (fun K hK => ?_) ?_
    · go_simp
      refine hK _ _ ?_
      clear hK K
      refine wpAnyIn_ready (rs := [0, 2]) (by kernel_rfl) (by simp) ?_
      refine AllReadyIn.cons rfl (fun K hK => ?_) ?_
      · go_simp
        refine hK _ _ ?_
        clear hK K
        refine wpAnyIn_ready (rs := [2]) (by kernel_rfl) (by simp) ?_
        refine AllReadyIn.cons rfl (fun K hK => ?_) ?_
        · go_simp
          gi_wp2_with (gi_at_call 61; refine (CallsIn.inRound l' (callsIn_wide.2 (HL.out x.val _ x.isLt (below_drew0 hB)))).mono ?_; rintro e w2 ⟨rfl, hb2⟩)
          obtain ⟨hv2, hrow2, hs2, hn2, hB2, hk2, hW2⟩ := behind hb2 hB.size hv hrow hs hnn hB
          have hcc2 := hv2.cell
          have hcc3 := (hv2.alloc (.cells #[.string (T x.val)] 9)).cell
          refine wpAnyIn_ready (rs := [3]) (by kernel_rfl) (by simp) ?_
          refine AllReadyIn.cons rfl (fun K hK => ?_) ?_
          · go_simp
            refine hK _ _ ?_
            clear hK K
            refine wpAnyIn_ready (rs := [4]) (by kernel_rfl) (by simp) ?_
            refine AllReadyIn.cons rfl (fun K hK => ?_) ?_
            · refine stepIn_append_own _ rfl _ _ 47 rfl w.heap.size 9 i0 (.string ByteArray.empty) 1 16 Tryd.underlying47 hi hz0 hz1 hz2 rfl (by decide) _ _ _ rfl (hrow2.alloc _) ⟨w2.heap.size, 0, none⟩ 1 1 [.string (T x.val)] rfl rfl (cell_one_new _ _ _) (by simp [Value.oneCell']) (by unfold maxLen; omega) (by omega) (by have := hB2.size; simp; omega) ?_
              intro v' w3 hown' hgrow _
              obtain ⟨g', cap', rfl⟩ := ownsRow_succ hown'
              obtain ⟨hv3, hv4, hr4, hk4, hb4⟩ := hv2.appended (by decide) hrow2 hB2.size (by omega) hown' hgrow
              have hc4 := hv3.cell
              have hf4 := hv3.frozen
              refine hK _ _ ?_
              clear hK K
              refine wpAnyIn_ready (rs := [5]) (by kernel_rfl) (by simp) ?_
              refine AllReadyIn.cons rfl (fun K hK => ?_) ?_
              · go_simp
                refine hK _ _ ?_
                clear hK K
                refine wpAnyIn_done (by kernel_rfl) ?_ _
                have hs3 := (hs2.alloc (.cells #[.string (T x.val)] 9)).kept hgrow (hs2.not_row (by decide) hrow2)
                have hn3 := (hn2.alloc (.cells #[.string (T x.val)] 9)).kept hgrow (hn2.not_row (by decide) hrow2)
                have hs5 := hs3.other (B' := R) (by omega) (.slice (some ⟨g', 0, none⟩) (pre.length + 1) cap')
                have hn5 := hn3.other (B' := R) (by omega) (.slice (some ⟨g', 0, none⟩) (pre.length + 1) cap')
                exact ⟨(hk2.trans hk4).from _, ⟨hW2.trans hb4, Eq.trans hs5 (Eq.symm hs), Eq.trans hn5 (Eq.symm hnn)⟩, ⟨⟨_, hv4, by simpa using hr4, trivial⟩, hs5, hn5⟩, hB2.trans hb4⟩
              exact AllReadyIn.nil
            exact AllReadyIn.nil
          exact AllReadyIn.nil
        exact AllReadyIn.nil
      refine AllReadyIn.cons rfl (fun K hK => ?_) ?_
      · go_simp
        gi_wp2_with (gi_at_call 61; refine (CallsIn.inRound l' (callsIn_wide.2 (HL.out x.val _ x.isLt (below_drew0 hB)))).mono ?_; rintro e w2 ⟨rfl, hb2⟩)
        obtain ⟨hv2, hrow2, hs2, hn2, hB2, hk2, hW2⟩ := behind hb2 hB.size hv hrow hs hnn hB
        have hcc2 := hv2.cell
        have hcc3 := (hv2.alloc (.cells #[.string (T x.val)] 9)).cell
        refine wpAnyIn_ready (rs := [0, 3]) (by kernel_rfl) (by simp) ?_
        refine AllReadyIn.cons rfl (fun K hK => ?_) ?_
        · go_simp
          refine hK _ _ ?_
          clear hK K
          refine wpAnyIn_ready (rs := [3]) (by kernel_rfl) (by simp) ?_
          refine AllReadyIn.cons rfl (fun K hK => ?_) ?_
          · go_simp
            refine hK _ _ ?_
            clear hK K
            refine wpAnyIn_ready (rs := [4]) (by kernel_rfl) (by simp) ?_
            refine AllReadyIn.cons rfl (fun K hK => ?_) ?_
            · refine stepIn_append_own _ rfl _ _ 47 rfl w.heap.size 9 i0 (.string ByteArray.empty) 1 16 Tryd.underlying47 hi hz0 hz1 hz2 rfl (by decide) _ _ _ rfl (hrow2.alloc _) ⟨w2.heap.size, 0, none⟩ 1 1 [.string (T x.val)] rfl rfl (cell_one_new _ _ _) (by simp [Value.oneCell']) (by unfold maxLen; omega) (by omega) (by have := hB2.size; simp; omega) ?_
              intro v' w3 hown' hgrow _
              obtain ⟨g', cap', rfl⟩ := ownsRow_succ hown'
              obtain ⟨hv3, hv4, hr4, hk4, hb4⟩ := hv2.appended (by decide) hrow2 hB2.size (by omega) hown' hgrow
              have hc4 := hv3.cell
              have hf4 := hv3.frozen
              refine hK _ _ ?_
              clear hK K
              refine wpAnyIn_ready (rs := [5]) (by kernel_rfl) (by simp) ?_
              refine AllReadyIn.cons rfl (fun K hK => ?_) ?_
              · go_simp
                refine hK _ _ ?_
                clear hK K
                refine wpAnyIn_done (by kernel_rfl) ?_ _
                have hs3 := (hs2.alloc (.cells #[.string (T x.val)] 9)).kept hgrow (hs2.not_row (by decide) hrow2)
                have hn3 := (hn2.alloc (.cells #[.string (T x.val)] 9)).kept hgrow (hn2.not_row (by decide) hrow2)
                have hs5 := hs3.other (B' := R) (by omega) (.slice (some ⟨g', 0, none⟩) (pre.length + 1) cap')
                have hn5 := hn3.other (B' := R) (by omega) (.slice (some ⟨g', 0, none⟩) (pre.length + 1) cap')
                exact ⟨(hk2.trans hk4).from _, ⟨hW2.trans hb4, Eq.trans hs5 (Eq.symm hs), Eq.trans hn5 (Eq.symm hnn)⟩, ⟨⟨_, hv4, by simpa using hr4, trivial⟩, hs5, hn5⟩, hB2.trans hb4⟩
              exact AllReadyIn.nil
            exact AllReadyIn.nil
          exact AllReadyIn.nil
        refine AllReadyIn.cons rfl (fun K hK => ?_) ?_
        · go_simp
          refine hK _ _ ?_
          clear hK K
          refine wpAnyIn_ready (rs := [0]) (by kernel_rfl) (by simp) ?_
          refine AllReadyIn.cons rfl (fun K hK => ?_) ?_
          · go_simp
            refine hK _ _ ?_
            clear hK K
            refine wpAnyIn_ready (rs := [4]) (by kernel_rfl) (by simp) ?_
            refine AllReadyIn.cons rfl (fun K hK => ?_) ?_
            · refine stepIn_append_own _ rfl _ _ 47 rfl w.heap.size 9 i0 (.string ByteArray.empty) 1 16 Tryd.underlying47 hi hz0 hz1 hz2 rfl (by decide) _ _ _ rfl (hrow2.alloc _) ⟨w2.heap.size, 0, none⟩ 1 1 [.string (T x.val)] rfl rfl (cell_one_new _ _ _) (by simp [Value.oneCell']) (by unfold maxLen; omega) (by omega) (by have := hB2.size; simp; omega) ?_
              intro v' w3 hown' hgrow _
              obtain ⟨g', cap', rfl⟩ := ownsRow_succ hown'
              obtain ⟨hv3, hv4, hr4, hk4, hb4⟩ := hv2.appended (by decide) hrow2 hB2.size (by omega) hown' hgrow
              have hc4 := hv3.cell
              have hf4 := hv3.frozen
              refine hK _ _ ?_
              clear hK K
              refine wpAnyIn_ready (rs := [5]) (by kernel_rfl) (by simp) ?_
              refine AllReadyIn.cons rfl (fun K hK => ?_) ?_
              · go_simp
                refine hK _ _ ?_
                clear hK K
                refine wpAnyIn_done (by kernel_rfl) ?_ _
                have hs3 := (hs2.alloc (.cells #[.string (T x.val)] 9)).kept hgrow (hs2.not_row (by decide) hrow2)
                have hn3 := (hn2.alloc (.cells #[.string (T x.val)] 9)).kept hgrow (hn2.not_row (by decide) hrow2)
                have hs5 := hs3.other (B' := R) (by omega) (.slice (some ⟨g', 0, none⟩) (pre.length + 1) cap')
                have hn5 := hn3.other (B' := R) (by omega) (.slice (some ⟨g', 0, none⟩) (pre.length + 1) cap')
                exact ⟨(hk2.trans hk4).from _, ⟨hW2.trans hb4, Eq.trans hs5 (Eq.symm hs), Eq.trans hn5 (Eq.symm hnn)⟩, ⟨⟨_, hv4, by simpa using hr4, trivial⟩, hs5, hn5⟩, hB2.trans hb4⟩
              exact AllReadyIn.nil
            exact AllReadyIn.nil
          exact AllReadyIn.nil
        exact AllReadyIn.nil
      exact AllReadyIn.nil
    exact AllReadyIn.nil
  case done =>

    rintro D ys W hD rfl ⟨⟨⟨v, hv, hrow, _⟩, hs, hnn⟩, hB⟩ hK
    have hcc := hv.cell
    have e1 : (List.finRange (nch n l.length)).length = (btRows n l.length T).length := by simp [btRows]
    have e2 : ((List.finRange (nch n l.length)).map fun x => Value.string (T x.val)) = encs Value.string (btRows n l.length T) := by
      apply List.ext_getElem <;> simp [encs, btRows]
    rw [e1, e2] at hrow
    have HR := Kd.R_of_own (h1 := fun _ => rfl) (ok := fun _ => True) hrow (fun _ _ => trivial)
    obtain ⟨A, c, rfl⟩ := Kd.R_slice HR
    obtain ⟨_, hle, hC⟩ := Kd.R_reads' HR
    have hN : (btRows n l.length T).length ≤ 2000000 := by
      unfold btRows nch
      rw [List.length_map, List.length_range]
      exact Nat.le_trans (Nat.div_le_self _ _) (by omega)
    have hJc := HJ.out A c W hC hle
    clear HR hC e1 e2
    gi_wp2_with (gi_at_call 62; refine (callsIn_wide.2 hJc).mono ?_; rintro e w' ⟨rfl, hbj⟩)
    have hK' := (hbj.block D (Array.getElem?_eq_some_iff.1 hK).1).trans hK
    refine ⟨by simp, .inl ⟨_, _, rfl, run_takeDeferred hK', ?_⟩⟩
    exact ⟨_, results_tmp rfl _ _ _, rfl, (hB.trans (hbj.mono hB.size)).trans (belowK_b (w := w) (Nat.le_refl _) w' D _ _ (by omega) hK' rfl rfl)⟩
  case stop =>
    rintro D c pre W _ _ h _
    exact h.elim
/-- The cells of a row of whole numbers, its first cell's block and place. -/
theorem bt_row {w : World} {A : Option Addr} {l : List Int} (hr : Kd.C (Kd.int .i64) w A l.length l) (hp : 0 < l.length) :
    ∃ b off, A = some ⟨b, off, none⟩ ∧ b < w.heap.size ∧ ∀ j, j < l.length → w.cell? ⟨b, off + j, none⟩ = some (.int .i64 (l.getD j 0)) := by
  obtain ⟨ad, hA, hcell⟩ := hr.2.2 hp
  subst hA
  obtain ⟨b, off, sp⟩ := ad
  have add_at : ∀ j, (⟨b, off, none⟩ : Addr).add j = ⟨b, off + j, none⟩ := by
    intro j
    unfold Addr.add
    split
    · rename_i e0
      subst e0
      rfl
    · rfl
  have hcl : ∀ (j : Nat) x, l[j]? = some x → w.cell? ((⟨b, off, sp⟩ : Addr).add j) = some (.int .i64 x) := by
    intro j x hx
    obtain ⟨c, hl, hk, hcc⟩ := hcell j x hx
    have hk' : c = [Value.int .i64 x] := hk
    subst hk'
    have hz := hcc 0 (.int .i64 x) rfl
    have e1 : j * (Kd.int .i64).sz + 0 = j := by show j * 1 + 0 = j; omega
    rw [e1] at hz
    exact hz
  have h00 : w.cell? ⟨b, off, sp⟩ = some (.int .i64 l[0]) := hcl 0 _ (List.getElem?_eq_getElem hp)
  have hsp : sp = none := World.cell?_spot h00
  subst hsp
  refine ⟨b, off, rfl, World.block_lt_of_cell? w _ h00, fun j hj => ?_⟩
  have hz := hcl j _ (List.getElem?_eq_getElem hj)
  rw [add_at] at hz
  rw [hz, List.getD_eq_getElem?_getD, List.getElem?_eq_getElem hj]
  rfl
def btPiece (n : Nat) (l : List Int) (k : Nat) : List Int := (l.drop (k * n)).take n
theorem btPiece_len (n : Nat) (l : List Int) (k : Nat) : (btPiece n l k).length = min n (l.length - k * n) := by
  unfold btPiece
  rw [List.length_take, List.length_drop]
theorem btPiece_C {w W : World} {b off n : Nat} {l : List Int} (hlen : l.length ≤ 1000000) (hb : b < w.heap.size) (hcl : ∀ j, j < l.length → w.cell? ⟨b, off + j, none⟩ = some (.int .i64 (l.getD j 0))) (hB : Below w.heap.size w W) (k : Nat) :
    Kd.C (Kd.int .i64) W (some ⟨b, off + k * n, none⟩) (btPiece n l k).length (btPiece n l k) := by
  have hl := btPiece_len n l k
  refine ⟨rfl, by omega, fun _ => ⟨_, rfl, fun j p hj => ⟨[.int .i64 p], rfl, rfl, fun i u hu => ?_⟩⟩⟩
  have hjl := (List.getElem?_eq_some_iff.1 hj).1
  have hi : i = 0 := by
    have := (List.getElem?_eq_some_iff.1 hu).1
    simp at this
    omega
  subst hi
  have hu' : Value.int .i64 p = u := by simpa using hu
  subst hu'
  have e1 : j * (Kd.int .i64).sz + 0 = j := by show j * 1 + 0 = j; omega
  rw [e1]
  have e2 : (⟨b, off + k * n, none⟩ : Addr).add j = ⟨b, off + (k * n + j), none⟩ := by
    unfold Addr.add
    split
    · rename_i e0; subst e0; simp
    · simp [Nat.add_assoc]
  rw [e2, hB.cell (p := ⟨b, off + (k * n + j), none⟩) hb, hcl _ (by omega)]
  have hj2 : (l.drop (k * n))[j]? = some p := by
    unfold btPiece at hj
    rw [List.getElem?_take] at hj
    split at hj
    · exact hj
    · cases hj
  rw [List.getElem?_drop] at hj2
  rw [List.getD_eq_getElem?_getD, hj2]
  rfl
theorem boardText_calls (a : Int) (A : Option Addr) (c : Nat) (l : List Int) (T : Nat → ByteArray) (r : ByteArray) (w : World) (hR : Kd.C (Kd.int .i64) w A l.length l) (hc : l.length ≤ c) (h0 : 0 < a) (h1 : a ≤ 1000000) (h2 : 0 < l.length) (h3 : l.length ≤ 1000000)
    (HL : ∀ k A c W, k < nch a.toNat l.length → Kd.C (Kd.int .i64) W A (btPiece a.toNat l k).length (btPiece a.toNat l k) → (btPiece a.toNat l k).length ≤ c → Calls Tryd.prog 61 #[.slice A (btPiece a.toNat l k).length c] W fun e w' => e = .returned (.string (T k)) ∧ Below W.heap.size W w')
    (HJ : ∀ A c W, Kd.C Kd.string W A (btRows a.toNat l.length T).length (btRows a.toNat l.length T) → (btRows a.toNat l.length T).length ≤ c → Calls Tryd.prog 62 #[.slice A (btRows a.toNat l.length T).length c, .string ⟨#[47]⟩] W fun e w' => e = .returned (.string r) ∧ Below W.heap.size W w') :
    Calls Tryd.prog 51 #[.agg #[.int .i64 a, .slice A l.length c]] w fun e w' => e = .returned (.string r) ∧ Below w.heap.size w w' := by
  obtain ⟨n, rfl⟩ := Int.eq_ofNat_of_zero_le (show 0 ≤ a by omega)
  rw [Int.toNat_natCast] at HL HJ
  obtain ⟨b, off, rfl, hb, hcl⟩ := bt_row hR h2
  refine boardText_in b off c n l T r (by omega) (by omega) h3 hc w hb (fun k W hk hW => ?_) HJ
  have := HL k (some ⟨b, off + k * n, none⟩) (min n (l.length - k * n)) W hk (btPiece_C h3 hb hcl hW k) (by rw [btPiece_len]; exact Nat.le_refl _)
  rw [btPiece_len] at this
  exact this
/-- A list of answers, one behind the other. -/
def mapO (f : Nat → Option ByteArray) : Nat → Option (List ByteArray)
  | 0 => some []
  | i + 1 => (mapO f i).bind fun l => (f i).bind fun x => some (l ++ [x])
theorem mapO_mono {f g : Nat → Option ByteArray} (h : ∀ i, LeO (f i) (g i)) : ∀ i, LeO (mapO f i) (mapO g i)
  | 0 => LeO.refl _
  | i + 1 => LeO.bind (mapO_mono h i) (fun l => LeO.bind (h i) (fun x => LeO.refl _))
theorem mapO_some {f : Nat → Option ByteArray} : ∀ (i : Nat) (rows : List ByteArray), mapO f i = some rows → rows = (List.range i).map (fun k => (f k).getD ByteArray.empty) ∧ ∀ k, k < i → f k = some ((f k).getD ByteArray.empty)
  | 0, rows, h => by
    obtain rfl := Option.some.inj h
    exact ⟨rfl, fun k hk => absurd hk (Nat.not_lt_zero k)⟩
  | i + 1, rows, h => by
    obtain ⟨l, h1, h⟩ := Option.bind_eq_some_iff.1 h
    obtain ⟨x, h2, h⟩ := Option.bind_eq_some_iff.1 h
    obtain rfl := Option.some.inj h
    obtain ⟨e1, e2⟩ := mapO_some i l h1
    refine ⟨?_, fun k hk => ?_⟩
    · rw [List.range_succ, List.map_append, ← e1, List.map_singleton, h2]
      rfl
    · by_cases hki : k < i
      · exact e2 k hki
      · have : k = i := by omega
        subst this
        rw [h2]
        rfl
end Go.Proofs.YtmplgijnmjdogaaDoorV
