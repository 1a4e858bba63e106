/- '[]byte("..")' of a constant text: the literal's row and, right behind it, its conversion to its own type, taken in one step. -/
import Derived.Test.YtpbojlppeaobmaaVFn
import Derived.Lib.SlBytesConst
namespace Go.Proofs.YtpbojlppeaobmaaV
open Go.RowKit Go.Proofs.YtpbojlppeaobmaaW.PrintWords Go.Proofs.YtpbojlppeaobmaaW.PrintLast
theorem litc_reads (w W : World) (e : TypeId) (xs : List Int) (h : W.heap[w.heap.size]? = some (.cells (xs.map (Value.int .u8)).toArray e (xs.length, xs.length + 1))) (hm : xs.length ≤ 140737488351232) :
    Kd.C (Kd.int .u8) W (some ⟨w.heap.size, 0, none⟩) xs.length xs := by
  refine ⟨rfl, by omega, fun _ => ⟨_, rfl, fun j p hj => ⟨[.int .u8 p], rfl, rfl, fun i u hu => ?_⟩⟩⟩
  have hjl := (List.getElem?_eq_some_iff.1 hj).1
  have hi : i = 0 := by
    have := (List.getElem?_eq_some_iff.1 hu).1
    simp at this
    omega
  subst hi
  have hu' : Value.int .u8 p = u := by simpa using hu
  subst hu'
  have e1 : j * (Kd.int .u8).sz + 0 = j := by show j * 1 + 0 = j; omega
  rw [e1, add_plain]
  unfold World.cell?
  simp only
  rw [h]
  simp [hj]
section
variable {P : Program} {ops : Array Oper} {rest : List Oper} {o : Oper} {a : Act} {Q : Exit → Act → World → Prop} {Kc : Act → World → Prop}
theorem V_litc {w0 W : World} (base e t : Nat) (hgd : o.guard = none) {N : Tmp} (_hd : o.dst = some N) {o2 : Oper} (hgd2 : o2.guard = none) (hop2 : o2.op = .convert t t (.tmp N)) (ht : P.underlying t = some (.slice e)) (he : P.underlying e = some (.int .u8)) {xs : List Int} {inner : List Value} (hin : inner = xs.map (Value.int .u8)) (hm : xs.length ≤ 140737488351232)
    (hrun : (execOp a.eval o).run P W = .ok (.value (.slice (some ⟨W.heap.size, 0, none⟩) xs.length xs.length)) (W.alloc (.cells inner.toArray e)))
    (hN : ∀ v, (a.put o.dst v).eval (.tmp N) = v)
    (HB : Below base w0 W) (hbase : base ≤ W.heap.size)
    (h : ∀ v1 w1, Kd.V (Kd.int .u8) e w1 base (fun k_ => W.heap.size ≤ k_) v1 xs → Below base w0 w1 → W.grownBy w1 none → (∃ b, v1.ownBlock = some b ∧ W.heap.size ≤ b) → wpList P ops Q rest ((a.put o.dst v1).put o2.dst v1) w1) : wpList P ops Q (o :: o2 :: rest) a W := by
  have hs : inner.toArray.size = xs.length := by rw [hin]; simp
  have hrun2 : (execOp (a.put o.dst (.slice (some ⟨W.heap.size, 0, none⟩) xs.length xs.length)).eval o2).run P (W.alloc (.cells inner.toArray e)) = .ok (.value (.slice (some ⟨W.heap.size, 0, none⟩) xs.length xs.length)) (W.alloc (.cells inner.toArray e (inner.toArray.size, inner.toArray.size + 1))) := by
    unfold execOp
    simp [hop2, hN, Lib.run_convert_bytes_const W t e inner.toArray xs.length xs.length ht he]
  rw [hs] at hrun2
  have hB : Below base w0 (W.alloc (.cells inner.toArray e (xs.length, xs.length + 1))) := HB.alloc hbase _
  refine Kd.event_run hgd hrun (Kd.event_run hgd2 hrun2 (h _ _ ?_ hB (World.grownBy_alloc W _ none) ⟨W.heap.size, by simp [Value.ownBlock], Nat.le_refl _⟩))
  refine Kd.V_mk (Nat.le_refl _) (fun W' hW => ?_)
  refine litc_reads W W' e xs ?_ hm
  have hlt : W.heap.size < (W.alloc (.cells inner.toArray e (xs.length, xs.length + 1))).heap.size := by
    show W.heap.size < (W.heap.push _).size
    simp
  rw [hW W.heap.size (Nat.le_refl _) hlt, hin]
  show (W.heap.push _)[W.heap.size]? = _
  simp
end
end Go.Proofs.YtpbojlppeaobmaaV
