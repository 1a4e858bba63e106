/- The regions of ListClasses' closure that draw their order (written by wip/gen/mkfill.py). -/
import Derived.Test.YtoojemnocncafaaVRow
import Derived.Test.YtoojemnocncafaaWTab
import Derived.Test.YtoojemnocncafaaWFour
import Derived.WalkKit
import Derived.Deep.LoopGhost
import Derived.Deep.CutBlock
import Derived.Lib.MinMaxS
set_option linter.unusedVariables false
set_option linter.unusedSimpArgs false
set_option linter.unusedSectionVars false
namespace Go.Proofs.YtoojemnocncafaaV
open Go.RowKit Go.Proofs.YtoojemnocncafaaW.PrintWords Go.Proofs.YtoojemnocncafaaW.PrintLast
namespace FL
open RB
theorem infoU : (Try.prog.info? 5).map (fun i => (i.zero, i.size, i.bytes)) = some (some (.int .u8 0), 1, 1) := by kernel_rfl
theorem run_step {P : Program} {ops : Array Oper} {o : Oper} {a : Act} {W w1 : World} {v : Value} {K : Act → World → Prop} {Q : Exit → Act → World → Prop} {N : Tmp} (hg : o.guard = none) (hN : o.dst = some N) (hrun : (execOp a.eval o).run P W = .ok (.value v) w1) (h : K (a.put (some N) v) w1) :
    if Region.wanted o (yielded ops a.tmps) = true then Oper.wp P o a W K Q else K (a.put (some N) undef) W := by
  rw [if_pos (by simp [Region.wanted, hg])]
  unfold Oper.wp
  rw [hrun]
  show K (a.put o.dst v) w1
  rw [hN]
  exact h
theorem cells_of {W : World} {g : Nat} {cs : List Value} {T : TypeId} (h : W.heap[g]? = some (.cells cs.toArray T (0, 0))) : ∀ j u, cs[j]? = some u → W.cell? ((⟨g, 0, none⟩ : Addr).add j) = some u := by
  intro j u hj
  rw [add0]
  unfold World.cell?
  simp only [h]
  simpa using hj
theorem lt_of {W : World} {g : Nat} {o : Obj} (h : W.heap[g]? = some o) : g < W.heap.size := (Array.getElem?_eq_some_iff.1 h).1
theorem below_grown {w0 W W' : World} {V : Value} (B : Below w0.heap.size w0 W) (hV : ∀ k, V.ownBlock = some k → w0.heap.size ≤ k) (hg : W.grownBy W' V.ownBlock) : Below w0.heap.size w0 W' :=
  B.trans ⟨hg.os, hg.tape, hg.output, hg.size, fun k hk => hg.block k (Nat.lt_of_lt_of_le hk B.size) (fun e => by have := hV k e.symm; omega)⟩
abbrev u8s (l : List Int) : List Value := encs (Value.int .u8) l
theorem u8s_app (a b : List Int) : u8s (a ++ b) = u8s a ++ u8s b := by simp [encs]
abbrev clo (bw bh bm bo bf : Nat) : Value := .func (.func 15) #[] #[.pointer (some ⟨bw, 0, none⟩), .pointer (some ⟨bh, 0, none⟩), .pointer (some ⟨bm, 0, none⟩), .pointer (some ⟨bo, 0, none⟩), .pointer (some ⟨bf, 0, none⟩)]
def R11.T : Bool × List (List Nat × List Nat) := (true, [([], []), ([], []), ([1], [1]), ([], []), ([2, 3, 2], [2, 3]), ([], []), ([5], [5]), ([], []), ([0, 4, 6, 7, 4], [0, 4, 6, 7])])
def R11.B : List Nat := [0, 0, 2, 0, 14, 0, 32, 0, 255]
theorem R11.tab : rtab .any (opsOf Try.f15 11) = R11.T := by kernel_rfl
theorem R11.bits : waitsOk R11.T.2 R11.B = true := by kernel_rfl
section
variable {P : Program} {ops : Array Oper} {Q : Exit → Act → World → Prop} (hP : P = Try.prog) (tab : rtab .any ops = R11.T) (hq : ∀ (c : List PanicEntry) (a : Act) (d : Tmp) (v : Value) (w : World), Q (.panic c) (a.put (some d) v) w → Q (.panic c) a w)
variable {o0 : Oper} (h0 : ops[0]? = some o0) (d0 : o0.dst = some 57) (p0 : o0.op = .load 38 (.tmp 7)) (g0 : o0.guard = none)
variable {o1 : Oper} (h1 : ops[1]? = some o1) (d1 : o1.dst = some 58) (p1 : o1.op = .move (.tmp 0)) (g1 : o1.guard = none)
variable {o2 : Oper} (h2 : ops[2]? = some o2) (d2 : o2.dst = some 59) (p2 : o2.op = .call { callee := .value (.func 18), args := #[.tmp 58], argTypes := #[32] }) (g2 : o2.guard = none)
variable {o3 : Oper} (h3 : ops[3]? = some o3) (d3 : o3.dst = some 60) (p3 : o3.op = .buildSlice 32 1 #[(0, .const (.int .u8 35))]) (g3 : o3.guard = none)
variable {o4 : Oper} (h4 : ops[4]? = some o4) (d4 : o4.dst = some 61) (p4 : o4.op = .call { callee := .builtin .append, args := #[.tmp 59, .tmp 60], argTypes := #[32, 32] }) (g4 : o4.guard = none)
variable {o5 : Oper} (h5 : ops[5]? = some o5) (d5 : o5.dst = some 62) (p5 : o5.op = .move (.tmp 1)) (g5 : o5.guard = none)
variable {o6 : Oper} (h6 : ops[6]? = some o6) (d6 : o6.dst = some 63) (p6 : o6.op = .binOp .sub 3 (.tmp 62) (.const (.int .i64 1)) 3) (g6 : o6.guard = none)
variable {o7 : Oper} (h7 : ops[7]? = some o7) (d7 : o7.dst = some 64) (p7 : o7.op = .move (.tmp 2)) (g7 : o7.guard = none)
variable {o8 : Oper} (h8 : ops[8]? = some o8) (d8 : o8.dst = some 65) (p8 : o8.op = .call { callee := .value (.tmp 57), args := #[.tmp 61, .tmp 63, .tmp 64], argTypes := #[32, 3, 3] }) (g8 : o8.guard = none)
variable {u0 u1 u2 u3 u4 u5 u6 u7 u8 u9 u10 u11 u12 u13 u14 u15 u16 u17 u18 u19 u20 u21 u22 u23 u24 u25 u26 u27 u28 u29 u30 u31 u32 u33 u34 u35 u36 u37 u38 u39 u40 u41 u42 u43 u44 u45 u46 u47 u48 u49 u50 u51 u52 u53 u54 u55 u56 u57 u58 u59 u60 u61 u62 u63 u64 u65 u66 u67 u68 u69 u70 u71 u72 u73 u74 u75 u76 u77 u78 u79 u80 u81 u82 u83 u84 u85 u86 : Value}
variable {bw bh bm bo bf c m : Nat} {za zb : Int} {A : Option Addr} {w0 : World} {l : List Int} {Post : World → Prop}
variable (hl : l.length ≤ 1000000) (hw1 : IntKind.i64.wrap (m : Int) = (m : Int)) (lf : bf < w0.heap.size) (cf : w0.cell? ⟨bf, 0, none⟩ = some (clo bw bh bm bo bf))
variable (HC : ∀ W, Below w0.heap.size w0 W → Calls Try.prog 18 #[.slice A l.length c] W fun e w' => ∃ v0_ : Value, e = .returned v0_ ∧ Kd.R (Kd.int .u8) 5 w' W.heap.size (fun _ => True) v0_ l ∧ Below W.heap.size W w')
variable (HF : ∀ (W : World) (V : Value), Below w0.heap.size w0 W → W.ownsRow w0.heap.size 5 1 V (l.length + 1) (u8s (l ++ [35])) → Calls Try.prog 15 #[V, .int .i64 (m : Int), .int .i64 zb, .pointer (some ⟨bw, 0, none⟩), .pointer (some ⟨bh, 0, none⟩), .pointer (some ⟨bm, 0, none⟩), .pointer (some ⟨bo, 0, none⟩), .pointer (some ⟨bf, 0, none⟩)] W fun e W' => e = .returned (.tuple #[]) ∧ Post W')
variable (hQ : ∀ (x1 x2 x3 : Value) (W' : World), Post W' → Q .normal ⟨#[.slice A l.length c, .int .i64 ((m + 1 : Nat) : Int), .int .i64 zb, .pointer (some ⟨bw, 0, none⟩), .pointer (some ⟨bh, 0, none⟩), .pointer (some ⟨bm, 0, none⟩), .pointer (some ⟨bo, 0, none⟩), .pointer (some ⟨bf, 0, none⟩), u8, u9, u10, u11, u12, u13, u14, u15, u16, u17, u18, u19, u20, u21, u22, u23, u24, u25, u26, u27, u28, u29, u30, u31, u32, u33, u34, u35, u36, u37, u38, u39, u40, u41, u42, u43, u44, u45, u46, u47, u48, u49, u50, u51, u52, u53, u54, u55, u56, clo bw bh bm bo bf, .slice A l.length c, x1, x2, x3, .int .i64 ((m + 1 : Nat) : Int), .int .i64 (m : Int), .int .i64 zb, .tuple #[], u66, u67, u68, u69, u70, u71, u72, u73, u74, u75, u76, u77, u78, u79, u80, u81, u82, u83, u84, u85, u86], []⟩ W')
include hP tab hq h0 d0 p0 g0 h1 d1 p1 g1 h2 d2 p2 g2 h3 d3 p3 g3 h4 d4 p4 g4 h5 d5 p5 g5 h6 d6 p6 g6 h7 d7 p7 g7 h8 d8 p8 g8 hl hw1 lf cf HC HF hQ
set_option maxRecDepth 100000 in
set_option maxHeartbeats 2000000 in
theorem R11_1111 (W : World) (V0 : Value) (gA : Nat) (V1 : Value) (hP' : Post W) : wpAnyLast P .any ops Q (fun w' => Below w0.heap.size w0 w') [8] 0 #[true, true, true, true, true, true, true, true, true] ⟨#[.slice A l.length c, .int .i64 ((m + 1 : Nat) : Int), .int .i64 zb, .pointer (some ⟨bw, 0, none⟩), .pointer (some ⟨bh, 0, none⟩), .pointer (some ⟨bm, 0, none⟩), .pointer (some ⟨bo, 0, none⟩), .pointer (some ⟨bf, 0, none⟩), u8, u9, u10, u11, u12, u13, u14, u15, u16, u17, u18, u19, u20, u21, u22, u23, u24, u25, u26, u27, u28, u29, u30, u31, u32, u33, u34, u35, u36, u37, u38, u39, u40, u41, u42, u43, u44, u45, u46, u47, u48, u49, u50, u51, u52, u53, u54, u55, u56, clo bw bh bm bo bf, .slice A l.length c, V0, .slice (some ⟨gA, 0, none⟩) 1 1, V1, .int .i64 ((m + 1 : Nat) : Int), .int .i64 (m : Int), .int .i64 zb, .tuple #[], u66, u67, u68, u69, u70, u71, u72, u73, u74, u75, u76, u77, u78, u79, u80, u81, u82, u83, u84, u85, u86], []⟩ W := by
  refine done_ (done_of tab (by kernel_rfl)) ?_
  exact hQ _ _ _ W hP'
set_option maxRecDepth 100000 in
set_option maxHeartbeats 2000000 in
theorem R11_1110 (W : World) (V0 : Value) (gA : Nat) (V1 : Value) (hS : (fun w' => Below w0.heap.size w0 w') W) (h1' : W.ownsRow w0.heap.size 5 1 V1 (l.length + 1) (u8s (l ++ [35]))) : wpAnyLast P .any ops Q (fun w' => Below w0.heap.size w0 w') [8] 1 #[true, true, true, true, true, true, true, true, false] ⟨#[.slice A l.length c, .int .i64 ((m + 1 : Nat) : Int), .int .i64 zb, .pointer (some ⟨bw, 0, none⟩), .pointer (some ⟨bh, 0, none⟩), .pointer (some ⟨bm, 0, none⟩), .pointer (some ⟨bo, 0, none⟩), .pointer (some ⟨bf, 0, none⟩), u8, u9, u10, u11, u12, u13, u14, u15, u16, u17, u18, u19, u20, u21, u22, u23, u24, u25, u26, u27, u28, u29, u30, u31, u32, u33, u34, u35, u36, u37, u38, u39, u40, u41, u42, u43, u44, u45, u46, u47, u48, u49, u50, u51, u52, u53, u54, u55, u56, clo bw bh bm bo bf, .slice A l.length c, V0, .slice (some ⟨gA, 0, none⟩) 1 1, V1, .int .i64 ((m + 1 : Nat) : Int), .int .i64 (m : Int), .int .i64 zb, u65, u66, u67, u68, u69, u70, u71, u72, u73, u74, u75, u76, u77, u78, u79, u80, u81, u82, u83, u84, u85, u86], []⟩ W := by
  refine last_ (i := 8) (N := some 65) #[true, true, true, true, true, true, true, true, true] h8 d8 (one_of tab (by kernel_rfl)) (by decide) (fun K hK => ?_)
  · -- 8
    subst hP
    refine call_ 15 #[V1, .int .i64 (m : Int), .int .i64 zb, .pointer (some ⟨bw, 0, none⟩), .pointer (some ⟨bh, 0, none⟩), .pointer (some ⟨bm, 0, none⟩), .pointer (some ⟨bo, 0, none⟩), .pointer (some ⟨bf, 0, none⟩)] (by simp [Region.wanted, g8]) d8 (by have he := enters_ (P := Try.prog) Try.func15 (by kernel_rfl) rfl #[V1, .int .i64 (m : Int), .int .i64 zb, .pointer (some ⟨bw, 0, none⟩), .pointer (some ⟨bh, 0, none⟩), .pointer (some ⟨bm, 0, none⟩), .pointer (some ⟨bo, 0, none⟩), .pointer (some ⟨bf, 0, none⟩)] W; unfold execOp; simp [p8, resolve, Deferred.ofValue, invoke, Act.eval, he]) ?_
    refine (HF W V1 hS h1').mono ?_
    rintro e W' ⟨rfl, hPost⟩
    refine ⟨_, rfl, ?_⟩
    refine hK.out _ _ ?_
    clear hK K
    refine norm_ (a' := ⟨#[.slice A l.length c, .int .i64 ((m + 1 : Nat) : Int), .int .i64 zb, .pointer (some ⟨bw, 0, none⟩), .pointer (some ⟨bh, 0, none⟩), .pointer (some ⟨bm, 0, none⟩), .pointer (some ⟨bo, 0, none⟩), .pointer (some ⟨bf, 0, none⟩), u8, u9, u10, u11, u12, u13, u14, u15, u16, u17, u18, u19, u20, u21, u22, u23, u24, u25, u26, u27, u28, u29, u30, u31, u32, u33, u34, u35, u36, u37, u38, u39, u40, u41, u42, u43, u44, u45, u46, u47, u48, u49, u50, u51, u52, u53, u54, u55, u56, clo bw bh bm bo bf, .slice A l.length c, V0, .slice (some ⟨gA, 0, none⟩) 1 1, V1, .int .i64 ((m + 1 : Nat) : Int), .int .i64 (m : Int), .int .i64 zb, .tuple #[], u66, u67, u68, u69, u70, u71, u72, u73, u74, u75, u76, u77, u78, u79, u80, u81, u82, u83, u84, u85, u86], []⟩) (by rfl) ?_
    exact R11_1111 rfl tab hq h0 d0 p0 g0 h1 d1 p1 g1 h2 d2 p2 g2 h3 d3 p3 g3 h4 d4 p4 g4 h5 d5 p5 g5 h6 d6 p6 g6 h7 d7 p7 g7 h8 d8 p8 g8 hl hw1 lf cf HC HF hQ W' V0 gA V1 hPost
set_option maxRecDepth 100000 in
set_option maxHeartbeats 2000000 in
theorem R11_1100 (W : World) (V0 : Value) (gA : Nat) (hS : (fun w' => Below w0.heap.size w0 w') W) (h0' : W.ownsRow w0.heap.size 5 1 V0 l.length (u8s l)) (bA : W.heap[gA]? = some (.cells #[.int .u8 35] 5 (0, 0))) : wpAnyLast P .any ops Q (fun w' => Below w0.heap.size w0 w') [8] 2 #[true, true, true, true, false, true, true, true, false] ⟨#[.slice A l.length c, .int .i64 ((m + 1 : Nat) : Int), .int .i64 zb, .pointer (some ⟨bw, 0, none⟩), .pointer (some ⟨bh, 0, none⟩), .pointer (some ⟨bm, 0, none⟩), .pointer (some ⟨bo, 0, none⟩), .pointer (some ⟨bf, 0, none⟩), u8, u9, u10, u11, u12, u13, u14, u15, u16, u17, u18, u19, u20, u21, u22, u23, u24, u25, u26, u27, u28, u29, u30, u31, u32, u33, u34, u35, u36, u37, u38, u39, u40, u41, u42, u43, u44, u45, u46, u47, u48, u49, u50, u51, u52, u53, u54, u55, u56, clo bw bh bm bo bf, .slice A l.length c, V0, .slice (some ⟨gA, 0, none⟩) 1 1, u61, .int .i64 ((m + 1 : Nat) : Int), .int .i64 (m : Int), .int .i64 zb, u65, u66, u67, u68, u69, u70, u71, u72, u73, u74, u75, u76, u77, u78, u79, u80, u81, u82, u83, u84, u85, u86], []⟩ W := by
  refine one_ (i := 4) (N := some 61) #[true, true, true, true, true, true, true, true, false] h4 d4 (one_of tab (by kernel_rfl)) (by decide) (fun K hK => ?_)
  · -- 4
    obtain ⟨i0, hi0, hz0, hz1, hz2⟩ := info_parts infoU
    subst hP
    refine step_append_keep W g4 _ _ _ p4 w0.heap.size 5 i0 _ 1 1 Try.underlying32 hi0 hz0 hz1 hz2 rfl (by omega) V0 l.length (u8s l) (by rfl) h0' ⟨gA, 0, none⟩ 1 1 [.int .u8 35] (by rfl) (by rfl) (cells_of bA) (by simp [Value.oneCell']) (by omega) (by simp only [maxLen]; omega) (by omega) hS.size ?_
    intro V1 W' hown' hg hat hold
    have hB' := below_grown hS (own_base h0') hg
    have hN : W'.ownsRow w0.heap.size 5 1 V1 (l.length + 1) (u8s (l ++ [35])) := by rw [u8s_app]; exact hown'
    rw [d4]
    refine hK.out _ _ hB' (fun hHeld => ?_)
    clear hK K
    refine norm_ (a' := ⟨#[.slice A l.length c, .int .i64 ((m + 1 : Nat) : Int), .int .i64 zb, .pointer (some ⟨bw, 0, none⟩), .pointer (some ⟨bh, 0, none⟩), .pointer (some ⟨bm, 0, none⟩), .pointer (some ⟨bo, 0, none⟩), .pointer (some ⟨bf, 0, none⟩), u8, u9, u10, u11, u12, u13, u14, u15, u16, u17, u18, u19, u20, u21, u22, u23, u24, u25, u26, u27, u28, u29, u30, u31, u32, u33, u34, u35, u36, u37, u38, u39, u40, u41, u42, u43, u44, u45, u46, u47, u48, u49, u50, u51, u52, u53, u54, u55, u56, clo bw bh bm bo bf, .slice A l.length c, V0, .slice (some ⟨gA, 0, none⟩) 1 1, V1, .int .i64 ((m + 1 : Nat) : Int), .int .i64 (m : Int), .int .i64 zb, u65, u66, u67, u68, u69, u70, u71, u72, u73, u74, u75, u76, u77, u78, u79, u80, u81, u82, u83, u84, u85, u86], []⟩) (by rfl) ?_
    exact R11_1110 rfl tab hq h0 d0 p0 g0 h1 d1 p1 g1 h2 d2 p2 g2 h3 d3 p3 g3 h4 d4 p4 g4 h5 d5 p5 g5 h6 d6 p6 g6 h7 d7 p7 g7 h8 d8 p8 g8 hl hw1 lf cf HC HF hQ W' V0 gA V1 hHeld hN
set_option maxRecDepth 100000 in
set_option maxHeartbeats 2000000 in
theorem R11_1000 (W : World) (V0 : Value) (hS : (fun w' => Below w0.heap.size w0 w') W) (h0' : W.ownsRow w0.heap.size 5 1 V0 l.length (u8s l)) : wpAnyLast P .any ops Q (fun w' => Below w0.heap.size w0 w') [8] 3 #[true, true, true, false, false, true, true, true, false] ⟨#[.slice A l.length c, .int .i64 ((m + 1 : Nat) : Int), .int .i64 zb, .pointer (some ⟨bw, 0, none⟩), .pointer (some ⟨bh, 0, none⟩), .pointer (some ⟨bm, 0, none⟩), .pointer (some ⟨bo, 0, none⟩), .pointer (some ⟨bf, 0, none⟩), u8, u9, u10, u11, u12, u13, u14, u15, u16, u17, u18, u19, u20, u21, u22, u23, u24, u25, u26, u27, u28, u29, u30, u31, u32, u33, u34, u35, u36, u37, u38, u39, u40, u41, u42, u43, u44, u45, u46, u47, u48, u49, u50, u51, u52, u53, u54, u55, u56, clo bw bh bm bo bf, .slice A l.length c, V0, u60, u61, .int .i64 ((m + 1 : Nat) : Int), .int .i64 (m : Int), .int .i64 zb, u65, u66, u67, u68, u69, u70, u71, u72, u73, u74, u75, u76, u77, u78, u79, u80, u81, u82, u83, u84, u85, u86], []⟩ W := by
  refine one_ (i := 3) (N := some 60) #[true, true, true, true, false, true, true, true, false] h3 d3 (one_of tab (by kernel_rfl)) (by decide) (fun K hK => ?_)
  · -- 3
    refine run_step (v := .slice (some ⟨W.heap.size, 0, none⟩) 1 1) (w1 := W.alloc (.cells #[.int .u8 35] 5)) g3 d3 (by simp only [execOp, p3, Act.eval]; subst hP; first | (go_simp; done) | (go_simp; rfl)) ?_
    have hB := (Below.refl W.heap.size W).alloc (Nat.le_refl _) (.cells #[.int .u8 35] 5)
    have bN := (Go.MapKept.heap_alloc W (.cells #[.int .u8 35] 5)).1
    refine hK.out _ _ (hS.trans (hB.mono hS.size)) (fun hHeld => ?_)
    clear hK K
    refine norm_ (a' := ⟨#[.slice A l.length c, .int .i64 ((m + 1 : Nat) : Int), .int .i64 zb, .pointer (some ⟨bw, 0, none⟩), .pointer (some ⟨bh, 0, none⟩), .pointer (some ⟨bm, 0, none⟩), .pointer (some ⟨bo, 0, none⟩), .pointer (some ⟨bf, 0, none⟩), u8, u9, u10, u11, u12, u13, u14, u15, u16, u17, u18, u19, u20, u21, u22, u23, u24, u25, u26, u27, u28, u29, u30, u31, u32, u33, u34, u35, u36, u37, u38, u39, u40, u41, u42, u43, u44, u45, u46, u47, u48, u49, u50, u51, u52, u53, u54, u55, u56, clo bw bh bm bo bf, .slice A l.length c, V0, .slice (some ⟨W.heap.size, 0, none⟩) 1 1, u61, .int .i64 ((m + 1 : Nat) : Int), .int .i64 (m : Int), .int .i64 zb, u65, u66, u67, u68, u69, u70, u71, u72, u73, u74, u75, u76, u77, u78, u79, u80, u81, u82, u83, u84, u85, u86], []⟩) (by rfl) ?_
    exact R11_1100 hP tab hq h0 d0 p0 g0 h1 d1 p1 g1 h2 d2 p2 g2 h3 d3 p3 g3 h4 d4 p4 g4 h5 d5 p5 g5 h6 d6 p6 g6 h7 d7 p7 g7 h8 d8 p8 g8 hl hw1 lf cf HC HF hQ _ V0 _ hHeld (own_move h0' (fun k hk => hB.block k (own_lt h0' k hk))) bN
set_option maxRecDepth 100000 in
set_option maxHeartbeats 2000000 in
theorem R11_0100 (W : World) (gA : Nat) (hS : (fun w' => Below w0.heap.size w0 w') W) (bA : W.heap[gA]? = some (.cells #[.int .u8 35] 5 (0, 0))) : wpAnyLast P .any ops Q (fun w' => Below w0.heap.size w0 w') [8] 3 #[true, true, false, true, false, true, true, true, false] ⟨#[.slice A l.length c, .int .i64 ((m + 1 : Nat) : Int), .int .i64 zb, .pointer (some ⟨bw, 0, none⟩), .pointer (some ⟨bh, 0, none⟩), .pointer (some ⟨bm, 0, none⟩), .pointer (some ⟨bo, 0, none⟩), .pointer (some ⟨bf, 0, none⟩), u8, u9, u10, u11, u12, u13, u14, u15, u16, u17, u18, u19, u20, u21, u22, u23, u24, u25, u26, u27, u28, u29, u30, u31, u32, u33, u34, u35, u36, u37, u38, u39, u40, u41, u42, u43, u44, u45, u46, u47, u48, u49, u50, u51, u52, u53, u54, u55, u56, clo bw bh bm bo bf, .slice A l.length c, u59, .slice (some ⟨gA, 0, none⟩) 1 1, u61, .int .i64 ((m + 1 : Nat) : Int), .int .i64 (m : Int), .int .i64 zb, u65, u66, u67, u68, u69, u70, u71, u72, u73, u74, u75, u76, u77, u78, u79, u80, u81, u82, u83, u84, u85, u86], []⟩ W := by
  refine one_ (i := 2) (N := some 59) #[true, true, true, true, false, true, true, true, false] h2 d2 (one_of tab (by kernel_rfl)) (by decide) (fun K hK => ?_)
  · -- 2
    subst hP
    refine goes_ Try.func18 (by kernel_rfl) rfl #[.slice A l.length c] (by simp [Region.wanted, g2]) d2 p2 (by simp [Act.eval]) ?_
    refine (HC W hS).mono ?_
    rintro e W' ⟨V0, rfl, hR, hB⟩
    refine ⟨_, rfl, ?_⟩
    have hN : W'.ownsRow w0.heap.size 5 1 V0 l.length (u8s l) := own_weaken (Kd.own_of_R hR) hS.size
    refine hK.out _ _ (hS.trans (hB.mono hS.size)) (fun hHeld => ?_)
    clear hK K
    refine norm_ (a' := ⟨#[.slice A l.length c, .int .i64 ((m + 1 : Nat) : Int), .int .i64 zb, .pointer (some ⟨bw, 0, none⟩), .pointer (some ⟨bh, 0, none⟩), .pointer (some ⟨bm, 0, none⟩), .pointer (some ⟨bo, 0, none⟩), .pointer (some ⟨bf, 0, none⟩), u8, u9, u10, u11, u12, u13, u14, u15, u16, u17, u18, u19, u20, u21, u22, u23, u24, u25, u26, u27, u28, u29, u30, u31, u32, u33, u34, u35, u36, u37, u38, u39, u40, u41, u42, u43, u44, u45, u46, u47, u48, u49, u50, u51, u52, u53, u54, u55, u56, clo bw bh bm bo bf, .slice A l.length c, V0, .slice (some ⟨gA, 0, none⟩) 1 1, u61, .int .i64 ((m + 1 : Nat) : Int), .int .i64 (m : Int), .int .i64 zb, u65, u66, u67, u68, u69, u70, u71, u72, u73, u74, u75, u76, u77, u78, u79, u80, u81, u82, u83, u84, u85, u86], []⟩) (by rfl) ?_
    exact R11_1100 rfl tab hq h0 d0 p0 g0 h1 d1 p1 g1 h2 d2 p2 g2 h3 d3 p3 g3 h4 d4 p4 g4 h5 d5 p5 g5 h6 d6 p6 g6 h7 d7 p7 g7 h8 d8 p8 g8 hl hw1 lf cf HC HF hQ W' V0 gA hHeld hN ((hB.block _ (lt_of bA)).trans bA)
set_option maxRecDepth 100000 in
set_option maxHeartbeats 2000000 in
theorem R11_0000 (W : World) (hS : (fun w' => Below w0.heap.size w0 w') W) : wpAnyLast P .any ops Q (fun w' => Below w0.heap.size w0 w') [8] 4 #[true, true, false, false, false, true, true, true, false] ⟨#[.slice A l.length c, .int .i64 ((m + 1 : Nat) : Int), .int .i64 zb, .pointer (some ⟨bw, 0, none⟩), .pointer (some ⟨bh, 0, none⟩), .pointer (some ⟨bm, 0, none⟩), .pointer (some ⟨bo, 0, none⟩), .pointer (some ⟨bf, 0, none⟩), u8, u9, u10, u11, u12, u13, u14, u15, u16, u17, u18, u19, u20, u21, u22, u23, u24, u25, u26, u27, u28, u29, u30, u31, u32, u33, u34, u35, u36, u37, u38, u39, u40, u41, u42, u43, u44, u45, u46, u47, u48, u49, u50, u51, u52, u53, u54, u55, u56, clo bw bh bm bo bf, .slice A l.length c, u59, u60, u61, .int .i64 ((m + 1 : Nat) : Int), .int .i64 (m : Int), .int .i64 zb, u65, u66, u67, u68, u69, u70, u71, u72, u73, u74, u75, u76, u77, u78, u79, u80, u81, u82, u83, u84, u85, u86], []⟩ W := by
  refine two_ #[true, true, true, false, false, true, true, true, false] #[true, true, false, true, false, true, true, true, false] h2 h3 d2 d3  (two_of tab (by kernel_rfl)) (by decide) (by decide) (fun K hK => ?_) (fun K hK => ?_)
  · -- 2
    subst hP
    refine goes_ Try.func18 (by kernel_rfl) rfl #[.slice A l.length c] (by simp [Region.wanted, g2]) d2 p2 (by simp [Act.eval]) ?_
    refine (HC W hS).mono ?_
    rintro e W' ⟨V0, rfl, hR, hB⟩
    refine ⟨_, rfl, ?_⟩
    have hN : W'.ownsRow w0.heap.size 5 1 V0 l.length (u8s l) := own_weaken (Kd.own_of_R hR) hS.size
    refine hK.out _ _ (hS.trans (hB.mono hS.size)) (fun hHeld => ?_)
    clear hK K
    refine norm_ (a' := ⟨#[.slice A l.length c, .int .i64 ((m + 1 : Nat) : Int), .int .i64 zb, .pointer (some ⟨bw, 0, none⟩), .pointer (some ⟨bh, 0, none⟩), .pointer (some ⟨bm, 0, none⟩), .pointer (some ⟨bo, 0, none⟩), .pointer (some ⟨bf, 0, none⟩), u8, u9, u10, u11, u12, u13, u14, u15, u16, u17, u18, u19, u20, u21, u22, u23, u24, u25, u26, u27, u28, u29, u30, u31, u32, u33, u34, u35, u36, u37, u38, u39, u40, u41, u42, u43, u44, u45, u46, u47, u48, u49, u50, u51, u52, u53, u54, u55, u56, clo bw bh bm bo bf, .slice A l.length c, V0, u60, u61, .int .i64 ((m + 1 : Nat) : Int), .int .i64 (m : Int), .int .i64 zb, u65, u66, u67, u68, u69, u70, u71, u72, u73, u74, u75, u76, u77, u78, u79, u80, u81, u82, u83, u84, u85, u86], []⟩) (by rfl) ?_
    exact R11_1000 rfl tab hq h0 d0 p0 g0 h1 d1 p1 g1 h2 d2 p2 g2 h3 d3 p3 g3 h4 d4 p4 g4 h5 d5 p5 g5 h6 d6 p6 g6 h7 d7 p7 g7 h8 d8 p8 g8 hl hw1 lf cf HC HF hQ W' V0 hHeld hN
  · -- 3
    refine run_step (v := .slice (some ⟨W.heap.size, 0, none⟩) 1 1) (w1 := W.alloc (.cells #[.int .u8 35] 5)) g3 d3 (by simp only [execOp, p3, Act.eval]; subst hP; first | (go_simp; done) | (go_simp; rfl)) ?_
    have hB := (Below.refl W.heap.size W).alloc (Nat.le_refl _) (.cells #[.int .u8 35] 5)
    have bN := (Go.MapKept.heap_alloc W (.cells #[.int .u8 35] 5)).1
    refine hK.out _ _ (hS.trans (hB.mono hS.size)) (fun hHeld => ?_)
    clear hK K
    refine norm_ (a' := ⟨#[.slice A l.length c, .int .i64 ((m + 1 : Nat) : Int), .int .i64 zb, .pointer (some ⟨bw, 0, none⟩), .pointer (some ⟨bh, 0, none⟩), .pointer (some ⟨bm, 0, none⟩), .pointer (some ⟨bo, 0, none⟩), .pointer (some ⟨bf, 0, none⟩), u8, u9, u10, u11, u12, u13, u14, u15, u16, u17, u18, u19, u20, u21, u22, u23, u24, u25, u26, u27, u28, u29, u30, u31, u32, u33, u34, u35, u36, u37, u38, u39, u40, u41, u42, u43, u44, u45, u46, u47, u48, u49, u50, u51, u52, u53, u54, u55, u56, clo bw bh bm bo bf, .slice A l.length c, u59, .slice (some ⟨W.heap.size, 0, none⟩) 1 1, u61, .int .i64 ((m + 1 : Nat) : Int), .int .i64 (m : Int), .int .i64 zb, u65, u66, u67, u68, u69, u70, u71, u72, u73, u74, u75, u76, u77, u78, u79, u80, u81, u82, u83, u84, u85, u86], []⟩) (by rfl) ?_
    exact R11_0100 hP tab hq h0 d0 p0 g0 h1 d1 p1 g1 h2 d2 p2 g2 h3 d3 p3 g3 h4 d4 p4 g4 h5 d5 p5 g5 h6 d6 p6 g6 h7 d7 p7 g7 h8 d8 p8 g8 hl hw1 lf cf HC HF hQ _ _ hHeld bN
set_option maxRecDepth 100000 in
set_option maxHeartbeats 2000000 in
theorem R11_region {id : Nat} (hsize : ops.size = 9)  : (Code.region id ops true).wp P Q ⟨#[.slice A l.length c, .int .i64 ((m + 1 : Nat) : Int), .int .i64 zb, .pointer (some ⟨bw, 0, none⟩), .pointer (some ⟨bh, 0, none⟩), .pointer (some ⟨bm, 0, none⟩), .pointer (some ⟨bo, 0, none⟩), .pointer (some ⟨bf, 0, none⟩), u8, u9, u10, u11, u12, u13, u14, u15, u16, u17, u18, u19, u20, u21, u22, u23, u24, u25, u26, u27, u28, u29, u30, u31, u32, u33, u34, u35, u36, u37, u38, u39, u40, u41, u42, u43, u44, u45, u46, u47, u48, u49, u50, u51, u52, u53, u54, u55, u56, u57, u58, u59, u60, u61, u62, u63, u64, u65, u66, u67, u68, u69, u70, u71, u72, u73, u74, u75, u76, u77, u78, u79, u80, u81, u82, u83, u84, u85, u86], []⟩ w0 := by
  refine start_ (n := 9) (S := (fun w' => Below w0.heap.size w0 w')) (ds := [8]) #[false, false, false, false, false, false, false, false, false] (by rw [hP]; kernel_rfl) hsize rfl (below_drew (Below.refl _ w0)) (fun hHeld => ?_)
  refine pure_ (i := 1) (N := some 58) (v := .slice A l.length c) (a' := ⟨#[.slice A l.length c, .int .i64 ((m + 1 : Nat) : Int), .int .i64 zb, .pointer (some ⟨bw, 0, none⟩), .pointer (some ⟨bh, 0, none⟩), .pointer (some ⟨bm, 0, none⟩), .pointer (some ⟨bo, 0, none⟩), .pointer (some ⟨bf, 0, none⟩), u8, u9, u10, u11, u12, u13, u14, u15, u16, u17, u18, u19, u20, u21, u22, u23, u24, u25, u26, u27, u28, u29, u30, u31, u32, u33, u34, u35, u36, u37, u38, u39, u40, u41, u42, u43, u44, u45, u46, u47, u48, u49, u50, u51, u52, u53, u54, u55, u56, u57, .slice A l.length c, u59, u60, u61, u62, u63, u64, u65, u66, u67, u68, u69, u70, u71, u72, u73, u74, u75, u76, u77, u78, u79, u80, u81, u82, u83, u84, u85, u86], []⟩) #[false, true, false, false, false, false, false, false, false] h1 d1 (any_of tab (by kernel_rfl)) (fun c a w z => hq c a _ _ w (by rw [d1] at z; exact z)) (Or.inl ⟨by simp [Region.wanted, g1], fun w' => ?_⟩) (by rfl) ?_
  · simp only [execOp, p1, Act.eval, Act.put]
    first | (go_simp; done) | (go_simp; rfl)
  refine pure_ (i := 5) (N := some 62) (v := .int .i64 ((m + 1 : Nat) : Int)) (a' := ⟨#[.slice A l.length c, .int .i64 ((m + 1 : Nat) : Int), .int .i64 zb, .pointer (some ⟨bw, 0, none⟩), .pointer (some ⟨bh, 0, none⟩), .pointer (some ⟨bm, 0, none⟩), .pointer (some ⟨bo, 0, none⟩), .pointer (some ⟨bf, 0, none⟩), u8, u9, u10, u11, u12, u13, u14, u15, u16, u17, u18, u19, u20, u21, u22, u23, u24, u25, u26, u27, u28, u29, u30, u31, u32, u33, u34, u35, u36, u37, u38, u39, u40, u41, u42, u43, u44, u45, u46, u47, u48, u49, u50, u51, u52, u53, u54, u55, u56, u57, .slice A l.length c, u59, u60, u61, .int .i64 ((m + 1 : Nat) : Int), u63, u64, u65, u66, u67, u68, u69, u70, u71, u72, u73, u74, u75, u76, u77, u78, u79, u80, u81, u82, u83, u84, u85, u86], []⟩) #[false, true, false, false, false, true, false, false, false] h5 d5 (any_of tab (by kernel_rfl)) (fun c a w z => hq c a _ _ w (by rw [d5] at z; exact z)) (Or.inl ⟨by simp [Region.wanted, g5], fun w' => ?_⟩) (by rfl) ?_
  · simp only [execOp, p5, Act.eval, Act.put]
    first | (go_simp; done) | (go_simp; rfl)
  refine pure_ (i := 6) (N := some 63) (v := .int .i64 (m : Int)) (a' := ⟨#[.slice A l.length c, .int .i64 ((m + 1 : Nat) : Int), .int .i64 zb, .pointer (some ⟨bw, 0, none⟩), .pointer (some ⟨bh, 0, none⟩), .pointer (some ⟨bm, 0, none⟩), .pointer (some ⟨bo, 0, none⟩), .pointer (some ⟨bf, 0, none⟩), u8, u9, u10, u11, u12, u13, u14, u15, u16, u17, u18, u19, u20, u21, u22, u23, u24, u25, u26, u27, u28, u29, u30, u31, u32, u33, u34, u35, u36, u37, u38, u39, u40, u41, u42, u43, u44, u45, u46, u47, u48, u49, u50, u51, u52, u53, u54, u55, u56, u57, .slice A l.length c, u59, u60, u61, .int .i64 ((m + 1 : Nat) : Int), .int .i64 (m : Int), u64, u65, u66, u67, u68, u69, u70, u71, u72, u73, u74, u75, u76, u77, u78, u79, u80, u81, u82, u83, u84, u85, u86], []⟩) #[false, true, false, false, false, true, true, false, false] h6 d6 (any_of tab (by kernel_rfl)) (fun c a w z => hq c a _ _ w (by rw [d6] at z; exact z)) (Or.inl ⟨by simp [Region.wanted, g6], fun w' => ?_⟩) (by rfl) ?_
  · simp only [execOp, p6, Act.eval, Act.put]
    go_simp
  refine pure_ (i := 7) (N := some 64) (v := .int .i64 zb) (a' := ⟨#[.slice A l.length c, .int .i64 ((m + 1 : Nat) : Int), .int .i64 zb, .pointer (some ⟨bw, 0, none⟩), .pointer (some ⟨bh, 0, none⟩), .pointer (some ⟨bm, 0, none⟩), .pointer (some ⟨bo, 0, none⟩), .pointer (some ⟨bf, 0, none⟩), u8, u9, u10, u11, u12, u13, u14, u15, u16, u17, u18, u19, u20, u21, u22, u23, u24, u25, u26, u27, u28, u29, u30, u31, u32, u33, u34, u35, u36, u37, u38, u39, u40, u41, u42, u43, u44, u45, u46, u47, u48, u49, u50, u51, u52, u53, u54, u55, u56, u57, .slice A l.length c, u59, u60, u61, .int .i64 ((m + 1 : Nat) : Int), .int .i64 (m : Int), .int .i64 zb, u65, u66, u67, u68, u69, u70, u71, u72, u73, u74, u75, u76, u77, u78, u79, u80, u81, u82, u83, u84, u85, u86], []⟩) #[false, true, false, false, false, true, true, true, false] h7 d7 (any_of tab (by kernel_rfl)) (fun c a w z => hq c a _ _ w (by rw [d7] at z; exact z)) (Or.inl ⟨by simp [Region.wanted, g7], fun w' => ?_⟩) (by rfl) ?_
  · simp only [execOp, p7, Act.eval, Act.put]
    first | (go_simp; done) | (go_simp; rfl)
  refine take_ (i := 0) (N := some 57) (v := clo bw bh bm bo bf) (a' := ⟨#[.slice A l.length c, .int .i64 ((m + 1 : Nat) : Int), .int .i64 zb, .pointer (some ⟨bw, 0, none⟩), .pointer (some ⟨bh, 0, none⟩), .pointer (some ⟨bm, 0, none⟩), .pointer (some ⟨bo, 0, none⟩), .pointer (some ⟨bf, 0, none⟩), u8, u9, u10, u11, u12, u13, u14, u15, u16, u17, u18, u19, u20, u21, u22, u23, u24, u25, u26, u27, u28, u29, u30, u31, u32, u33, u34, u35, u36, u37, u38, u39, u40, u41, u42, u43, u44, u45, u46, u47, u48, u49, u50, u51, u52, u53, u54, u55, u56, clo bw bh bm bo bf, .slice A l.length c, u59, u60, u61, .int .i64 ((m + 1 : Nat) : Int), .int .i64 (m : Int), .int .i64 zb, u65, u66, u67, u68, u69, u70, u71, u72, u73, u74, u75, u76, u77, u78, u79, u80, u81, u82, u83, u84, u85, u86], []⟩) #[true, true, false, false, false, true, true, true, false] h0 d0 (take_ofW tab R11.bits (by kernel_rfl)) (fun c a w z => hq c a _ _ w (by rw [d0] at z; exact z)) (Or.inl ⟨by simp [Region.wanted, g0], ?_⟩) hHeld (by rfl) ?_
  · intro w' hs
    have s0 := (hs.cell (p := ⟨bf, 0, none⟩) lf).trans cf
    simp only [execOp, p0, Act.eval, Act.put]
    first | (go_simp; done) | (go_simp; rfl)
  exact R11_0000 hP tab hq h0 d0 p0 g0 h1 d1 p1 g1 h2 d2 p2 g2 h3 d3 p3 g3 h4 d4 p4 g4 h5 d5 p5 g5 h6 d6 p6 g6 h7 d7 p7 g7 h8 d8 p8 g8 hl hw1 lf cf HC HF hQ _ hHeld
end
def R13.T : Bool × List (List Nat × List Nat) := (true, [([], []), ([], []), ([1], [1]), ([], []), ([2, 3, 2], [2, 3]), ([], []), ([], []), ([6], [6]), ([0, 4, 5, 7, 4], [0, 4, 5, 7])])
def R13.B : List Nat := [0, 0, 2, 0, 14, 0, 0, 64, 255]
theorem R13.tab : rtab .any (opsOf Try.f15 13) = R13.T := by kernel_rfl
theorem R13.bits : waitsOk R13.T.2 R13.B = true := by kernel_rfl
section
variable {P : Program} {ops : Array Oper} {Q : Exit → Act → World → Prop} (hP : P = Try.prog) (tab : rtab .any ops = R13.T) (hq : ∀ (c : List PanicEntry) (a : Act) (d : Tmp) (v : Value) (w : World), Q (.panic c) (a.put (some d) v) w → Q (.panic c) a w)
variable {o0 : Oper} (h0 : ops[0]? = some o0) (d0 : o0.dst = some 68) (p0 : o0.op = .load 38 (.tmp 7)) (g0 : o0.guard = none)
variable {o1 : Oper} (h1 : ops[1]? = some o1) (d1 : o1.dst = some 69) (p1 : o1.op = .move (.tmp 0)) (g1 : o1.guard = none)
variable {o2 : Oper} (h2 : ops[2]? = some o2) (d2 : o2.dst = some 70) (p2 : o2.op = .call { callee := .value (.func 18), args := #[.tmp 69], argTypes := #[32] }) (g2 : o2.guard = none)
variable {o3 : Oper} (h3 : ops[3]? = some o3) (d3 : o3.dst = some 71) (p3 : o3.op = .buildSlice 32 1 #[(0, .const (.int .u8 111))]) (g3 : o3.guard = none)
variable {o4 : Oper} (h4 : ops[4]? = some o4) (d4 : o4.dst = some 72) (p4 : o4.op = .call { callee := .builtin .append, args := #[.tmp 70, .tmp 71], argTypes := #[32, 32] }) (g4 : o4.guard = none)
variable {o5 : Oper} (h5 : ops[5]? = some o5) (d5 : o5.dst = some 73) (p5 : o5.op = .move (.tmp 1)) (g5 : o5.guard = none)
variable {o6 : Oper} (h6 : ops[6]? = some o6) (d6 : o6.dst = some 74) (p6 : o6.op = .move (.tmp 2)) (g6 : o6.guard = none)
variable {o7 : Oper} (h7 : ops[7]? = some o7) (d7 : o7.dst = some 75) (p7 : o7.op = .binOp .sub 3 (.tmp 74) (.const (.int .i64 1)) 3) (g7 : o7.guard = none)
variable {o8 : Oper} (h8 : ops[8]? = some o8) (d8 : o8.dst = some 76) (p8 : o8.op = .call { callee := .value (.tmp 68), args := #[.tmp 72, .tmp 73, .tmp 75], argTypes := #[32, 3, 3] }) (g8 : o8.guard = none)
variable {u0 u1 u2 u3 u4 u5 u6 u7 u8 u9 u10 u11 u12 u13 u14 u15 u16 u17 u18 u19 u20 u21 u22 u23 u24 u25 u26 u27 u28 u29 u30 u31 u32 u33 u34 u35 u36 u37 u38 u39 u40 u41 u42 u43 u44 u45 u46 u47 u48 u49 u50 u51 u52 u53 u54 u55 u56 u57 u58 u59 u60 u61 u62 u63 u64 u65 u66 u67 u68 u69 u70 u71 u72 u73 u74 u75 u76 u77 u78 u79 u80 u81 u82 u83 u84 u85 u86 : Value}
variable {bw bh bm bo bf c m : Nat} {za zb : Int} {A : Option Addr} {w0 : World} {l : List Int} {Post : World → Prop}
variable (hl : l.length ≤ 1000000) (hw1 : IntKind.i64.wrap (m : Int) = (m : Int)) (lf : bf < w0.heap.size) (cf : w0.cell? ⟨bf, 0, none⟩ = some (clo bw bh bm bo bf))
variable (HC : ∀ W, Below w0.heap.size w0 W → Calls Try.prog 18 #[.slice A l.length c] W fun e w' => ∃ v0_ : Value, e = .returned v0_ ∧ Kd.R (Kd.int .u8) 5 w' W.heap.size (fun _ => True) v0_ l ∧ Below W.heap.size W w')
variable (HF : ∀ (W : World) (V : Value), Below w0.heap.size w0 W → W.ownsRow w0.heap.size 5 1 V (l.length + 1) (u8s (l ++ [111])) → Calls Try.prog 15 #[V, .int .i64 za, .int .i64 (m : Int), .pointer (some ⟨bw, 0, none⟩), .pointer (some ⟨bh, 0, none⟩), .pointer (some ⟨bm, 0, none⟩), .pointer (some ⟨bo, 0, none⟩), .pointer (some ⟨bf, 0, none⟩)] W fun e W' => e = .returned (.tuple #[]) ∧ Post W')
variable (hQ : ∀ (x1 x2 x3 : Value) (W' : World), Post W' → Q .normal ⟨#[.slice A l.length c, .int .i64 za, .int .i64 ((m + 1 : Nat) : Int), .pointer (some ⟨bw, 0, none⟩), .pointer (some ⟨bh, 0, none⟩), .pointer (some ⟨bm, 0, none⟩), .pointer (some ⟨bo, 0, none⟩), .pointer (some ⟨bf, 0, none⟩), u8, u9, u10, u11, u12, u13, u14, u15, u16, u17, u18, u19, u20, u21, u22, u23, u24, u25, u26, u27, u28, u29, u30, u31, u32, u33, u34, u35, u36, u37, u38, u39, u40, u41, u42, u43, u44, u45, u46, u47, u48, u49, u50, u51, u52, u53, u54, u55, u56, u57, u58, u59, u60, u61, u62, u63, u64, u65, u66, u67, clo bw bh bm bo bf, .slice A l.length c, x1, x2, x3, .int .i64 za, .int .i64 ((m + 1 : Nat) : Int), .int .i64 (m : Int), .tuple #[], u77, u78, u79, u80, u81, u82, u83, u84, u85, u86], []⟩ W')
include hP tab hq h0 d0 p0 g0 h1 d1 p1 g1 h2 d2 p2 g2 h3 d3 p3 g3 h4 d4 p4 g4 h5 d5 p5 g5 h6 d6 p6 g6 h7 d7 p7 g7 h8 d8 p8 g8 hl hw1 lf cf HC HF hQ
set_option maxRecDepth 100000 in
set_option maxHeartbeats 2000000 in
theorem R13_1111 (W : World) (V0 : Value) (gA : Nat) (V1 : Value) (hP' : Post W) : wpAnyLast P .any ops Q (fun w' => Below w0.heap.size w0 w') [8] 0 #[true, true, true, true, true, true, true, true, true] ⟨#[.slice A l.length c, .int .i64 za, .int .i64 ((m + 1 : Nat) : Int), .pointer (some ⟨bw, 0, none⟩), .pointer (some ⟨bh, 0, none⟩), .pointer (some ⟨bm, 0, none⟩), .pointer (some ⟨bo, 0, none⟩), .pointer (some ⟨bf, 0, none⟩), u8, u9, u10, u11, u12, u13, u14, u15, u16, u17, u18, u19, u20, u21, u22, u23, u24, u25, u26, u27, u28, u29, u30, u31, u32, u33, u34, u35, u36, u37, u38, u39, u40, u41, u42, u43, u44, u45, u46, u47, u48, u49, u50, u51, u52, u53, u54, u55, u56, u57, u58, u59, u60, u61, u62, u63, u64, u65, u66, u67, clo bw bh bm bo bf, .slice A l.length c, V0, .slice (some ⟨gA, 0, none⟩) 1 1, V1, .int .i64 za, .int .i64 ((m + 1 : Nat) : Int), .int .i64 (m : Int), .tuple #[], u77, u78, u79, u80, u81, u82, u83, u84, u85, u86], []⟩ W := by
  refine done_ (done_of tab (by kernel_rfl)) ?_
  exact hQ _ _ _ W hP'
set_option maxRecDepth 100000 in
set_option maxHeartbeats 2000000 in
theorem R13_1110 (W : World) (V0 : Value) (gA : Nat) (V1 : Value) (hS : (fun w' => Below w0.heap.size w0 w') W) (h1' : W.ownsRow w0.heap.size 5 1 V1 (l.length + 1) (u8s (l ++ [111]))) : wpAnyLast P .any ops Q (fun w' => Below w0.heap.size w0 w') [8] 1 #[true, true, true, true, true, true, true, true, false] ⟨#[.slice A l.length c, .int .i64 za, .int .i64 ((m + 1 : Nat) : Int), .pointer (some ⟨bw, 0, none⟩), .pointer (some ⟨bh, 0, none⟩), .pointer (some ⟨bm, 0, none⟩), .pointer (some ⟨bo, 0, none⟩), .pointer (some ⟨bf, 0, none⟩), u8, u9, u10, u11, u12, u13, u14, u15, u16, u17, u18, u19, u20, u21, u22, u23, u24, u25, u26, u27, u28, u29, u30, u31, u32, u33, u34, u35, u36, u37, u38, u39, u40, u41, u42, u43, u44, u45, u46, u47, u48, u49, u50, u51, u52, u53, u54, u55, u56, u57, u58, u59, u60, u61, u62, u63, u64, u65, u66, u67, clo bw bh bm bo bf, .slice A l.length c, V0, .slice (some ⟨gA, 0, none⟩) 1 1, V1, .int .i64 za, .int .i64 ((m + 1 : Nat) : Int), .int .i64 (m : Int), u76, u77, u78, u79, u80, u81, u82, u83, u84, u85, u86], []⟩ W := by
  refine last_ (i := 8) (N := some 76) #[true, true, true, true, true, true, true, true, true] h8 d8 (one_of tab (by kernel_rfl)) (by decide) (fun K hK => ?_)
  · -- 8
    subst hP
    refine call_ 15 #[V1, .int .i64 za, .int .i64 (m : Int), .pointer (some ⟨bw, 0, none⟩), .pointer (some ⟨bh, 0, none⟩), .pointer (some ⟨bm, 0, none⟩), .pointer (some ⟨bo, 0, none⟩), .pointer (some ⟨bf, 0, none⟩)] (by simp [Region.wanted, g8]) d8 (by have he := enters_ (P := Try.prog) Try.func15 (by kernel_rfl) rfl #[V1, .int .i64 za, .int .i64 (m : Int), .pointer (some ⟨bw, 0, none⟩), .pointer (some ⟨bh, 0, none⟩), .pointer (some ⟨bm, 0, none⟩), .pointer (some ⟨bo, 0, none⟩), .pointer (some ⟨bf, 0, none⟩)] W; unfold execOp; simp [p8, resolve, Deferred.ofValue, invoke, Act.eval, he]) ?_
    refine (HF W V1 hS h1').mono ?_
    rintro e W' ⟨rfl, hPost⟩
    refine ⟨_, rfl, ?_⟩
    refine hK.out _ _ ?_
    clear hK K
    refine norm_ (a' := ⟨#[.slice A l.length c, .int .i64 za, .int .i64 ((m + 1 : Nat) : Int), .pointer (some ⟨bw, 0, none⟩), .pointer (some ⟨bh, 0, none⟩), .pointer (some ⟨bm, 0, none⟩), .pointer (some ⟨bo, 0, none⟩), .pointer (some ⟨bf, 0, none⟩), u8, u9, u10, u11, u12, u13, u14, u15, u16, u17, u18, u19, u20, u21, u22, u23, u24, u25, u26, u27, u28, u29, u30, u31, u32, u33, u34, u35, u36, u37, u38, u39, u40, u41, u42, u43, u44, u45, u46, u47, u48, u49, u50, u51, u52, u53, u54, u55, u56, u57, u58, u59, u60, u61, u62, u63, u64, u65, u66, u67, clo bw bh bm bo bf, .slice A l.length c, V0, .slice (some ⟨gA, 0, none⟩) 1 1, V1, .int .i64 za, .int .i64 ((m + 1 : Nat) : Int), .int .i64 (m : Int), .tuple #[], u77, u78, u79, u80, u81, u82, u83, u84, u85, u86], []⟩) (by rfl) ?_
    exact R13_1111 rfl tab hq h0 d0 p0 g0 h1 d1 p1 g1 h2 d2 p2 g2 h3 d3 p3 g3 h4 d4 p4 g4 h5 d5 p5 g5 h6 d6 p6 g6 h7 d7 p7 g7 h8 d8 p8 g8 hl hw1 lf cf HC HF hQ W' V0 gA V1 hPost
set_option maxRecDepth 100000 in
set_option maxHeartbeats 2000000 in
theorem R13_1100 (W : World) (V0 : Value) (gA : Nat) (hS : (fun w' => Below w0.heap.size w0 w') W) (h0' : W.ownsRow w0.heap.size 5 1 V0 l.length (u8s l)) (bA : W.heap[gA]? = some (.cells #[.int .u8 111] 5 (0, 0))) : wpAnyLast P .any ops Q (fun w' => Below w0.heap.size w0 w') [8] 2 #[true, true, true, true, false, true, true, true, false] ⟨#[.slice A l.length c, .int .i64 za, .int .i64 ((m + 1 : Nat) : Int), .pointer (some ⟨bw, 0, none⟩), .pointer (some ⟨bh, 0, none⟩), .pointer (some ⟨bm, 0, none⟩), .pointer (some ⟨bo, 0, none⟩), .pointer (some ⟨bf, 0, none⟩), u8, u9, u10, u11, u12, u13, u14, u15, u16, u17, u18, u19, u20, u21, u22, u23, u24, u25, u26, u27, u28, u29, u30, u31, u32, u33, u34, u35, u36, u37, u38, u39, u40, u41, u42, u43, u44, u45, u46, u47, u48, u49, u50, u51, u52, u53, u54, u55, u56, u57, u58, u59, u60, u61, u62, u63, u64, u65, u66, u67, clo bw bh bm bo bf, .slice A l.length c, V0, .slice (some ⟨gA, 0, none⟩) 1 1, u72, .int .i64 za, .int .i64 ((m + 1 : Nat) : Int), .int .i64 (m : Int), u76, u77, u78, u79, u80, u81, u82, u83, u84, u85, u86], []⟩ W := by
  refine one_ (i := 4) (N := some 72) #[true, true, true, true, true, true, true, true, false] h4 d4 (one_of tab (by kernel_rfl)) (by decide) (fun K hK => ?_)
  · -- 4
    obtain ⟨i0, hi0, hz0, hz1, hz2⟩ := info_parts infoU
    subst hP
    refine step_append_keep W g4 _ _ _ p4 w0.heap.size 5 i0 _ 1 1 Try.underlying32 hi0 hz0 hz1 hz2 rfl (by omega) V0 l.length (u8s l) (by rfl) h0' ⟨gA, 0, none⟩ 1 1 [.int .u8 111] (by rfl) (by rfl) (cells_of bA) (by simp [Value.oneCell']) (by omega) (by simp only [maxLen]; omega) (by omega) hS.size ?_
    intro V1 W' hown' hg hat hold
    have hB' := below_grown hS (own_base h0') hg
    have hN : W'.ownsRow w0.heap.size 5 1 V1 (l.length + 1) (u8s (l ++ [111])) := by rw [u8s_app]; exact hown'
    rw [d4]
    refine hK.out _ _ hB' (fun hHeld => ?_)
    clear hK K
    refine norm_ (a' := ⟨#[.slice A l.length c, .int .i64 za, .int .i64 ((m + 1 : Nat) : Int), .pointer (some ⟨bw, 0, none⟩), .pointer (some ⟨bh, 0, none⟩), .pointer (some ⟨bm, 0, none⟩), .pointer (some ⟨bo, 0, none⟩), .pointer (some ⟨bf, 0, none⟩), u8, u9, u10, u11, u12, u13, u14, u15, u16, u17, u18, u19, u20, u21, u22, u23, u24, u25, u26, u27, u28, u29, u30, u31, u32, u33, u34, u35, u36, u37, u38, u39, u40, u41, u42, u43, u44, u45, u46, u47, u48, u49, u50, u51, u52, u53, u54, u55, u56, u57, u58, u59, u60, u61, u62, u63, u64, u65, u66, u67, clo bw bh bm bo bf, .slice A l.length c, V0, .slice (some ⟨gA, 0, none⟩) 1 1, V1, .int .i64 za, .int .i64 ((m + 1 : Nat) : Int), .int .i64 (m : Int), u76, u77, u78, u79, u80, u81, u82, u83, u84, u85, u86], []⟩) (by rfl) ?_
    exact R13_1110 rfl tab hq h0 d0 p0 g0 h1 d1 p1 g1 h2 d2 p2 g2 h3 d3 p3 g3 h4 d4 p4 g4 h5 d5 p5 g5 h6 d6 p6 g6 h7 d7 p7 g7 h8 d8 p8 g8 hl hw1 lf cf HC HF hQ W' V0 gA V1 hHeld hN
set_option maxRecDepth 100000 in
set_option maxHeartbeats 2000000 in
theorem R13_1000 (W : World) (V0 : Value) (hS : (fun w' => Below w0.heap.size w0 w') W) (h0' : W.ownsRow w0.heap.size 5 1 V0 l.length (u8s l)) : wpAnyLast P .any ops Q (fun w' => Below w0.heap.size w0 w') [8] 3 #[true, true, true, false, false, true, true, true, false] ⟨#[.slice A l.length c, .int .i64 za, .int .i64 ((m + 1 : Nat) : Int), .pointer (some ⟨bw, 0, none⟩), .pointer (some ⟨bh, 0, none⟩), .pointer (some ⟨bm, 0, none⟩), .pointer (some ⟨bo, 0, none⟩), .pointer (some ⟨bf, 0, none⟩), u8, u9, u10, u11, u12, u13, u14, u15, u16, u17, u18, u19, u20, u21, u22, u23, u24, u25, u26, u27, u28, u29, u30, u31, u32, u33, u34, u35, u36, u37, u38, u39, u40, u41, u42, u43, u44, u45, u46, u47, u48, u49, u50, u51, u52, u53, u54, u55, u56, u57, u58, u59, u60, u61, u62, u63, u64, u65, u66, u67, clo bw bh bm bo bf, .slice A l.length c, V0, u71, u72, .int .i64 za, .int .i64 ((m + 1 : Nat) : Int), .int .i64 (m : Int), u76, u77, u78, u79, u80, u81, u82, u83, u84, u85, u86], []⟩ W := by
  refine one_ (i := 3) (N := some 71) #[true, true, true, true, false, true, true, true, false] h3 d3 (one_of tab (by kernel_rfl)) (by decide) (fun K hK => ?_)
  · -- 3
    refine run_step (v := .slice (some ⟨W.heap.size, 0, none⟩) 1 1) (w1 := W.alloc (.cells #[.int .u8 111] 5)) g3 d3 (by simp only [execOp, p3, Act.eval]; subst hP; first | (go_simp; done) | (go_simp; rfl)) ?_
    have hB := (Below.refl W.heap.size W).alloc (Nat.le_refl _) (.cells #[.int .u8 111] 5)
    have bN := (Go.MapKept.heap_alloc W (.cells #[.int .u8 111] 5)).1
    refine hK.out _ _ (hS.trans (hB.mono hS.size)) (fun hHeld => ?_)
    clear hK K
    refine norm_ (a' := ⟨#[.slice A l.length c, .int .i64 za, .int .i64 ((m + 1 : Nat) : Int), .pointer (some ⟨bw, 0, none⟩), .pointer (some ⟨bh, 0, none⟩), .pointer (some ⟨bm, 0, none⟩), .pointer (some ⟨bo, 0, none⟩), .pointer (some ⟨bf, 0, none⟩), u8, u9, u10, u11, u12, u13, u14, u15, u16, u17, u18, u19, u20, u21, u22, u23, u24, u25, u26, u27, u28, u29, u30, u31, u32, u33, u34, u35, u36, u37, u38, u39, u40, u41, u42, u43, u44, u45, u46, u47, u48, u49, u50, u51, u52, u53, u54, u55, u56, u57, u58, u59, u60, u61, u62, u63, u64, u65, u66, u67, clo bw bh bm bo bf, .slice A l.length c, V0, .slice (some ⟨W.heap.size, 0, none⟩) 1 1, u72, .int .i64 za, .int .i64 ((m + 1 : Nat) : Int), .int .i64 (m : Int), u76, u77, u78, u79, u80, u81, u82, u83, u84, u85, u86], []⟩) (by rfl) ?_
    exact R13_1100 hP tab hq h0 d0 p0 g0 h1 d1 p1 g1 h2 d2 p2 g2 h3 d3 p3 g3 h4 d4 p4 g4 h5 d5 p5 g5 h6 d6 p6 g6 h7 d7 p7 g7 h8 d8 p8 g8 hl hw1 lf cf HC HF hQ _ V0 _ hHeld (own_move h0' (fun k hk => hB.block k (own_lt h0' k hk))) bN
set_option maxRecDepth 100000 in
set_option maxHeartbeats 2000000 in
theorem R13_0100 (W : World) (gA : Nat) (hS : (fun w' => Below w0.heap.size w0 w') W) (bA : W.heap[gA]? = some (.cells #[.int .u8 111] 5 (0, 0))) : wpAnyLast P .any ops Q (fun w' => Below w0.heap.size w0 w') [8] 3 #[true, true, false, true, false, true, true, true, false] ⟨#[.slice A l.length c, .int .i64 za, .int .i64 ((m + 1 : Nat) : Int), .pointer (some ⟨bw, 0, none⟩), .pointer (some ⟨bh, 0, none⟩), .pointer (some ⟨bm, 0, none⟩), .pointer (some ⟨bo, 0, none⟩), .pointer (some ⟨bf, 0, none⟩), u8, u9, u10, u11, u12, u13, u14, u15, u16, u17, u18, u19, u20, u21, u22, u23, u24, u25, u26, u27, u28, u29, u30, u31, u32, u33, u34, u35, u36, u37, u38, u39, u40, u41, u42, u43, u44, u45, u46, u47, u48, u49, u50, u51, u52, u53, u54, u55, u56, u57, u58, u59, u60, u61, u62, u63, u64, u65, u66, u67, clo bw bh bm bo bf, .slice A l.length c, u70, .slice (some ⟨gA, 0, none⟩) 1 1, u72, .int .i64 za, .int .i64 ((m + 1 : Nat) : Int), .int .i64 (m : Int), u76, u77, u78, u79, u80, u81, u82, u83, u84, u85, u86], []⟩ W := by
  refine one_ (i := 2) (N := some 70) #[true, true, true, true, false, true, true, true, false] h2 d2 (one_of tab (by kernel_rfl)) (by decide) (fun K hK => ?_)
  · -- 2
    subst hP
    refine goes_ Try.func18 (by kernel_rfl) rfl #[.slice A l.length c] (by simp [Region.wanted, g2]) d2 p2 (by simp [Act.eval]) ?_
    refine (HC W hS).mono ?_
    rintro e W' ⟨V0, rfl, hR, hB⟩
    refine ⟨_, rfl, ?_⟩
    have hN : W'.ownsRow w0.heap.size 5 1 V0 l.length (u8s l) := own_weaken (Kd.own_of_R hR) hS.size
    refine hK.out _ _ (hS.trans (hB.mono hS.size)) (fun hHeld => ?_)
    clear hK K
    refine norm_ (a' := ⟨#[.slice A l.length c, .int .i64 za, .int .i64 ((m + 1 : Nat) : Int), .pointer (some ⟨bw, 0, none⟩), .pointer (some ⟨bh, 0, none⟩), .pointer (some ⟨bm, 0, none⟩), .pointer (some ⟨bo, 0, none⟩), .pointer (some ⟨bf, 0, none⟩), u8, u9, u10, u11, u12, u13, u14, u15, u16, u17, u18, u19, u20, u21, u22, u23, u24, u25, u26, u27, u28, u29, u30, u31, u32, u33, u34, u35, u36, u37, u38, u39, u40, u41, u42, u43, u44, u45, u46, u47, u48, u49, u50, u51, u52, u53, u54, u55, u56, u57, u58, u59, u60, u61, u62, u63, u64, u65, u66, u67, clo bw bh bm bo bf, .slice A l.length c, V0, .slice (some ⟨gA, 0, none⟩) 1 1, u72, .int .i64 za, .int .i64 ((m + 1 : Nat) : Int), .int .i64 (m : Int), u76, u77, u78, u79, u80, u81, u82, u83, u84, u85, u86], []⟩) (by rfl) ?_
    exact R13_1100 rfl tab hq h0 d0 p0 g0 h1 d1 p1 g1 h2 d2 p2 g2 h3 d3 p3 g3 h4 d4 p4 g4 h5 d5 p5 g5 h6 d6 p6 g6 h7 d7 p7 g7 h8 d8 p8 g8 hl hw1 lf cf HC HF hQ W' V0 gA hHeld hN ((hB.block _ (lt_of bA)).trans bA)
set_option maxRecDepth 100000 in
set_option maxHeartbeats 2000000 in
theorem R13_0000 (W : World) (hS : (fun w' => Below w0.heap.size w0 w') W) : wpAnyLast P .any ops Q (fun w' => Below w0.heap.size w0 w') [8] 4 #[true, true, false, false, false, true, true, true, false] ⟨#[.slice A l.length c, .int .i64 za, .int .i64 ((m + 1 : Nat) : Int), .pointer (some ⟨bw, 0, none⟩), .pointer (some ⟨bh, 0, none⟩), .pointer (some ⟨bm, 0, none⟩), .pointer (some ⟨bo, 0, none⟩), .pointer (some ⟨bf, 0, none⟩), u8, u9, u10, u11, u12, u13, u14, u15, u16, u17, u18, u19, u20, u21, u22, u23, u24, u25, u26, u27, u28, u29, u30, u31, u32, u33, u34, u35, u36, u37, u38, u39, u40, u41, u42, u43, u44, u45, u46, u47, u48, u49, u50, u51, u52, u53, u54, u55, u56, u57, u58, u59, u60, u61, u62, u63, u64, u65, u66, u67, clo bw bh bm bo bf, .slice A l.length c, u70, u71, u72, .int .i64 za, .int .i64 ((m + 1 : Nat) : Int), .int .i64 (m : Int), u76, u77, u78, u79, u80, u81, u82, u83, u84, u85, u86], []⟩ W := by
  refine two_ #[true, true, true, false, false, true, true, true, false] #[true, true, false, true, false, true, true, true, false] h2 h3 d2 d3  (two_of tab (by kernel_rfl)) (by decide) (by decide) (fun K hK => ?_) (fun K hK => ?_)
  · -- 2
    subst hP
    refine goes_ Try.func18 (by kernel_rfl) rfl #[.slice A l.length c] (by simp [Region.wanted, g2]) d2 p2 (by simp [Act.eval]) ?_
    refine (HC W hS).mono ?_
    rintro e W' ⟨V0, rfl, hR, hB⟩
    refine ⟨_, rfl, ?_⟩
    have hN : W'.ownsRow w0.heap.size 5 1 V0 l.length (u8s l) := own_weaken (Kd.own_of_R hR) hS.size
    refine hK.out _ _ (hS.trans (hB.mono hS.size)) (fun hHeld => ?_)
    clear hK K
    refine norm_ (a' := ⟨#[.slice A l.length c, .int .i64 za, .int .i64 ((m + 1 : Nat) : Int), .pointer (some ⟨bw, 0, none⟩), .pointer (some ⟨bh, 0, none⟩), .pointer (some ⟨bm, 0, none⟩), .pointer (some ⟨bo, 0, none⟩), .pointer (some ⟨bf, 0, none⟩), u8, u9, u10, u11, u12, u13, u14, u15, u16, u17, u18, u19, u20, u21, u22, u23, u24, u25, u26, u27, u28, u29, u30, u31, u32, u33, u34, u35, u36, u37, u38, u39, u40, u41, u42, u43, u44, u45, u46, u47, u48, u49, u50, u51, u52, u53, u54, u55, u56, u57, u58, u59, u60, u61, u62, u63, u64, u65, u66, u67, clo bw bh bm bo bf, .slice A l.length c, V0, u71, u72, .int .i64 za, .int .i64 ((m + 1 : Nat) : Int), .int .i64 (m : Int), u76, u77, u78, u79, u80, u81, u82, u83, u84, u85, u86], []⟩) (by rfl) ?_
    exact R13_1000 rfl tab hq h0 d0 p0 g0 h1 d1 p1 g1 h2 d2 p2 g2 h3 d3 p3 g3 h4 d4 p4 g4 h5 d5 p5 g5 h6 d6 p6 g6 h7 d7 p7 g7 h8 d8 p8 g8 hl hw1 lf cf HC HF hQ W' V0 hHeld hN
  · -- 3
    refine run_step (v := .slice (some ⟨W.heap.size, 0, none⟩) 1 1) (w1 := W.alloc (.cells #[.int .u8 111] 5)) g3 d3 (by simp only [execOp, p3, Act.eval]; subst hP; first | (go_simp; done) | (go_simp; rfl)) ?_
    have hB := (Below.refl W.heap.size W).alloc (Nat.le_refl _) (.cells #[.int .u8 111] 5)
    have bN := (Go.MapKept.heap_alloc W (.cells #[.int .u8 111] 5)).1
    refine hK.out _ _ (hS.trans (hB.mono hS.size)) (fun hHeld => ?_)
    clear hK K
    refine norm_ (a' := ⟨#[.slice A l.length c, .int .i64 za, .int .i64 ((m + 1 : Nat) : Int), .pointer (some ⟨bw, 0, none⟩), .pointer (some ⟨bh, 0, none⟩), .pointer (some ⟨bm, 0, none⟩), .pointer (some ⟨bo, 0, none⟩), .pointer (some ⟨bf, 0, none⟩), u8, u9, u10, u11, u12, u13, u14, u15, u16, u17, u18, u19, u20, u21, u22, u23, u24, u25, u26, u27, u28, u29, u30, u31, u32, u33, u34, u35, u36, u37, u38, u39, u40, u41, u42, u43, u44, u45, u46, u47, u48, u49, u50, u51, u52, u53, u54, u55, u56, u57, u58, u59, u60, u61, u62, u63, u64, u65, u66, u67, clo bw bh bm bo bf, .slice A l.length c, u70, .slice (some ⟨W.heap.size, 0, none⟩) 1 1, u72, .int .i64 za, .int .i64 ((m + 1 : Nat) : Int), .int .i64 (m : Int), u76, u77, u78, u79, u80, u81, u82, u83, u84, u85, u86], []⟩) (by rfl) ?_
    exact R13_0100 hP tab hq h0 d0 p0 g0 h1 d1 p1 g1 h2 d2 p2 g2 h3 d3 p3 g3 h4 d4 p4 g4 h5 d5 p5 g5 h6 d6 p6 g6 h7 d7 p7 g7 h8 d8 p8 g8 hl hw1 lf cf HC HF hQ _ _ hHeld bN
set_option maxRecDepth 100000 in
set_option maxHeartbeats 2000000 in
theorem R13_region {id : Nat} (hsize : ops.size = 9)  : (Code.region id ops true).wp P Q ⟨#[.slice A l.length c, .int .i64 za, .int .i64 ((m + 1 : Nat) : Int), .pointer (some ⟨bw, 0, none⟩), .pointer (some ⟨bh, 0, none⟩), .pointer (some ⟨bm, 0, none⟩), .pointer (some ⟨bo, 0, none⟩), .pointer (some ⟨bf, 0, none⟩), u8, u9, u10, u11, u12, u13, u14, u15, u16, u17, u18, u19, u20, u21, u22, u23, u24, u25, u26, u27, u28, u29, u30, u31, u32, u33, u34, u35, u36, u37, u38, u39, u40, u41, u42, u43, u44, u45, u46, u47, u48, u49, u50, u51, u52, u53, u54, u55, u56, u57, u58, u59, u60, u61, u62, u63, u64, u65, u66, u67, u68, u69, u70, u71, u72, u73, u74, u75, u76, u77, u78, u79, u80, u81, u82, u83, u84, u85, u86], []⟩ w0 := by
  refine start_ (n := 9) (S := (fun w' => Below w0.heap.size w0 w')) (ds := [8]) #[false, false, false, false, false, false, false, false, false] (by rw [hP]; kernel_rfl) hsize rfl (below_drew (Below.refl _ w0)) (fun hHeld => ?_)
  refine pure_ (i := 1) (N := some 69) (v := .slice A l.length c) (a' := ⟨#[.slice A l.length c, .int .i64 za, .int .i64 ((m + 1 : Nat) : Int), .pointer (some ⟨bw, 0, none⟩), .pointer (some ⟨bh, 0, none⟩), .pointer (some ⟨bm, 0, none⟩), .pointer (some ⟨bo, 0, none⟩), .pointer (some ⟨bf, 0, none⟩), u8, u9, u10, u11, u12, u13, u14, u15, u16, u17, u18, u19, u20, u21, u22, u23, u24, u25, u26, u27, u28, u29, u30, u31, u32, u33, u34, u35, u36, u37, u38, u39, u40, u41, u42, u43, u44, u45, u46, u47, u48, u49, u50, u51, u52, u53, u54, u55, u56, u57, u58, u59, u60, u61, u62, u63, u64, u65, u66, u67, u68, .slice A l.length c, u70, u71, u72, u73, u74, u75, u76, u77, u78, u79, u80, u81, u82, u83, u84, u85, u86], []⟩) #[false, true, false, false, false, false, false, false, false] h1 d1 (any_of tab (by kernel_rfl)) (fun c a w z => hq c a _ _ w (by rw [d1] at z; exact z)) (Or.inl ⟨by simp [Region.wanted, g1], fun w' => ?_⟩) (by rfl) ?_
  · simp only [execOp, p1, Act.eval, Act.put]
    first | (go_simp; done) | (go_simp; rfl)
  refine pure_ (i := 5) (N := some 73) (v := .int .i64 za) (a' := ⟨#[.slice A l.length c, .int .i64 za, .int .i64 ((m + 1 : Nat) : Int), .pointer (some ⟨bw, 0, none⟩), .pointer (some ⟨bh, 0, none⟩), .pointer (some ⟨bm, 0, none⟩), .pointer (some ⟨bo, 0, none⟩), .pointer (some ⟨bf, 0, none⟩), u8, u9, u10, u11, u12, u13, u14, u15, u16, u17, u18, u19, u20, u21, u22, u23, u24, u25, u26, u27, u28, u29, u30, u31, u32, u33, u34, u35, u36, u37, u38, u39, u40, u41, u42, u43, u44, u45, u46, u47, u48, u49, u50, u51, u52, u53, u54, u55, u56, u57, u58, u59, u60, u61, u62, u63, u64, u65, u66, u67, u68, .slice A l.length c, u70, u71, u72, .int .i64 za, u74, u75, u76, u77, u78, u79, u80, u81, u82, u83, u84, u85, u86], []⟩) #[false, true, false, false, false, true, false, false, false] h5 d5 (any_of tab (by kernel_rfl)) (fun c a w z => hq c a _ _ w (by rw [d5] at z; exact z)) (Or.inl ⟨by simp [Region.wanted, g5], fun w' => ?_⟩) (by rfl) ?_
  · simp only [execOp, p5, Act.eval, Act.put]
    first | (go_simp; done) | (go_simp; rfl)
  refine pure_ (i := 6) (N := some 74) (v := .int .i64 ((m + 1 : Nat) : Int)) (a' := ⟨#[.slice A l.length c, .int .i64 za, .int .i64 ((m + 1 : Nat) : Int), .pointer (some ⟨bw, 0, none⟩), .pointer (some ⟨bh, 0, none⟩), .pointer (some ⟨bm, 0, none⟩), .pointer (some ⟨bo, 0, none⟩), .pointer (some ⟨bf, 0, none⟩), u8, u9, u10, u11, u12, u13, u14, u15, u16, u17, u18, u19, u20, u21, u22, u23, u24, u25, u26, u27, u28, u29, u30, u31, u32, u33, u34, u35, u36, u37, u38, u39, u40, u41, u42, u43, u44, u45, u46, u47, u48, u49, u50, u51, u52, u53, u54, u55, u56, u57, u58, u59, u60, u61, u62, u63, u64, u65, u66, u67, u68, .slice A l.length c, u70, u71, u72, .int .i64 za, .int .i64 ((m + 1 : Nat) : Int), u75, u76, u77, u78, u79, u80, u81, u82, u83, u84, u85, u86], []⟩) #[false, true, false, false, false, true, true, false, false] h6 d6 (any_of tab (by kernel_rfl)) (fun c a w z => hq c a _ _ w (by rw [d6] at z; exact z)) (Or.inl ⟨by simp [Region.wanted, g6], fun w' => ?_⟩) (by rfl) ?_
  · simp only [execOp, p6, Act.eval, Act.put]
    first | (go_simp; done) | (go_simp; rfl)
  refine pure_ (i := 7) (N := some 75) (v := .int .i64 (m : Int)) (a' := ⟨#[.slice A l.length c, .int .i64 za, .int .i64 ((m + 1 : Nat) : Int), .pointer (some ⟨bw, 0, none⟩), .pointer (some ⟨bh, 0, none⟩), .pointer (some ⟨bm, 0, none⟩), .pointer (some ⟨bo, 0, none⟩), .pointer (some ⟨bf, 0, none⟩), u8, u9, u10, u11, u12, u13, u14, u15, u16, u17, u18, u19, u20, u21, u22, u23, u24, u25, u26, u27, u28, u29, u30, u31, u32, u33, u34, u35, u36, u37, u38, u39, u40, u41, u42, u43, u44, u45, u46, u47, u48, u49, u50, u51, u52, u53, u54, u55, u56, u57, u58, u59, u60, u61, u62, u63, u64, u65, u66, u67, u68, .slice A l.length c, u70, u71, u72, .int .i64 za, .int .i64 ((m + 1 : Nat) : Int), .int .i64 (m : Int), u76, u77, u78, u79, u80, u81, u82, u83, u84, u85, u86], []⟩) #[false, true, false, false, false, true, true, true, false] h7 d7 (any_of tab (by kernel_rfl)) (fun c a w z => hq c a _ _ w (by rw [d7] at z; exact z)) (Or.inl ⟨by simp [Region.wanted, g7], fun w' => ?_⟩) (by rfl) ?_
  · simp only [execOp, p7, Act.eval, Act.put]
    go_simp
  refine take_ (i := 0) (N := some 68) (v := clo bw bh bm bo bf) (a' := ⟨#[.slice A l.length c, .int .i64 za, .int .i64 ((m + 1 : Nat) : Int), .pointer (some ⟨bw, 0, none⟩), .pointer (some ⟨bh, 0, none⟩), .pointer (some ⟨bm, 0, none⟩), .pointer (some ⟨bo, 0, none⟩), .pointer (some ⟨bf, 0, none⟩), u8, u9, u10, u11, u12, u13, u14, u15, u16, u17, u18, u19, u20, u21, u22, u23, u24, u25, u26, u27, u28, u29, u30, u31, u32, u33, u34, u35, u36, u37, u38, u39, u40, u41, u42, u43, u44, u45, u46, u47, u48, u49, u50, u51, u52, u53, u54, u55, u56, u57, u58, u59, u60, u61, u62, u63, u64, u65, u66, u67, clo bw bh bm bo bf, .slice A l.length c, u70, u71, u72, .int .i64 za, .int .i64 ((m + 1 : Nat) : Int), .int .i64 (m : Int), u76, u77, u78, u79, u80, u81, u82, u83, u84, u85, u86], []⟩) #[true, true, false, false, false, true, true, true, false] h0 d0 (take_ofW tab R13.bits (by kernel_rfl)) (fun c a w z => hq c a _ _ w (by rw [d0] at z; exact z)) (Or.inl ⟨by simp [Region.wanted, g0], ?_⟩) hHeld (by rfl) ?_
  · intro w' hs
    have s0 := (hs.cell (p := ⟨bf, 0, none⟩) lf).trans cf
    simp only [execOp, p0, Act.eval, Act.put]
    first | (go_simp; done) | (go_simp; rfl)
  exact R13_0000 hP tab hq h0 d0 p0 g0 h1 d1 p1 g1 h2 d2 p2 g2 h3 d3 p3 g3 h4 d4 p4 g4 h5 d5 p5 g5 h6 d6 p6 g6 h7 d7 p7 g7 h8 d8 p8 g8 hl hw1 lf cf HC HF hQ _ hHeld
end
def R15.T : Bool × List (List Nat × List Nat) := (true, [([], []), ([], []), ([1], [1]), ([], []), ([2, 3, 2], [2, 3]), ([], []), ([], []), ([0, 4, 5, 6, 4], [0, 4, 5, 6])])
def R15.B : List Nat := [0, 0, 2, 0, 14, 0, 0, 127]
theorem R15.tab : rtab .any (opsOf Try.f15 15) = R15.T := by kernel_rfl
theorem R15.bits : waitsOk R15.T.2 R15.B = true := by kernel_rfl
section
variable {P : Program} {ops : Array Oper} {Q : Exit → Act → World → Prop} (hP : P = Try.prog) (tab : rtab .any ops = R15.T) (hq : ∀ (c : List PanicEntry) (a : Act) (d : Tmp) (v : Value) (w : World), Q (.panic c) (a.put (some d) v) w → Q (.panic c) a w)
variable {o0 : Oper} (h0 : ops[0]? = some o0) (d0 : o0.dst = some 79) (p0 : o0.op = .load 38 (.tmp 7)) (g0 : o0.guard = none)
variable {o1 : Oper} (h1 : ops[1]? = some o1) (d1 : o1.dst = some 80) (p1 : o1.op = .move (.tmp 0)) (g1 : o1.guard = none)
variable {o2 : Oper} (h2 : ops[2]? = some o2) (d2 : o2.dst = some 81) (p2 : o2.op = .call { callee := .value (.func 18), args := #[.tmp 80], argTypes := #[32] }) (g2 : o2.guard = none)
variable {o3 : Oper} (h3 : ops[3]? = some o3) (d3 : o3.dst = some 82) (p3 : o3.op = .buildSlice 32 1 #[(0, .const (.int .u8 46))]) (g3 : o3.guard = none)
variable {o4 : Oper} (h4 : ops[4]? = some o4) (d4 : o4.dst = some 83) (p4 : o4.op = .call { callee := .builtin .append, args := #[.tmp 81, .tmp 82], argTypes := #[32, 32] }) (g4 : o4.guard = none)
variable {o5 : Oper} (h5 : ops[5]? = some o5) (d5 : o5.dst = some 84) (p5 : o5.op = .move (.tmp 1)) (g5 : o5.guard = none)
variable {o6 : Oper} (h6 : ops[6]? = some o6) (d6 : o6.dst = some 85) (p6 : o6.op = .move (.tmp 2)) (g6 : o6.guard = none)
variable {o7 : Oper} (h7 : ops[7]? = some o7) (d7 : o7.dst = some 86) (p7 : o7.op = .call { callee := .value (.tmp 79), args := #[.tmp 83, .tmp 84, .tmp 85], argTypes := #[32, 3, 3] }) (g7 : o7.guard = none)
variable {u0 u1 u2 u3 u4 u5 u6 u7 u8 u9 u10 u11 u12 u13 u14 u15 u16 u17 u18 u19 u20 u21 u22 u23 u24 u25 u26 u27 u28 u29 u30 u31 u32 u33 u34 u35 u36 u37 u38 u39 u40 u41 u42 u43 u44 u45 u46 u47 u48 u49 u50 u51 u52 u53 u54 u55 u56 u57 u58 u59 u60 u61 u62 u63 u64 u65 u66 u67 u68 u69 u70 u71 u72 u73 u74 u75 u76 u77 u78 u79 u80 u81 u82 u83 u84 u85 u86 : Value}
variable {bw bh bm bo bf c m : Nat} {za zb : Int} {A : Option Addr} {w0 : World} {l : List Int} {Post : World → Prop}
variable (hl : l.length ≤ 1000000) (hw1 : IntKind.i64.wrap (m : Int) = (m : Int)) (lf : bf < w0.heap.size) (cf : w0.cell? ⟨bf, 0, none⟩ = some (clo bw bh bm bo bf))
variable (HC : ∀ W, Below w0.heap.size w0 W → Calls Try.prog 18 #[.slice A l.length c] W fun e w' => ∃ v0_ : Value, e = .returned v0_ ∧ Kd.R (Kd.int .u8) 5 w' W.heap.size (fun _ => True) v0_ l ∧ Below W.heap.size W w')
variable (HF : ∀ (W : World) (V : Value), Below w0.heap.size w0 W → W.ownsRow w0.heap.size 5 1 V (l.length + 1) (u8s (l ++ [46])) → Calls Try.prog 15 #[V, .int .i64 za, .int .i64 zb, .pointer (some ⟨bw, 0, none⟩), .pointer (some ⟨bh, 0, none⟩), .pointer (some ⟨bm, 0, none⟩), .pointer (some ⟨bo, 0, none⟩), .pointer (some ⟨bf, 0, none⟩)] W fun e W' => e = .returned (.tuple #[]) ∧ Post W')
variable (hQ : ∀ (x1 x2 x3 : Value) (W' : World), Post W' → Q .normal ⟨#[.slice A l.length c, .int .i64 za, .int .i64 zb, .pointer (some ⟨bw, 0, none⟩), .pointer (some ⟨bh, 0, none⟩), .pointer (some ⟨bm, 0, none⟩), .pointer (some ⟨bo, 0, none⟩), .pointer (some ⟨bf, 0, none⟩), u8, u9, u10, u11, u12, u13, u14, u15, u16, u17, u18, u19, u20, u21, u22, u23, u24, u25, u26, u27, u28, u29, u30, u31, u32, u33, u34, u35, u36, u37, u38, u39, u40, u41, u42, u43, u44, u45, u46, u47, u48, u49, u50, u51, u52, u53, u54, u55, u56, u57, u58, u59, u60, u61, u62, u63, u64, u65, u66, u67, u68, u69, u70, u71, u72, u73, u74, u75, u76, u77, u78, clo bw bh bm bo bf, .slice A l.length c, x1, x2, x3, .int .i64 za, .int .i64 zb, .tuple #[]], []⟩ W')
include hP tab hq h0 d0 p0 g0 h1 d1 p1 g1 h2 d2 p2 g2 h3 d3 p3 g3 h4 d4 p4 g4 h5 d5 p5 g5 h6 d6 p6 g6 h7 d7 p7 g7 hl hw1 lf cf HC HF hQ
set_option maxRecDepth 100000 in
set_option maxHeartbeats 2000000 in
theorem R15_1111 (W : World) (V0 : Value) (gA : Nat) (V1 : Value) (hP' : Post W) : wpAnyLast P .any ops Q (fun w' => Below w0.heap.size w0 w') [7] 0 #[true, true, true, true, true, true, true, true] ⟨#[.slice A l.length c, .int .i64 za, .int .i64 zb, .pointer (some ⟨bw, 0, none⟩), .pointer (some ⟨bh, 0, none⟩), .pointer (some ⟨bm, 0, none⟩), .pointer (some ⟨bo, 0, none⟩), .pointer (some ⟨bf, 0, none⟩), u8, u9, u10, u11, u12, u13, u14, u15, u16, u17, u18, u19, u20, u21, u22, u23, u24, u25, u26, u27, u28, u29, u30, u31, u32, u33, u34, u35, u36, u37, u38, u39, u40, u41, u42, u43, u44, u45, u46, u47, u48, u49, u50, u51, u52, u53, u54, u55, u56, u57, u58, u59, u60, u61, u62, u63, u64, u65, u66, u67, u68, u69, u70, u71, u72, u73, u74, u75, u76, u77, u78, clo bw bh bm bo bf, .slice A l.length c, V0, .slice (some ⟨gA, 0, none⟩) 1 1, V1, .int .i64 za, .int .i64 zb, .tuple #[]], []⟩ W := by
  refine done_ (done_of tab (by kernel_rfl)) ?_
  exact hQ _ _ _ W hP'
set_option maxRecDepth 100000 in
set_option maxHeartbeats 2000000 in
theorem R15_1110 (W : World) (V0 : Value) (gA : Nat) (V1 : Value) (hS : (fun w' => Below w0.heap.size w0 w') W) (h1' : W.ownsRow w0.heap.size 5 1 V1 (l.length + 1) (u8s (l ++ [46]))) : wpAnyLast P .any ops Q (fun w' => Below w0.heap.size w0 w') [7] 1 #[true, true, true, true, true, true, true, false] ⟨#[.slice A l.length c, .int .i64 za, .int .i64 zb, .pointer (some ⟨bw, 0, none⟩), .pointer (some ⟨bh, 0, none⟩), .pointer (some ⟨bm, 0, none⟩), .pointer (some ⟨bo, 0, none⟩), .pointer (some ⟨bf, 0, none⟩), u8, u9, u10, u11, u12, u13, u14, u15, u16, u17, u18, u19, u20, u21, u22, u23, u24, u25, u26, u27, u28, u29, u30, u31, u32, u33, u34, u35, u36, u37, u38, u39, u40, u41, u42, u43, u44, u45, u46, u47, u48, u49, u50, u51, u52, u53, u54, u55, u56, u57, u58, u59, u60, u61, u62, u63, u64, u65, u66, u67, u68, u69, u70, u71, u72, u73, u74, u75, u76, u77, u78, clo bw bh bm bo bf, .slice A l.length c, V0, .slice (some ⟨gA, 0, none⟩) 1 1, V1, .int .i64 za, .int .i64 zb, u86], []⟩ W := by
  refine last_ (i := 7) (N := some 86) #[true, true, true, true, true, true, true, true] h7 d7 (one_of tab (by kernel_rfl)) (by decide) (fun K hK => ?_)
  · -- 7
    subst hP
    refine call_ 15 #[V1, .int .i64 za, .int .i64 zb, .pointer (some ⟨bw, 0, none⟩), .pointer (some ⟨bh, 0, none⟩), .pointer (some ⟨bm, 0, none⟩), .pointer (some ⟨bo, 0, none⟩), .pointer (some ⟨bf, 0, none⟩)] (by simp [Region.wanted, g7]) d7 (by have he := enters_ (P := Try.prog) Try.func15 (by kernel_rfl) rfl #[V1, .int .i64 za, .int .i64 zb, .pointer (some ⟨bw, 0, none⟩), .pointer (some ⟨bh, 0, none⟩), .pointer (some ⟨bm, 0, none⟩), .pointer (some ⟨bo, 0, none⟩), .pointer (some ⟨bf, 0, none⟩)] W; unfold execOp; simp [p7, resolve, Deferred.ofValue, invoke, Act.eval, he]) ?_
    refine (HF W V1 hS h1').mono ?_
    rintro e W' ⟨rfl, hPost⟩
    refine ⟨_, rfl, ?_⟩
    refine hK.out _ _ ?_
    clear hK K
    refine norm_ (a' := ⟨#[.slice A l.length c, .int .i64 za, .int .i64 zb, .pointer (some ⟨bw, 0, none⟩), .pointer (some ⟨bh, 0, none⟩), .pointer (some ⟨bm, 0, none⟩), .pointer (some ⟨bo, 0, none⟩), .pointer (some ⟨bf, 0, none⟩), u8, u9, u10, u11, u12, u13, u14, u15, u16, u17, u18, u19, u20, u21, u22, u23, u24, u25, u26, u27, u28, u29, u30, u31, u32, u33, u34, u35, u36, u37, u38, u39, u40, u41, u42, u43, u44, u45, u46, u47, u48, u49, u50, u51, u52, u53, u54, u55, u56, u57, u58, u59, u60, u61, u62, u63, u64, u65, u66, u67, u68, u69, u70, u71, u72, u73, u74, u75, u76, u77, u78, clo bw bh bm bo bf, .slice A l.length c, V0, .slice (some ⟨gA, 0, none⟩) 1 1, V1, .int .i64 za, .int .i64 zb, .tuple #[]], []⟩) (by rfl) ?_
    exact R15_1111 rfl tab hq h0 d0 p0 g0 h1 d1 p1 g1 h2 d2 p2 g2 h3 d3 p3 g3 h4 d4 p4 g4 h5 d5 p5 g5 h6 d6 p6 g6 h7 d7 p7 g7 hl hw1 lf cf HC HF hQ W' V0 gA V1 hPost
set_option maxRecDepth 100000 in
set_option maxHeartbeats 2000000 in
theorem R15_1100 (W : World) (V0 : Value) (gA : Nat) (hS : (fun w' => Below w0.heap.size w0 w') W) (h0' : W.ownsRow w0.heap.size 5 1 V0 l.length (u8s l)) (bA : W.heap[gA]? = some (.cells #[.int .u8 46] 5 (0, 0))) : wpAnyLast P .any ops Q (fun w' => Below w0.heap.size w0 w') [7] 2 #[true, true, true, true, false, true, true, false] ⟨#[.slice A l.length c, .int .i64 za, .int .i64 zb, .pointer (some ⟨bw, 0, none⟩), .pointer (some ⟨bh, 0, none⟩), .pointer (some ⟨bm, 0, none⟩), .pointer (some ⟨bo, 0, none⟩), .pointer (some ⟨bf, 0, none⟩), u8, u9, u10, u11, u12, u13, u14, u15, u16, u17, u18, u19, u20, u21, u22, u23, u24, u25, u26, u27, u28, u29, u30, u31, u32, u33, u34, u35, u36, u37, u38, u39, u40, u41, u42, u43, u44, u45, u46, u47, u48, u49, u50, u51, u52, u53, u54, u55, u56, u57, u58, u59, u60, u61, u62, u63, u64, u65, u66, u67, u68, u69, u70, u71, u72, u73, u74, u75, u76, u77, u78, clo bw bh bm bo bf, .slice A l.length c, V0, .slice (some ⟨gA, 0, none⟩) 1 1, u83, .int .i64 za, .int .i64 zb, u86], []⟩ W := by
  refine one_ (i := 4) (N := some 83) #[true, true, true, true, true, true, true, false] h4 d4 (one_of tab (by kernel_rfl)) (by decide) (fun K hK => ?_)
  · -- 4
    obtain ⟨i0, hi0, hz0, hz1, hz2⟩ := info_parts infoU
    subst hP
    refine step_append_keep W g4 _ _ _ p4 w0.heap.size 5 i0 _ 1 1 Try.underlying32 hi0 hz0 hz1 hz2 rfl (by omega) V0 l.length (u8s l) (by rfl) h0' ⟨gA, 0, none⟩ 1 1 [.int .u8 46] (by rfl) (by rfl) (cells_of bA) (by simp [Value.oneCell']) (by omega) (by simp only [maxLen]; omega) (by omega) hS.size ?_
    intro V1 W' hown' hg hat hold
    have hB' := below_grown hS (own_base h0') hg
    have hN : W'.ownsRow w0.heap.size 5 1 V1 (l.length + 1) (u8s (l ++ [46])) := by rw [u8s_app]; exact hown'
    rw [d4]
    refine hK.out _ _ hB' (fun hHeld => ?_)
    clear hK K
    refine norm_ (a' := ⟨#[.slice A l.length c, .int .i64 za, .int .i64 zb, .pointer (some ⟨bw, 0, none⟩), .pointer (some ⟨bh, 0, none⟩), .pointer (some ⟨bm, 0, none⟩), .pointer (some ⟨bo, 0, none⟩), .pointer (some ⟨bf, 0, none⟩), u8, u9, u10, u11, u12, u13, u14, u15, u16, u17, u18, u19, u20, u21, u22, u23, u24, u25, u26, u27, u28, u29, u30, u31, u32, u33, u34, u35, u36, u37, u38, u39, u40, u41, u42, u43, u44, u45, u46, u47, u48, u49, u50, u51, u52, u53, u54, u55, u56, u57, u58, u59, u60, u61, u62, u63, u64, u65, u66, u67, u68, u69, u70, u71, u72, u73, u74, u75, u76, u77, u78, clo bw bh bm bo bf, .slice A l.length c, V0, .slice (some ⟨gA, 0, none⟩) 1 1, V1, .int .i64 za, .int .i64 zb, u86], []⟩) (by rfl) ?_
    exact R15_1110 rfl tab hq h0 d0 p0 g0 h1 d1 p1 g1 h2 d2 p2 g2 h3 d3 p3 g3 h4 d4 p4 g4 h5 d5 p5 g5 h6 d6 p6 g6 h7 d7 p7 g7 hl hw1 lf cf HC HF hQ W' V0 gA V1 hHeld hN
set_option maxRecDepth 100000 in
set_option maxHeartbeats 2000000 in
theorem R15_1000 (W : World) (V0 : Value) (hS : (fun w' => Below w0.heap.size w0 w') W) (h0' : W.ownsRow w0.heap.size 5 1 V0 l.length (u8s l)) : wpAnyLast P .any ops Q (fun w' => Below w0.heap.size w0 w') [7] 3 #[true, true, true, false, false, true, true, false] ⟨#[.slice A l.length c, .int .i64 za, .int .i64 zb, .pointer (some ⟨bw, 0, none⟩), .pointer (some ⟨bh, 0, none⟩), .pointer (some ⟨bm, 0, none⟩), .pointer (some ⟨bo, 0, none⟩), .pointer (some ⟨bf, 0, none⟩), u8, u9, u10, u11, u12, u13, u14, u15, u16, u17, u18, u19, u20, u21, u22, u23, u24, u25, u26, u27, u28, u29, u30, u31, u32, u33, u34, u35, u36, u37, u38, u39, u40, u41, u42, u43, u44, u45, u46, u47, u48, u49, u50, u51, u52, u53, u54, u55, u56, u57, u58, u59, u60, u61, u62, u63, u64, u65, u66, u67, u68, u69, u70, u71, u72, u73, u74, u75, u76, u77, u78, clo bw bh bm bo bf, .slice A l.length c, V0, u82, u83, .int .i64 za, .int .i64 zb, u86], []⟩ W := by
  refine one_ (i := 3) (N := some 82) #[true, true, true, true, false, true, true, false] h3 d3 (one_of tab (by kernel_rfl)) (by decide) (fun K hK => ?_)
  · -- 3
    refine run_step (v := .slice (some ⟨W.heap.size, 0, none⟩) 1 1) (w1 := W.alloc (.cells #[.int .u8 46] 5)) g3 d3 (by simp only [execOp, p3, Act.eval]; subst hP; first | (go_simp; done) | (go_simp; rfl)) ?_
    have hB := (Below.refl W.heap.size W).alloc (Nat.le_refl _) (.cells #[.int .u8 46] 5)
    have bN := (Go.MapKept.heap_alloc W (.cells #[.int .u8 46] 5)).1
    refine hK.out _ _ (hS.trans (hB.mono hS.size)) (fun hHeld => ?_)
    clear hK K
    refine norm_ (a' := ⟨#[.slice A l.length c, .int .i64 za, .int .i64 zb, .pointer (some ⟨bw, 0, none⟩), .pointer (some ⟨bh, 0, none⟩), .pointer (some ⟨bm, 0, none⟩), .pointer (some ⟨bo, 0, none⟩), .pointer (some ⟨bf, 0, none⟩), u8, u9, u10, u11, u12, u13, u14, u15, u16, u17, u18, u19, u20, u21, u22, u23, u24, u25, u26, u27, u28, u29, u30, u31, u32, u33, u34, u35, u36, u37, u38, u39, u40, u41, u42, u43, u44, u45, u46, u47, u48, u49, u50, u51, u52, u53, u54, u55, u56, u57, u58, u59, u60, u61, u62, u63, u64, u65, u66, u67, u68, u69, u70, u71, u72, u73, u74, u75, u76, u77, u78, clo bw bh bm bo bf, .slice A l.length c, V0, .slice (some ⟨W.heap.size, 0, none⟩) 1 1, u83, .int .i64 za, .int .i64 zb, u86], []⟩) (by rfl) ?_
    exact R15_1100 hP tab hq h0 d0 p0 g0 h1 d1 p1 g1 h2 d2 p2 g2 h3 d3 p3 g3 h4 d4 p4 g4 h5 d5 p5 g5 h6 d6 p6 g6 h7 d7 p7 g7 hl hw1 lf cf HC HF hQ _ V0 _ hHeld (own_move h0' (fun k hk => hB.block k (own_lt h0' k hk))) bN
set_option maxRecDepth 100000 in
set_option maxHeartbeats 2000000 in
theorem R15_0100 (W : World) (gA : Nat) (hS : (fun w' => Below w0.heap.size w0 w') W) (bA : W.heap[gA]? = some (.cells #[.int .u8 46] 5 (0, 0))) : wpAnyLast P .any ops Q (fun w' => Below w0.heap.size w0 w') [7] 3 #[true, true, false, true, false, true, true, false] ⟨#[.slice A l.length c, .int .i64 za, .int .i64 zb, .pointer (some ⟨bw, 0, none⟩), .pointer (some ⟨bh, 0, none⟩), .pointer (some ⟨bm, 0, none⟩), .pointer (some ⟨bo, 0, none⟩), .pointer (some ⟨bf, 0, none⟩), u8, u9, u10, u11, u12, u13, u14, u15, u16, u17, u18, u19, u20, u21, u22, u23, u24, u25, u26, u27, u28, u29, u30, u31, u32, u33, u34, u35, u36, u37, u38, u39, u40, u41, u42, u43, u44, u45, u46, u47, u48, u49, u50, u51, u52, u53, u54, u55, u56, u57, u58, u59, u60, u61, u62, u63, u64, u65, u66, u67, u68, u69, u70, u71, u72, u73, u74, u75, u76, u77, u78, clo bw bh bm bo bf, .slice A l.length c, u81, .slice (some ⟨gA, 0, none⟩) 1 1, u83, .int .i64 za, .int .i64 zb, u86], []⟩ W := by
  refine one_ (i := 2) (N := some 81) #[true, true, true, true, false, true, true, false] h2 d2 (one_of tab (by kernel_rfl)) (by decide) (fun K hK => ?_)
  · -- 2
    subst hP
    refine goes_ Try.func18 (by kernel_rfl) rfl #[.slice A l.length c] (by simp [Region.wanted, g2]) d2 p2 (by simp [Act.eval]) ?_
    refine (HC W hS).mono ?_
    rintro e W' ⟨V0, rfl, hR, hB⟩
    refine ⟨_, rfl, ?_⟩
    have hN : W'.ownsRow w0.heap.size 5 1 V0 l.length (u8s l) := own_weaken (Kd.own_of_R hR) hS.size
    refine hK.out _ _ (hS.trans (hB.mono hS.size)) (fun hHeld => ?_)
    clear hK K
    refine norm_ (a' := ⟨#[.slice A l.length c, .int .i64 za, .int .i64 zb, .pointer (some ⟨bw, 0, none⟩), .pointer (some ⟨bh, 0, none⟩), .pointer (some ⟨bm, 0, none⟩), .pointer (some ⟨bo, 0, none⟩), .pointer (some ⟨bf, 0, none⟩), u8, u9, u10, u11, u12, u13, u14, u15, u16, u17, u18, u19, u20, u21, u22, u23, u24, u25, u26, u27, u28, u29, u30, u31, u32, u33, u34, u35, u36, u37, u38, u39, u40, u41, u42, u43, u44, u45, u46, u47, u48, u49, u50, u51, u52, u53, u54, u55, u56, u57, u58, u59, u60, u61, u62, u63, u64, u65, u66, u67, u68, u69, u70, u71, u72, u73, u74, u75, u76, u77, u78, clo bw bh bm bo bf, .slice A l.length c, V0, .slice (some ⟨gA, 0, none⟩) 1 1, u83, .int .i64 za, .int .i64 zb, u86], []⟩) (by rfl) ?_
    exact R15_1100 rfl tab hq h0 d0 p0 g0 h1 d1 p1 g1 h2 d2 p2 g2 h3 d3 p3 g3 h4 d4 p4 g4 h5 d5 p5 g5 h6 d6 p6 g6 h7 d7 p7 g7 hl hw1 lf cf HC HF hQ W' V0 gA hHeld hN ((hB.block _ (lt_of bA)).trans bA)
set_option maxRecDepth 100000 in
set_option maxHeartbeats 2000000 in
theorem R15_0000 (W : World) (hS : (fun w' => Below w0.heap.size w0 w') W) : wpAnyLast P .any ops Q (fun w' => Below w0.heap.size w0 w') [7] 4 #[true, true, false, false, false, true, true, false] ⟨#[.slice A l.length c, .int .i64 za, .int .i64 zb, .pointer (some ⟨bw, 0, none⟩), .pointer (some ⟨bh, 0, none⟩), .pointer (some ⟨bm, 0, none⟩), .pointer (some ⟨bo, 0, none⟩), .pointer (some ⟨bf, 0, none⟩), u8, u9, u10, u11, u12, u13, u14, u15, u16, u17, u18, u19, u20, u21, u22, u23, u24, u25, u26, u27, u28, u29, u30, u31, u32, u33, u34, u35, u36, u37, u38, u39, u40, u41, u42, u43, u44, u45, u46, u47, u48, u49, u50, u51, u52, u53, u54, u55, u56, u57, u58, u59, u60, u61, u62, u63, u64, u65, u66, u67, u68, u69, u70, u71, u72, u73, u74, u75, u76, u77, u78, clo bw bh bm bo bf, .slice A l.length c, u81, u82, u83, .int .i64 za, .int .i64 zb, u86], []⟩ W := by
  refine two_ #[true, true, true, false, false, true, true, false] #[true, true, false, true, false, true, true, false] h2 h3 d2 d3  (two_of tab (by kernel_rfl)) (by decide) (by decide) (fun K hK => ?_) (fun K hK => ?_)
  · -- 2
    subst hP
    refine goes_ Try.func18 (by kernel_rfl) rfl #[.slice A l.length c] (by simp [Region.wanted, g2]) d2 p2 (by simp [Act.eval]) ?_
    refine (HC W hS).mono ?_
    rintro e W' ⟨V0, rfl, hR, hB⟩
    refine ⟨_, rfl, ?_⟩
    have hN : W'.ownsRow w0.heap.size 5 1 V0 l.length (u8s l) := own_weaken (Kd.own_of_R hR) hS.size
    refine hK.out _ _ (hS.trans (hB.mono hS.size)) (fun hHeld => ?_)
    clear hK K
    refine norm_ (a' := ⟨#[.slice A l.length c, .int .i64 za, .int .i64 zb, .pointer (some ⟨bw, 0, none⟩), .pointer (some ⟨bh, 0, none⟩), .pointer (some ⟨bm, 0, none⟩), .pointer (some ⟨bo, 0, none⟩), .pointer (some ⟨bf, 0, none⟩), u8, u9, u10, u11, u12, u13, u14, u15, u16, u17, u18, u19, u20, u21, u22, u23, u24, u25, u26, u27, u28, u29, u30, u31, u32, u33, u34, u35, u36, u37, u38, u39, u40, u41, u42, u43, u44, u45, u46, u47, u48, u49, u50, u51, u52, u53, u54, u55, u56, u57, u58, u59, u60, u61, u62, u63, u64, u65, u66, u67, u68, u69, u70, u71, u72, u73, u74, u75, u76, u77, u78, clo bw bh bm bo bf, .slice A l.length c, V0, u82, u83, .int .i64 za, .int .i64 zb, u86], []⟩) (by rfl) ?_
    exact R15_1000 rfl tab hq h0 d0 p0 g0 h1 d1 p1 g1 h2 d2 p2 g2 h3 d3 p3 g3 h4 d4 p4 g4 h5 d5 p5 g5 h6 d6 p6 g6 h7 d7 p7 g7 hl hw1 lf cf HC HF hQ W' V0 hHeld hN
  · -- 3
    refine run_step (v := .slice (some ⟨W.heap.size, 0, none⟩) 1 1) (w1 := W.alloc (.cells #[.int .u8 46] 5)) g3 d3 (by simp only [execOp, p3, Act.eval]; subst hP; first | (go_simp; done) | (go_simp; rfl)) ?_
    have hB := (Below.refl W.heap.size W).alloc (Nat.le_refl _) (.cells #[.int .u8 46] 5)
    have bN := (Go.MapKept.heap_alloc W (.cells #[.int .u8 46] 5)).1
    refine hK.out _ _ (hS.trans (hB.mono hS.size)) (fun hHeld => ?_)
    clear hK K
    refine norm_ (a' := ⟨#[.slice A l.length c, .int .i64 za, .int .i64 zb, .pointer (some ⟨bw, 0, none⟩), .pointer (some ⟨bh, 0, none⟩), .pointer (some ⟨bm, 0, none⟩), .pointer (some ⟨bo, 0, none⟩), .pointer (some ⟨bf, 0, none⟩), u8, u9, u10, u11, u12, u13, u14, u15, u16, u17, u18, u19, u20, u21, u22, u23, u24, u25, u26, u27, u28, u29, u30, u31, u32, u33, u34, u35, u36, u37, u38, u39, u40, u41, u42, u43, u44, u45, u46, u47, u48, u49, u50, u51, u52, u53, u54, u55, u56, u57, u58, u59, u60, u61, u62, u63, u64, u65, u66, u67, u68, u69, u70, u71, u72, u73, u74, u75, u76, u77, u78, clo bw bh bm bo bf, .slice A l.length c, u81, .slice (some ⟨W.heap.size, 0, none⟩) 1 1, u83, .int .i64 za, .int .i64 zb, u86], []⟩) (by rfl) ?_
    exact R15_0100 hP tab hq h0 d0 p0 g0 h1 d1 p1 g1 h2 d2 p2 g2 h3 d3 p3 g3 h4 d4 p4 g4 h5 d5 p5 g5 h6 d6 p6 g6 h7 d7 p7 g7 hl hw1 lf cf HC HF hQ _ _ hHeld bN
set_option maxRecDepth 100000 in
set_option maxHeartbeats 2000000 in
theorem R15_region {id : Nat} (hsize : ops.size = 8)  : (Code.region id ops true).wp P Q ⟨#[.slice A l.length c, .int .i64 za, .int .i64 zb, .pointer (some ⟨bw, 0, none⟩), .pointer (some ⟨bh, 0, none⟩), .pointer (some ⟨bm, 0, none⟩), .pointer (some ⟨bo, 0, none⟩), .pointer (some ⟨bf, 0, none⟩), u8, u9, u10, u11, u12, u13, u14, u15, u16, u17, u18, u19, u20, u21, u22, u23, u24, u25, u26, u27, u28, u29, u30, u31, u32, u33, u34, u35, u36, u37, u38, u39, u40, u41, u42, u43, u44, u45, u46, u47, u48, u49, u50, u51, u52, u53, u54, u55, u56, u57, u58, u59, u60, u61, u62, u63, u64, u65, u66, u67, u68, u69, u70, u71, u72, u73, u74, u75, u76, u77, u78, u79, u80, u81, u82, u83, u84, u85, u86], []⟩ w0 := by
  refine start_ (n := 8) (S := (fun w' => Below w0.heap.size w0 w')) (ds := [7]) #[false, false, false, false, false, false, false, false] (by rw [hP]; kernel_rfl) hsize rfl (below_drew (Below.refl _ w0)) (fun hHeld => ?_)
  refine pure_ (i := 1) (N := some 80) (v := .slice A l.length c) (a' := ⟨#[.slice A l.length c, .int .i64 za, .int .i64 zb, .pointer (some ⟨bw, 0, none⟩), .pointer (some ⟨bh, 0, none⟩), .pointer (some ⟨bm, 0, none⟩), .pointer (some ⟨bo, 0, none⟩), .pointer (some ⟨bf, 0, none⟩), u8, u9, u10, u11, u12, u13, u14, u15, u16, u17, u18, u19, u20, u21, u22, u23, u24, u25, u26, u27, u28, u29, u30, u31, u32, u33, u34, u35, u36, u37, u38, u39, u40, u41, u42, u43, u44, u45, u46, u47, u48, u49, u50, u51, u52, u53, u54, u55, u56, u57, u58, u59, u60, u61, u62, u63, u64, u65, u66, u67, u68, u69, u70, u71, u72, u73, u74, u75, u76, u77, u78, u79, .slice A l.length c, u81, u82, u83, u84, u85, u86], []⟩) #[false, true, false, false, false, false, false, false] h1 d1 (any_of tab (by kernel_rfl)) (fun c a w z => hq c a _ _ w (by rw [d1] at z; exact z)) (Or.inl ⟨by simp [Region.wanted, g1], fun w' => ?_⟩) (by rfl) ?_
  · simp only [execOp, p1, Act.eval, Act.put]
    first | (go_simp; done) | (go_simp; rfl)
  refine pure_ (i := 5) (N := some 84) (v := .int .i64 za) (a' := ⟨#[.slice A l.length c, .int .i64 za, .int .i64 zb, .pointer (some ⟨bw, 0, none⟩), .pointer (some ⟨bh, 0, none⟩), .pointer (some ⟨bm, 0, none⟩), .pointer (some ⟨bo, 0, none⟩), .pointer (some ⟨bf, 0, none⟩), u8, u9, u10, u11, u12, u13, u14, u15, u16, u17, u18, u19, u20, u21, u22, u23, u24, u25, u26, u27, u28, u29, u30, u31, u32, u33, u34, u35, u36, u37, u38, u39, u40, u41, u42, u43, u44, u45, u46, u47, u48, u49, u50, u51, u52, u53, u54, u55, u56, u57, u58, u59, u60, u61, u62, u63, u64, u65, u66, u67, u68, u69, u70, u71, u72, u73, u74, u75, u76, u77, u78, u79, .slice A l.length c, u81, u82, u83, .int .i64 za, u85, u86], []⟩) #[false, true, false, false, false, true, false, false] h5 d5 (any_of tab (by kernel_rfl)) (fun c a w z => hq c a _ _ w (by rw [d5] at z; exact z)) (Or.inl ⟨by simp [Region.wanted, g5], fun w' => ?_⟩) (by rfl) ?_
  · simp only [execOp, p5, Act.eval, Act.put]
    first | (go_simp; done) | (go_simp; rfl)
  refine pure_ (i := 6) (N := some 85) (v := .int .i64 zb) (a' := ⟨#[.slice A l.length c, .int .i64 za, .int .i64 zb, .pointer (some ⟨bw, 0, none⟩), .pointer (some ⟨bh, 0, none⟩), .pointer (some ⟨bm, 0, none⟩), .pointer (some ⟨bo, 0, none⟩), .pointer (some ⟨bf, 0, none⟩), u8, u9, u10, u11, u12, u13, u14, u15, u16, u17, u18, u19, u20, u21, u22, u23, u24, u25, u26, u27, u28, u29, u30, u31, u32, u33, u34, u35, u36, u37, u38, u39, u40, u41, u42, u43, u44, u45, u46, u47, u48, u49, u50, u51, u52, u53, u54, u55, u56, u57, u58, u59, u60, u61, u62, u63, u64, u65, u66, u67, u68, u69, u70, u71, u72, u73, u74, u75, u76, u77, u78, u79, .slice A l.length c, u81, u82, u83, .int .i64 za, .int .i64 zb, u86], []⟩) #[false, true, false, false, false, true, true, false] h6 d6 (any_of tab (by kernel_rfl)) (fun c a w z => hq c a _ _ w (by rw [d6] at z; exact z)) (Or.inl ⟨by simp [Region.wanted, g6], fun w' => ?_⟩) (by rfl) ?_
  · simp only [execOp, p6, Act.eval, Act.put]
    first | (go_simp; done) | (go_simp; rfl)
  refine take_ (i := 0) (N := some 79) (v := clo bw bh bm bo bf) (a' := ⟨#[.slice A l.length c, .int .i64 za, .int .i64 zb, .pointer (some ⟨bw, 0, none⟩), .pointer (some ⟨bh, 0, none⟩), .pointer (some ⟨bm, 0, none⟩), .pointer (some ⟨bo, 0, none⟩), .pointer (some ⟨bf, 0, none⟩), u8, u9, u10, u11, u12, u13, u14, u15, u16, u17, u18, u19, u20, u21, u22, u23, u24, u25, u26, u27, u28, u29, u30, u31, u32, u33, u34, u35, u36, u37, u38, u39, u40, u41, u42, u43, u44, u45, u46, u47, u48, u49, u50, u51, u52, u53, u54, u55, u56, u57, u58, u59, u60, u61, u62, u63, u64, u65, u66, u67, u68, u69, u70, u71, u72, u73, u74, u75, u76, u77, u78, clo bw bh bm bo bf, .slice A l.length c, u81, u82, u83, .int .i64 za, .int .i64 zb, u86], []⟩) #[true, true, false, false, false, true, true, false] h0 d0 (take_ofW tab R15.bits (by kernel_rfl)) (fun c a w z => hq c a _ _ w (by rw [d0] at z; exact z)) (Or.inl ⟨by simp [Region.wanted, g0], ?_⟩) hHeld (by rfl) ?_
  · intro w' hs
    have s0 := (hs.cell (p := ⟨bf, 0, none⟩) lf).trans cf
    simp only [execOp, p0, Act.eval, Act.put]
    first | (go_simp; done) | (go_simp; rfl)
  exact R15_0000 hP tab hq h0 d0 p0 g0 h1 d1 p1 g1 h2 d2 p2 g2 h3 d3 p3 g3 h4 d4 p4 g4 h5 d5 p5 g5 h6 d6 p6 g6 h7 d7 p7 g7 hl hw1 lf cf HC HF hQ _ hHeld
end
end FL
end Go.Proofs.YtoojemnocncafaaV
namespace Go.Proofs.YtoojemnocncafaaV
open Go.RowKit Go.Proofs.YtoojemnocncafaaW.PrintWords Go.Proofs.YtoojemnocncafaaW.PrintLast
namespace FL
open RB
abbrev CV (W : World) (ok : Nat → Prop) (v : Value) (l : List Int) : Prop := Kd.V (Kd.int .u8) 5 W 0 ok v l
/-- Blocks that a growing row and its box leave alone. -/
def okF (bo : Nat) (Vo : Value) (k : Nat) : Prop := k ≠ bo ∧ some k ≠ Vo.ownBlock
structure Fr (bo : Nat) (W W' : World) (Vo Vo' : Value) : Prop where
  size : W.heap.size ≤ W'.heap.size
  blk : ∀ k, k < W.heap.size → okF bo Vo k → W'.heap[k]? = W.heap[k]?
  row : Vo'.ownBlock = Vo.ownBlock ∨ ∀ k, Vo'.ownBlock = some k → W.heap.size ≤ k
theorem Fr.of_below {bo : Nat} {W W' : World} {Vo : Value} (hB : Below W.heap.size W W') : Fr bo W W' Vo Vo := ⟨hB.size, fun k hk _ => hB.block k hk, .inl rfl⟩
theorem Fr.ok {bo : Nat} {W W' : World} {Vo Vo' : Value} (h : Fr bo W W' Vo Vo') {k : Nat} (hk : k < W.heap.size) (ho : okF bo Vo k) : okF bo Vo' k := by
  refine ⟨ho.1, fun e => ?_⟩
  rcases h.row with h1 | h1
  · exact ho.2 (e.trans h1)
  · have := h1 k e.symm
    omega
theorem Fr.trans {bo : Nat} {W W' W2 : World} {Vo Vo' V2 : Value} (h : Fr bo W W' Vo Vo') (h2 : Fr bo W' W2 Vo' V2) : Fr bo W W2 Vo V2 :=
  ⟨Nat.le_trans h.size h2.size, fun k hk ho => (h2.blk k (Nat.lt_of_lt_of_le hk h.size) (h.ok hk ho)).trans (h.blk k hk ho), by
    rcases h2.row with r | r
    · rcases h.row with s | s
      · exact .inl (r.trans s)
      · exact .inr fun k hk => s k (r.symm.trans hk)
    · exact .inr fun k hk => Nat.le_trans h.size (r k hk)⟩
theorem V_fr {α : Type} {d : Kd α} {e : Nat} {bo : Nat} {W W' : World} {Vo Vo' v : Value} {l : List α} (h : Kd.V d e W 0 (okF bo Vo) v l) (hf : Fr bo W W' Vo Vo') : Kd.V d e W' 0 (okF bo Vo') v l :=
  Kd.V_mono (Kd.V_step (Kd.V_bound h) (fun k hk hlt => hf.blk k hk.2 hk.1)) (fun k hk => hf.ok hk.2 hk.1)
structure Env where
  bw : Nat
  bh : Nat
  bm : Nat
  bo : Nat
  bf : Nat
  x : Int
  y : Int
  Vm : Value
  ml : List Int
structure FS (E : Env) (w0 W : World) (Vo : Value) (L : List ByteArray) : Prop where
  cw : W.heap[E.bw]? = some (.cells #[.int .i64 E.x] 3 (0, 0))
  ch : W.heap[E.bh]? = some (.cells #[.int .i64 E.y] 3 (0, 0))
  cm : W.heap[E.bm]? = some (.cells #[E.Vm] 36 (0, 0))
  co : W.heap[E.bo]? = some (.cells #[Vo] 22 (0, 0))
  cf : W.heap[E.bf]? = some (.cells #[clo E.bw E.bh E.bm E.bo E.bf] 38 (0, 0))
  mv : Kd.V (Kd.int .i64) 3 W 0 (okF E.bo Vo) E.Vm E.ml
  own : W.ownsRow w0.heap.size 9 1 Vo L.length (L.map Value.string)
  below : Below w0.heap.size w0 W
  lo : w0.heap.size ≤ E.bo
theorem ne_obj {W : World} {a b : Nat} {o1 o2 : Obj} (h1 : W.heap[a]? = some o1) (h2 : W.heap[b]? = some o2) (hne : o1 ≠ o2) : a ≠ b := by
  rintro rfl
  rw [h1] at h2
  exact hne (Option.some.inj h2)
theorem cells_ne {c1 c2 : Array Value} {t1 t2 : TypeId} {f1 f2 : Nat × Nat} (h : t1 ≠ t2) : Obj.cells c1 t1 f1 ≠ Obj.cells c2 t2 f2 := by
  intro e
  injection e with _ e _
  exact h e
theorem ne_own {W : World} {n₀ z n k : Nat} {e T : TypeId} {v : Value} {x : List Value} {cs : Array Value} {fr : Nat × Nat} (h : W.ownsRow n₀ e z v n x) (hk : W.heap[k]? = some (.cells cs T fr)) (he : e ≠ T) : some k ≠ v.ownBlock := by
  intro e1
  obtain ⟨c, hc⟩ := own_typed h k e1.symm
  rw [hc] at hk
  simp only [Option.some.injEq, Obj.cells.injEq] at hk
  exact he hk.2.1
section
variable {E : Env} {w0 W W' : World} {Vo Vo' : Value} {L L' : List ByteArray}
theorem FS.okw (h : FS E w0 W Vo L) : okF E.bo Vo E.bw ∧ okF E.bo Vo E.bh ∧ okF E.bo Vo E.bm ∧ okF E.bo Vo E.bf :=
  ⟨⟨ne_obj h.cw h.co (cells_ne (by decide)), ne_own h.own h.cw (by decide)⟩, ⟨ne_obj h.ch h.co (cells_ne (by decide)), ne_own h.own h.ch (by decide)⟩, ⟨ne_obj h.cm h.co (cells_ne (by decide)), ne_own h.own h.cm (by decide)⟩, ⟨ne_obj h.cf h.co (cells_ne (by decide)), ne_own h.own h.cf (by decide)⟩⟩
theorem FS.to (h : FS E w0 W Vo L) (hB : Below W.heap.size W W') : FS E w0 W' Vo L :=
  ⟨(hB.block _ (lt_of h.cw)).trans h.cw, (hB.block _ (lt_of h.ch)).trans h.ch, (hB.block _ (lt_of h.cm)).trans h.cm, (hB.block _ (lt_of h.co)).trans h.co, (hB.block _ (lt_of h.cf)).trans h.cf, V_fr h.mv (Fr.of_below hB), own_move h.own (fun k hk => hB.block k (own_lt h.own k hk)), h.below.trans (hB.mono h.below.size), h.lo⟩
/-- One text more: the row has grown, its box holds the new row. -/
theorem FS.push (h : FS E w0 W Vo L) {t : ByteArray} {W1 : World} (ho : W1.ownsRow w0.heap.size 9 1 Vo' (L.length + 1) (L.map Value.string ++ [.string t])) (hg : W.grownBy W1 Vo.ownBlock) (hat : Vo'.ownBlock = Vo.ownBlock ∨ Vo'.ownBlock = some W.heap.size)
    (hW' : W' = W1.setCell ⟨E.bo, 0, none⟩ Vo') : FS E w0 W' Vo' (L ++ [t]) ∧ Fr E.bo W W' Vo Vo' := by
  subst hW'
  obtain ⟨o1, o2, o3, o4⟩ := h.okw
  have hoo : some E.bo ≠ Vo.ownBlock := ne_own h.own h.co (by decide)
  have hlb := lt_of h.co
  have hsame : ∀ k, k < W.heap.size → okF E.bo Vo k → (W1.setCell ⟨E.bo, 0, none⟩ Vo').heap[k]? = W.heap[k]? := fun k hk ok => (Below.heap_setCell W1 ⟨E.bo, 0, none⟩ Vo' k ok.1).trans (hg.block k hk ok.2)
  have hsz : (W1.setCell ⟨E.bo, 0, none⟩ Vo').heap.size = W1.heap.size := Array.size_modify ..
  have hfr : Fr E.bo W (W1.setCell ⟨E.bo, 0, none⟩ Vo') Vo Vo' := ⟨by rw [hsz]; exact hg.size, hsame, hat.imp id (fun e k hk => by rw [e] at hk; exact Nat.le_of_eq (Option.some.inj hk))⟩
  have hbo1 : W1.heap[E.bo]? = some (.cells #[Vo] 22 (0, 0)) := (hg.block _ hlb hoo).trans h.co
  have hob : ∀ k, Vo'.ownBlock = some k → k ≠ E.bo := fun k hk e => by
    subst e
    exact ne_own ho hbo1 (by decide) hk.symm
  refine ⟨⟨(hsame _ (lt_of h.cw) o1).trans h.cw, (hsame _ (lt_of h.ch) o2).trans h.ch, (hsame _ (lt_of h.cm) o3).trans h.cm, blk_put hbo1 0 Vo' rfl, (hsame _ (lt_of h.cf) o4).trans h.cf, V_fr h.mv hfr, ?_, ?_, h.lo⟩, hfr⟩
  · rw [List.length_append, List.length_singleton, List.map_append, List.map_singleton]
    exact own_move ho (fun k hk => Below.heap_setCell W1 ⟨E.bo, 0, none⟩ Vo' k (hob k hk))
  · refine (h.below.trans ⟨hg.os, hg.tape, hg.output, hg.size, fun k hk => hg.block k (Nat.lt_of_lt_of_le hk h.below.size) (fun e => ?_)⟩).setCell (p := ⟨E.bo, 0, none⟩) h.lo Vo'
    have := own_base h.own k e.symm
    omega
end
/-- What is listed below a row of cells that has begun. -/
def leaves (least : List Int → ByteArray) : Nat → List Int → Nat → Nat → List ByteArray
  | 0, l, _, _ => [least l]
  | d + 1, l, a, b => (if 0 < a then leaves least d (l ++ [35]) (a - 1) b else []) ++ ((if 0 < b then leaves least d (l ++ [111]) a (b - 1) else []) ++ (if a + b < d + 1 then leaves least d (l ++ [46]) a b else []))
def leastI (tx : List Int → ByteArray) (mvf : Int → List Int → List Int) (ml : List Int) (l : List Int) : ByteArray := ml.foldl (fun t m => Lib.minS t (tx (mvf m l))) (tx l)
structure Con (E : Env) (n : Nat) (tx : List Int → ByteArray) (mvf : Int → List Int → List Int) (Good : List Int → Prop) : Prop where
  text : ∀ (l : List Int) A c W, l.length = n → Good l → Kd.C (Kd.int .u8) W A l.length l → l.length ≤ c → Calls Try.prog 16 #[.agg #[.int .i64 E.x, .int .i64 E.y, .slice A l.length c]] W fun e w' => e = .returned (.string (tx l)) ∧ Below W.heap.size W w'
  move : ∀ (l : List Int) (m : Int) (P : Nat → Prop) A c W, l.length = n → Good l → m ∈ E.ml → Kd.V (Kd.int .u8) 5 W W.heap.size P (.slice A l.length c) l → Calls Try.prog 17 #[.agg #[.int .i64 E.x, .int .i64 E.y, .slice A l.length c], .int .i64 m] W fun e w' => ∃ v2_ : Value, e = .returned (.agg #[.int .i64 E.x, .int .i64 E.y, v2_]) ∧ Kd.V (Kd.int .u8) 5 w' W.heap.size (fun k_ => P k_ ∨ W.heap.size ≤ k_) v2_ (mvf m l) ∧ Below W.heap.size W w'
  good : ∀ (l : List Int) (m : Int), l.length = n → Good l → m ∈ E.ml → (mvf m l).length = n ∧ Good (mvf m l)
  clone : ∀ (l : List Int) A c W, l.length ≤ n → Kd.C (Kd.int .u8) W A l.length l → l.length ≤ c → Calls Try.prog 18 #[.slice A l.length c] W fun e w' => ∃ v0_ : Value, e = .returned v0_ ∧ Kd.R (Kd.int .u8) 5 w' W.heap.size (fun _ => True) v0_ l ∧ Below W.heap.size W w'
  size : E.x * E.y = (n : Int)
  small : n ≤ 36
  mlen : E.ml.length ≤ 8
  snoc : ∀ (l : List Int) (b : Int), (b = 35 ∨ b = 111 ∨ b = 46) → Good l → Good (l ++ [b])
  tsize : ∀ l, l.length = n → Good l → (tx l).size ≤ 1000
theorem infoS : (Try.prog.info? 9).map (fun i => (i.zero, i.size, i.bytes)) = some (some (.string ByteArray.empty), 1, 16) := by kernel_rfl
set_option maxRecDepth 100000 in
set_option maxHeartbeats 8000000 in
theorem leaf_calls {E : Env} {n : Nat} {tx : List Int → ByteArray} {mvf : Int → List Int → List Int} {Good : List Int → Prop} (K0 : Con E n tx mvf Good) (l : List Int) (a b c : Nat) (A : Option Addr) (w0 W : World) (Vo : Value) (L : List ByteArray)
    (hln : l.length = n) (hgd : Good l) (hF : FS E w0 W Vo L) (hC : CV W (okF E.bo Vo) (.slice A l.length c) l) (hab : a ≤ 36 ∧ b ≤ 36) (hL : L.length ≤ 1000000) :
    Calls Try.prog 15 #[.slice A l.length c, .int .i64 (a : Int), .int .i64 (b : Int), .pointer (some ⟨E.bw, 0, none⟩), .pointer (some ⟨E.bh, 0, none⟩), .pointer (some ⟨E.bm, 0, none⟩), .pointer (some ⟨E.bo, 0, none⟩), .pointer (some ⟨E.bf, 0, none⟩)] W fun e W' =>
      e = .returned (.tuple #[]) ∧ ∃ Vo', FS E w0 W' Vo' (L ++ [leastI tx mvf E.ml l]) ∧ Fr E.bo W W' Vo Vo' := by
  have cw : W.cell? ⟨E.bw, 0, none⟩ = some (.int .i64 E.x) := (blk_cell hF.cw 0).trans rfl
  have ch : W.cell? ⟨E.bh, 0, none⟩ = some (.int .i64 E.y) := (blk_cell hF.ch 0).trans rfl
  have hsz : E.x * E.y = (l.length : Int) := by rw [hln]; exact K0.size
  have hsm : l.length ≤ 36 := by rw [hln]; exact K0.small
  have hml8 : E.ml.length ≤ 8 := K0.mlen
  have hwx : wrap64 (E.x * E.y) = (l.length : Int) := by rw [hsz]; unfold wrap64; omega
  have hd1 : decide ((l.length : Int) = (l.length : Int)) = true := by simp
  obtain ⟨_, hle, hC0⟩ := Kd.V_reads' hC
  have K := Aside0.mk K0
  have P := Aside0.mk (And.intro hF hC)
  have G := Aside0.mk (And.intro hln hgd)
  clear K0 hF hC hln hgd
  go_enter Try.func15, Try.ntmps15
  go_upto_region 3 with (first | ((with_reducible refine gate_dst (N := 12) rfl ?_); refine box_event ?hg (N := 12) ?hd (cs := #[.int .i64 0, .int .i64 0, .slice none 0 0]) (t := 40) ?hr ?_; (case hd => rfl); (case hg => rfl); (case hr => first | (go_simp; done) | (go_simp; rfl)); intro gb hg w9 hbox hb; have hcz0 : w9.cell? ⟨gb, 0, none⟩ = some (.int .i64 0) := (blk_cell hbox 0).trans rfl; have hcz1 : w9.cell? ⟨gb, 1, none⟩ = some (.int .i64 0) := (blk_cell hbox 1).trans rfl; have hcz2 : w9.cell? ⟨gb, 2, none⟩ = some (.slice none 0 0) := (blk_cell hbox 2).trans rfl; have hfz0 := blk_frozen hbox 0; have hfz1 := blk_frozen hbox 1; have hfz2 := blk_frozen hbox 2; have HB9 := Aside0.mk (And.intro hb (And.intro hbox hg)); clear hb hbox hg))
  have hgb : gb = W.heap.size := HB9.out.2.2
  have hBx : Below W.heap.size W (((w9.setCell ⟨gb, 0, none⟩ (.int .i64 E.x)).setCell ⟨gb, 1, none⟩ (.int .i64 E.y)).setCell ⟨gb, 2, none⟩ (.slice A l.length c)) := below_set (below_set (below_set HB9.out.1 (by omega)) (by omega)) (by omega)
  have hxx : (((w9.setCell ⟨gb, 0, none⟩ (.int .i64 E.x)).setCell ⟨gb, 1, none⟩ (.int .i64 E.y)).setCell ⟨gb, 2, none⟩ (.slice A l.length c)).heap[gb]? = some (.cells #[.int .i64 E.x, .int .i64 E.y, .slice A l.length c] 40 (0, 0)) := blk_put (blk_put (blk_put HB9.out.2.1 0 _ rfl) 1 _ rfl) 2 _ rfl
  clear HB9 hcz0 hcz1 hcz2 hfz0 hfz1 hfz2 hgb cw ch
  obtain ⟨wX, hwX⟩ : ∃ wX, (((w9.setCell ⟨gb, 0, none⟩ (.int .i64 E.x)).setCell ⟨gb, 1, none⟩ (.int .i64 E.y)).setCell ⟨gb, 2, none⟩ (.slice A l.length c)) = wX := ⟨_, rfl⟩
  rw [hwX] at hBx hxx ⊢
  clear hwX
  obtain ⟨Am, cm, hVm⟩ := Kd.V_slice P.out.1.mv
  have X := Aside0.mk (And.intro hBx hxx)
  have q0 : wX.cell? ⟨gb, 0, none⟩ = some (.int .i64 E.x) := (blk_cell hxx 0).trans rfl
  have q1 : wX.cell? ⟨gb, 1, none⟩ = some (.int .i64 E.y) := (blk_cell hxx 1).trans rfl
  have q2 : wX.cell? ⟨gb, 2, none⟩ = some (.slice A l.length c) := (blk_cell hxx 2).trans rfl
  clear hBx hxx
  go_upto_region 4 with (go_at_call 16; refine (K.out.text l A c _ G.out.1 G.out.2 (Kd.C_below hC0 X.out.1) hle).mono ?_; rintro e w2 ⟨rfl, hb2⟩)
  have hb20 : Below W.heap.size W w2 := X.out.1.trans (hb2.mono X.out.1.size)
  have hcm2 : w2.cell? ⟨E.bm, 0, none⟩ = some (.slice Am E.ml.length cm) := by
    rw [← hVm]
    exact (blk_cell (P.out.1.to hb20).cm 0).trans rfl
  have HB := Aside0.mk (And.intro hb2 hb20)
  clear q0 q1 q2 hb2 hb20
  have hmx : ∀ (w : World) (ts : Array TypeId) (t : TypeId) (x y : ByteArray), (Builtin.min_ ts t #[.string x, .string y]).run Try.prog w = .ok (.string (Lib.minS x y)) w := Lib.run_min_strs
  go_wp2
  go_loopw [13, 40] (fun s13 s40 wr => ∃ i : Nat, i ≤ E.ml.length ∧ s13 = .string ((E.ml.take i).foldl (fun t m => Lib.minS t (tx (mvf m l))) (tx l)) ∧ s40 = .int .i64 (i : Int) ∧ Aside0 (Below wX.heap.size wX wr))
    (fun _ s40 _ => E.ml.length - (intOf s40).toNat)
  case atStart => exact ⟨0, Nat.zero_le _, rfl, rfl, Aside0.mk HB.out.1⟩
  case round =>
    obtain ⟨i, hi, rfl, rfl, HBr⟩ := hrel
    clear hcm2
    have hBr0 : Below W.heap.size W wr := X.out.1.trans (HBr.out.mono X.out.1.size)
    by_cases hlt : i < E.ml.length
    · have hlti : (i : Int) < (E.ml.length : Int) := by omega
      have hFr := P.out.1.to hBr0
      have hmv := hFr.mv
      rw [hVm] at hmv
      obtain ⟨_, _, hCm⟩ := Kd.V_reads' hmv
      obtain ⟨ad, hAd, hcell⟩ := Kd.at_int hCm (i : Int) (by omega) hlti
      subst hAd
      rw [Int.toNat_natCast] at hcell
      have em : rd E.ml (i : Int) = E.ml[i] := by
        unfold rd
        rw [Int.toNat_natCast, List.getD_eq_getElem?_getD, List.getElem?_eq_getElem hlt]
        rfl
      rw [em] at hcell
      obtain ⟨mm, hmm⟩ : ∃ mm, E.ml[i] = mm := ⟨_, rfl⟩
      rw [hmm] at hcell
      have hmem : mm ∈ E.ml := by rw [← hmm]; exact List.getElem_mem hlt
      have hstep : (E.ml.take (i + 1)).foldl (fun t m => Lib.minS t (tx (mvf m l))) (tx l) = Lib.minS ((E.ml.take i).foldl (fun t m => Lib.minS t (tx (mvf m l))) (tx l)) (tx (mvf mm l)) := by
        rw [List.take_add_one, List.getElem?_eq_getElem hlt, List.foldl_append, hmm]
        rfl
      have hxr := (HBr.out.block _ (lt_of X.out.2)).trans X.out.2
      have q0 : wr.cell? ⟨gb, 0, none⟩ = some (.int .i64 E.x) := (blk_cell hxr 0).trans rfl
      have q1 : wr.cell? ⟨gb, 1, none⟩ = some (.int .i64 E.y) := (blk_cell hxr 1).trans rfl
      have q2 : wr.cell? ⟨gb, 2, none⟩ = some (.slice A l.length c) := (blk_cell hxr 2).trans rfl
      have hVl : Kd.V (Kd.int .u8) 5 wr wr.heap.size (okF E.bo Vo) (.slice A l.length c) l := V_fr P.out.2 (Fr.of_below hBr0)
      have Y := Aside0.mk (And.intro hmem (And.intro hstep hVl))
      obtain ⟨tn, htn⟩ : ∃ tn, (E.ml.take i).foldl (fun t m => Lib.minS t (tx (mvf m l))) (tx l) = tn := ⟨_, rfl⟩
      rw [htn]
      clear hxr hVl hstep hmem hFr hmv hCm em hBr0
      go_wp2_with (first
        | (go_at_call 17; refine (K.out.move l mm (okF E.bo Vo) A c wr G.out.1 G.out.2 Y.out.1 Y.out.2.2).mono ?_; rintro e2 w3 ⟨v2, rfl, hv2, hb3⟩; obtain ⟨A3, c3, rfl⟩ := Kd.V_slice hv2; have hr3 := Kd.V_reads' hv2; have hg3 := Aside0.mk (K.out.good l mm G.out.1 G.out.2 Y.out.1))
        | (go_at_call 16; refine (K.out.text (mvf mm l) A3 c3 w3 hg3.out.1 hg3.out.2 hr3.2.2 hr3.2.1).mono ?_; rintro e3 w4 ⟨rfl, hb4⟩))
      exact ⟨⟨i + 1, by omega, by rw [Y.out.2.1, htn], by simp, Aside0.mk (HBr.out.trans ((hb3.trans (hb4.mono hb3.size)).mono HBr.out.size))⟩, by simp [intOf]; omega⟩
    · have ei : i = E.ml.length := by omega
      subst ei
      rw [List.take_length]
      have hFr := P.out.1.to hBr0
      have cor : wr.cell? ⟨E.bo, 0, none⟩ = some Vo := (blk_cell hFr.co 0).trans rfl
      have hlo := lt_of hFr.co
      obtain ⟨Ao, co, rfl⟩ := own_slice hFr.own
      obtain ⟨i0, hi0, hz0, hz1, hz2⟩ := info_parts infoS
      have Z := Aside0.mk (And.intro hFr hBr0)
      have hownr := hFr.own
      have hgeb : w0.heap.size ≤ wr.heap.size := hFr.below.size
      obtain ⟨tt, htt⟩ : ∃ tt, E.ml.foldl (fun t m => Lib.minS t (tx (mvf m l))) (tx l) = tt := ⟨_, rfl⟩
      rw [htt]
      have hoo : some E.bo ≠ (Value.slice Ao L.length co).ownBlock := ne_own hownr hFr.co (by decide)
      have hcoA := ((below_alloc (Below.refl _ wr) (.cells #[.string tt] 9 (0, 0))).block _ (lt_of hFr.co)).trans hFr.co
      have hsA := (below_alloc (Below.refl _ wr) (.cells #[.string tt] 9 (0, 0))).size
      have V := Aside0.mk (And.intro hoo (And.intro hcoA htt))
      clear hFr hBr0 HBr HB hoo hcoA htt
      go_wp2_with (at_builtin; refine wpList_append_keep _ rfl _ _ _ rfl w0.heap.size 9 i0 _ 1 16 Try.underlying22 hi0 hz0 hz1 hz2 rfl (by omega) (.slice Ao L.length co) L.length (L.map Value.string) rfl (own_move hownr (fun k hk => (below_alloc (Below.refl _ wr) (.cells #[.string tt] 9 (0, 0))).block k (own_lt hownr k hk))) ⟨wr.heap.size, 0, none⟩ 1 1 [.string tt] rfl rfl (cells_of (Go.MapKept.heap_alloc wr (.cells #[.string tt] 9 (0, 0))).1) (by simp [Value.oneCell']) (by omega) (by simp only [maxLen]; omega) (by omega) (Nat.le_trans hgeb hsA) ?_; intro V2 w6 hown6 hg6 hat6 hold6; obtain ⟨A2, c2, rfl⟩ := own_slice hown6; have hco6 := (hg6.block _ (lt_of V.out.2.1) V.out.1).trans V.out.2.1; have co6 : w6.cell? ⟨E.bo, 0, none⟩ = some (.slice Ao L.length co) := (blk_cell hco6 0).trans rfl; have fo6 := blk_frozen hco6 0; have AT := Aside0.mk (And.intro hown6 (And.intro hg6 hat6)); clear cor hown6 hg6 hat6 hold6)
      have hpush := (Z.out.1.to (below_alloc (Below.refl _ wr) (.cells #[.string tt] 9 (0, 0)))).push AT.out.1 AT.out.2.1 AT.out.2.2 rfl
      refine bodyPost_ret (results_none rfl _ _ _) rfl ?_
      refine ⟨rfl, .slice A2 (L.length + 1) c2, ?_, ?_⟩
      · unfold leastI
        rw [V.out.2.2]
        exact hpush.1
      · exact (Fr.of_below (Z.out.2.trans ((below_alloc (Below.refl _ wr) (.cells #[.string tt] 9 (0, 0))).mono Z.out.2.size))).trans hpush.2
/-- The closure, behind the leaf: three ways on. -/
theorem CV_snoc {E : Env} {w0 w1 W : World} {Vo V : Value} {L : List ByteArray} {l : List Int} {b : Int} (hF : FS E w0 w1 Vo L) (hB : Below w1.heap.size w1 W) (h : W.ownsRow w1.heap.size 5 1 V (l.length + 1) (u8s (l ++ [b]))) : ∃ A c, V = .slice A (l ++ [b]).length c ∧ CV W (okF E.bo Vo) (.slice A (l ++ [b]).length c) (l ++ [b]) := by
  have hR : Kd.R (Kd.int .u8) 5 W w1.heap.size (fun _ => True) V (l ++ [b]) := Kd.R_of_own (h1 := fun _ => rfl) (by rw [List.length_append, List.length_singleton]; exact h) (fun _ _ => trivial)
  obtain ⟨A, c, rfl⟩ := Kd.R_slice hR
  refine ⟨A, c, rfl, Kd.V_mono (Kd.R_V (Kd.R_bound hR)) (fun k hk => ⟨fun e => ?_, fun e => ?_⟩)⟩
  · have := lt_of hF.co
    have := hk.2.1
    omega
  · have := own_lt hF.own k e.symm
    have := hk.2.1
    omega
theorem i64_small {n : Nat} (h : n ≤ 1000000) : IntKind.i64.wrap (n : Int) = (n : Int) := by
  simp only [i64_w]
  unfold wrap64
  omega
theorem leaves_len (least : List Int → ByteArray) : ∀ (d : Nat) (l : List Int) (a b : Nat), 0 ≤ (leaves least d l a b).length := fun _ _ _ _ => Nat.zero_le _
set_option maxRecDepth 100000 in
set_option maxHeartbeats 8000000 in
theorem fill_calls {E : Env} {n : Nat} {tx : List Int → ByteArray} {mvf : Int → List Int → List Int} {Good : List Int → Prop} (K0 : Con E n tx mvf Good) (w0 : World) : ∀ (d : Nat) (l : List Int) (a b c : Nat) (A : Option Addr) (W : World) (Vo : Value) (L : List ByteArray),
    l.length + d = n → a + b ≤ d → Good l → FS E w0 W Vo L → CV W (okF E.bo Vo) (.slice A l.length c) l → L.length + (leaves (leastI tx mvf E.ml) d l a b).length ≤ 1000000 →
    Calls Try.prog 15 #[.slice A l.length c, .int .i64 (a : Int), .int .i64 (b : Int), .pointer (some ⟨E.bw, 0, none⟩), .pointer (some ⟨E.bh, 0, none⟩), .pointer (some ⟨E.bm, 0, none⟩), .pointer (some ⟨E.bo, 0, none⟩), .pointer (some ⟨E.bf, 0, none⟩)] W fun e W' =>
      e = .returned (.tuple #[]) ∧ ∃ Vo', FS E w0 W' Vo' (L ++ leaves (leastI tx mvf E.ml) d l a b) ∧ Fr E.bo W W' Vo Vo'
  | 0, l, a, b, c, A, W, Vo, L, hd, hab, hg, hF, hC, hL => by
    have hn := K0.small
    exact leaf_calls K0 l a b c A w0 W Vo L (by omega) hg hF hC ⟨by omega, by omega⟩ (by simp [leaves] at hL; omega)
  | d + 1, l, a, b, c, A, W, Vo, L, hd, hab, hg, hF, hC, hL => by
    have hn := K0.small
    have IH := Aside0.mk (fill_calls K0 w0 d)
    have K := Aside0.mk K0
    have cw : W.cell? ⟨E.bw, 0, none⟩ = some (.int .i64 E.x) := (blk_cell hF.cw 0).trans rfl
    have ch : W.cell? ⟨E.bh, 0, none⟩ = some (.int .i64 E.y) := (blk_cell hF.ch 0).trans rfl
    have hsz : E.x * E.y = ((l.length + d + 1 : Nat) : Int) := by rw [K0.size]; omega
    have hsm : l.length + d + 1 ≤ 36 := by omega
    have hwx : wrap64 (E.x * E.y) = ((l.length + d + 1 : Nat) : Int) := by rw [hsz]; unfold wrap64; omega
    have hd1 : decide ((l.length : Int) = ((l.length + d + 1 : Nat) : Int)) = false := decide_eq_false (by omega)
    have G := Aside0.mk (And.intro hg (And.intro hF (And.intro hC (And.intro hd hL))))
    clear hg hF hC hd hL K0
    go_enter Try.func15, Try.ntmps15
    go_upto_if 56 with fail
    go_cut [] from 16 (fun wc => ∃ V1, Aside0 (FS E w0 wc V1 (L ++ (if 0 < a then leaves (leastI tx mvf E.ml) d (l ++ [35]) (a - 1) b else []))) ∧ Aside0 (Fr E.bo W wc Vo V1))
    case first =>
      by_cases ha : 0 < a
      · obtain ⟨m, rfl⟩ : ∃ m, a = m + 1 := ⟨a - 1, by omega⟩
        have hgt : decide (((m + 1 : Nat) : Int) > 0) = true := decide_eq_true (by omega)
        obtain ⟨hle, hC3⟩ : l.length ≤ c ∧ Kd.C (Kd.int .u8) W A l.length l := ⟨(Kd.V_reads' G.out.2.2.1).2.1, (Kd.V_reads' (V_fr G.out.2.2.1 (Fr.of_below (Below.refl _ W)))).2.2⟩
        have hFc := G.out.2.1
        have lf := lt_of hFc.cf
        have cf : W.cell? ⟨E.bf, 0, none⟩ = some (clo E.bw E.bh E.bm E.bo E.bf) := (blk_cell hFc.cf 0).trans rfl
        have hlen : (L).length + (leaves (leastI tx mvf E.ml) d (l ++ [35]) m b).length ≤ 1000000 := by
          have h := G.out.2.2.2.2
          unfold leaves at h
          simp only [List.length_append] at h ⊢
          rw [if_pos ha, show m + 1 - 1 = m by omega] at h
          omega
        have hsn := K.out.snoc l 35 (by omega) G.out.1
        have Z := Aside0.mk (And.intro hFc (And.intro hC3 (And.intro hlen (And.intro hsn hle))))
        clear hFc hC3 hlen hsn hle
        go_wp2_with fail
        refine R11_region rfl R11.tab (by intro c a d v w z; exact z) rfl rfl rfl rfl rfl rfl rfl rfl rfl rfl rfl rfl rfl rfl rfl rfl rfl rfl rfl rfl rfl rfl rfl rfl rfl rfl rfl rfl rfl rfl rfl rfl rfl rfl rfl rfl (l := l) (bw := E.bw) (bh := E.bh) (bm := E.bm) (bo := E.bo) (bf := E.bf) (Post := fun W' => ∃ Vq, FS E w0 W' Vq (L ++ leaves (leastI tx mvf E.ml) d (l ++ [35]) m b) ∧ Fr E.bo W W' Vo Vq) (by omega) (i64_small (by omega)) lf cf (fun W5 hB => K.out.clone l A c W5 (by have := G.out.2.2.2.1; omega) (Kd.C_below Z.out.2.1 hB) Z.out.2.2.2.2) (fun W5 V5 hB hown => ?_) (fun x1 x2 x3 W5 hP => ?_) rfl
        · obtain ⟨A5, c5, rfl, hCV⟩ := CV_snoc Z.out.1 hB hown
          refine (IH.out (l ++ [35]) m b c5 A5 W5 Vo (L) (by have := G.out.2.2.2.1; rw [List.length_append, List.length_singleton]; omega) (by omega) Z.out.2.2.2.1 (Z.out.1.to hB) hCV Z.out.2.2.1).mono ?_
          rintro e W6 ⟨rfl, V6, hF6, hFr6⟩
          exact ⟨rfl, V6, hF6, (Fr.of_below hB).trans hFr6⟩
        · obtain ⟨V6, hF6, hFr6⟩ := hP
          have Y := Aside0.mk (And.intro hF6 hFr6)
          clear hF6 hFr6
          go_wp2_with fail
          go_meet
          case rel => exact ⟨V6, Aside0.mk (by rw [if_pos ha, show m + 1 - 1 = m by omega]; exact Y.out.1), Aside0.mk Y.out.2⟩
      · have e : a = 0 := by omega
        subst e
        go_wp2_with fail
        go_meet
        case rel => exact ⟨Vo, Aside0.mk (by rw [if_neg ha, List.append_nil]; exact G.out.2.1), Aside0.mk (Fr.of_below (Below.refl _ W))⟩
    case rest =>
      obtain ⟨V1, hF1, hFr1⟩ := hcut
      clear cw ch
      go_upto_if 67 with fail
      go_cut [] from 16 (fun wd => ∃ V2, Aside0 (FS E w0 wd V2 (L ++ (if 0 < a then leaves (leastI tx mvf E.ml) d (l ++ [35]) (a - 1) b else []) ++ (if 0 < b then leaves (leastI tx mvf E.ml) d (l ++ [111]) a (b - 1) else []))) ∧ Aside0 (Fr E.bo W wd Vo V2))
      case first =>
        by_cases hb : 0 < b
        · obtain ⟨m, rfl⟩ : ∃ m, b = m + 1 := ⟨b - 1, by omega⟩
          have hgt : decide (((m + 1 : Nat) : Int) > 0) = true := decide_eq_true (by omega)
          obtain ⟨hle, hC3⟩ : l.length ≤ c ∧ Kd.C (Kd.int .u8) wc A l.length l := ⟨(Kd.V_reads' G.out.2.2.1).2.1, (Kd.V_reads' (V_fr G.out.2.2.1 hFr1.out)).2.2⟩
          have hFc := hF1.out
          have lf := lt_of hFc.cf
          have cf : wc.cell? ⟨E.bf, 0, none⟩ = some (clo E.bw E.bh E.bm E.bo E.bf) := (blk_cell hFc.cf 0).trans rfl
          have hlen : (L ++ (if 0 < a then leaves (leastI tx mvf E.ml) d (l ++ [35]) (a - 1) (m + 1) else [])).length + (leaves (leastI tx mvf E.ml) d (l ++ [111]) a m).length ≤ 1000000 := by
            have h := G.out.2.2.2.2
            unfold leaves at h
            simp only [List.length_append] at h ⊢
            rw [if_pos hb, show m + 1 - 1 = m by omega] at h
            omega
          have hsn := K.out.snoc l 111 (by omega) G.out.1
          have Z := Aside0.mk (And.intro hFc (And.intro hC3 (And.intro hlen (And.intro hsn hle))))
          clear hFc hC3 hlen hsn hle
          go_wp2_with fail
          refine R13_region rfl R13.tab (by intro c a d v w z; exact z) rfl rfl rfl rfl rfl rfl rfl rfl rfl rfl rfl rfl rfl rfl rfl rfl rfl rfl rfl rfl rfl rfl rfl rfl rfl rfl rfl rfl rfl rfl rfl rfl rfl rfl rfl rfl (l := l) (bw := E.bw) (bh := E.bh) (bm := E.bm) (bo := E.bo) (bf := E.bf) (Post := fun W' => ∃ Vq, FS E w0 W' Vq (L ++ (if 0 < a then leaves (leastI tx mvf E.ml) d (l ++ [35]) (a - 1) (m + 1) else []) ++ leaves (leastI tx mvf E.ml) d (l ++ [111]) a m) ∧ Fr E.bo wc W' V1 Vq) (by omega) (i64_small (by omega)) lf cf (fun W5 hB => K.out.clone l A c W5 (by have := G.out.2.2.2.1; omega) (Kd.C_below Z.out.2.1 hB) Z.out.2.2.2.2) (fun W5 V5 hB hown => ?_) (fun x1 x2 x3 W5 hP => ?_) rfl
          · obtain ⟨A5, c5, rfl, hCV⟩ := CV_snoc Z.out.1 hB hown
            refine (IH.out (l ++ [111]) a m c5 A5 W5 V1 (L ++ (if 0 < a then leaves (leastI tx mvf E.ml) d (l ++ [35]) (a - 1) (m + 1) else [])) (by have := G.out.2.2.2.1; rw [List.length_append, List.length_singleton]; omega) (by omega) Z.out.2.2.2.1 (Z.out.1.to hB) hCV Z.out.2.2.1).mono ?_
            rintro e W6 ⟨rfl, V6, hF6, hFr6⟩
            exact ⟨rfl, V6, hF6, (Fr.of_below hB).trans hFr6⟩
          · obtain ⟨V6, hF6, hFr6⟩ := hP
            have Y := Aside0.mk (And.intro hF6 hFr6)
            clear hF6 hFr6
            go_wp2_with fail
            go_meet
            case rel => exact ⟨V6, Aside0.mk (by rw [if_pos hb, show m + 1 - 1 = m by omega]; exact Y.out.1), Aside0.mk (hFr1.out.trans Y.out.2)⟩
        · have e : b = 0 := by omega
          subst e
          go_wp2_with fail
          go_meet
          case rel => exact ⟨V1, Aside0.mk (by rw [if_neg hb, List.append_nil]; exact hF1.out), hFr1⟩
      case rest =>
        obtain ⟨V2, hF2, hFr2⟩ := hcut
        clear hF1 hFr1
        by_cases hc : a + b < d + 1
        · have hgt : decide (((l.length + d + 1 : Nat) : Int) - (l.length : Int) - (a : Int) - (b : Int) > 0) = true := decide_eq_true (by omega)
          obtain ⟨hle, hC3⟩ : l.length ≤ c ∧ Kd.C (Kd.int .u8) wc A l.length l := ⟨(Kd.V_reads' G.out.2.2.1).2.1, (Kd.V_reads' (V_fr G.out.2.2.1 hFr2.out)).2.2⟩
          have hFc := hF2.out
          have lf := lt_of hFc.cf
          have cf : wc.cell? ⟨E.bf, 0, none⟩ = some (clo E.bw E.bh E.bm E.bo E.bf) := (blk_cell hFc.cf 0).trans rfl
          have hlen : (L ++ (if 0 < a then leaves (leastI tx mvf E.ml) d (l ++ [35]) (a - 1) b else []) ++ (if 0 < b then leaves (leastI tx mvf E.ml) d (l ++ [111]) a (b - 1) else [])).length + (leaves (leastI tx mvf E.ml) d (l ++ [46]) a b).length ≤ 1000000 := by
            have h := G.out.2.2.2.2
            unfold leaves at h
            simp only [List.length_append] at h ⊢
            rw [if_pos hc] at h
            omega
          have hsn := K.out.snoc l 46 (by omega) G.out.1
          have Z := Aside0.mk (And.intro hFc (And.intro hC3 (And.intro hlen (And.intro hsn hle))))
          clear hFc hC3 hlen hsn hle
          go_wp2_with fail
          refine R15_region rfl R15.tab (by intro c a d v w z; exact z) rfl rfl rfl rfl rfl rfl rfl rfl rfl rfl rfl rfl rfl rfl rfl rfl rfl rfl rfl rfl rfl rfl rfl rfl rfl rfl rfl rfl rfl rfl rfl rfl (l := l) (bw := E.bw) (bh := E.bh) (bm := E.bm) (bo := E.bo) (bf := E.bf) (Post := fun W' => ∃ Vq, FS E w0 W' Vq (L ++ (if 0 < a then leaves (leastI tx mvf E.ml) d (l ++ [35]) (a - 1) b else []) ++ (if 0 < b then leaves (leastI tx mvf E.ml) d (l ++ [111]) a (b - 1) else []) ++ leaves (leastI tx mvf E.ml) d (l ++ [46]) a b) ∧ Fr E.bo wc W' V2 Vq) (by omega) (i64_small (n := 0) (by omega)) lf cf (fun W5 hB => K.out.clone l A c W5 (by have := G.out.2.2.2.1; omega) (Kd.C_below Z.out.2.1 hB) Z.out.2.2.2.2) (fun W5 V5 hB hown => ?_) (fun x1 x2 x3 W5 hP => ?_) rfl
          · obtain ⟨A5, c5, rfl, hCV⟩ := CV_snoc Z.out.1 hB hown
            refine (IH.out (l ++ [46]) a b c5 A5 W5 V2 (L ++ (if 0 < a then leaves (leastI tx mvf E.ml) d (l ++ [35]) (a - 1) b else []) ++ (if 0 < b then leaves (leastI tx mvf E.ml) d (l ++ [111]) a (b - 1) else [])) (by have := G.out.2.2.2.1; rw [List.length_append, List.length_singleton]; omega) (by omega) Z.out.2.2.2.1 (Z.out.1.to hB) hCV Z.out.2.2.1).mono ?_
            rintro e W6 ⟨rfl, V6, hF6, hFr6⟩
            exact ⟨rfl, V6, hF6, (Fr.of_below hB).trans hFr6⟩
          · obtain ⟨V6, hF6, hFr6⟩ := hP
            have Y := Aside0.mk (And.intro hF6 hFr6)
            clear hF6 hFr6
            go_wp2_with fail
            refine bodyPost_end (results_none rfl _ _ _) rfl ?_
            exact ⟨rfl, V6, by unfold leaves; rw [if_pos hc, ← List.append_assoc, ← List.append_assoc]; exact Y.out.1, hFr2.out.trans Y.out.2⟩
        · go_wp2_with fail
          refine bodyPost_end (results_none rfl _ _ _) rfl ?_
          exact ⟨rfl, V2, by unfold leaves; rw [if_neg hc, List.append_nil, ← List.append_assoc]; exact hF2.out, hFr2.out⟩
end FL
end Go.Proofs.YtoojemnocncafaaV
