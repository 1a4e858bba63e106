/- Contract of the program's GateName: a map literal's entries are laid one by one, one is looked up. -/
import Derived.WalkKit
import Derived.Lib.Walk
import Derived.RangeFuncBox
import Derived.MapKept
import Derived.Test.YtemglibjcoggoaaProg
import Derived.Test.YtemglibjcoggoaaWLast
import Derived.Test.YtemglibjcoggoaaWMore
set_option linter.unusedVariables false
set_option linter.unusedSimpArgs false
namespace Go.Proofs.YtemglibjcoggoaaV
open Go.RowKit Go.Proofs.YtemglibjcoggoaaW.PrintWords Go.Proofs.YtemglibjcoggoaaW.PrintLast
namespace GN
variable {P : Program} {T K E : TypeId}
theorem set_new (w : World) (o o' : Obj) : ({ w.alloc o with heap := (w.alloc o).heap.setIfInBounds w.heap.size o' } : World) = w.alloc o' := by
  have hp : ∀ (h : Array Obj) (x y : Obj), (h.push x).setIfInBounds h.size y = h.push y := by
    intro h x y
    apply Array.toList_inj.1
    simp
  show ({ w.alloc o with heap := (w.heap.push o).setIfInBounds w.heap.size o' } : World) = _
  rw [hp]
  rfl
theorem ins (hT : P.underlying T = some (.map K E)) (hK : P.underlying K = some (.int .i64)) (w : World) (es : Array MapEntry) (c : Nat) (k : Int) (v : Value) (hn : Instr.findNow (.int .i64) (.int .i64 k) es.toList 0 = some none) :
    (Instr.mapUpdate T (.map (some w.heap.size)) (.int .i64 k) v).run P (w.alloc (.map es c)) = .ok () (w.alloc (.map (es.push ⟨.int .i64 k, v, c⟩) (c + 1))) := by
  have hb : (w.alloc (.map es c)).heap[w.heap.size]? = some (.map es c) := World.alloc_heap_new w _
  have hkey : MapKept.IsKey (.int .i64) (.int .i64 k) := rfl
  have h := set_new w (.map es c) (.map (es.push ⟨.int .i64 k, v, c⟩) (c + 1))
  simp only [Instr.mapUpdate, Sem.run_bind, run_underlying hT, MapKept.run_getObj_map hb, MapKept.run_checkKey hK hkey, MapKept.run_findKey hK hn, MapKept.run_setObj_map _ hb, Result.andThen]
  rw [h]
theorem lookG (hT : P.underlying T = some (.map K E)) (hK : P.underlying K = some (.int .i64)) (hz : ∀ w, (zeroValue E).run P w = .ok (.string ⟨#[]⟩) w) (w : World) (es : Array MapEntry) (c : Nat) (k : Int) (r : Option (Nat × Value)) (hn : Instr.findNow (.int .i64) (.int .i64 k) es.toList 0 = some r) :
    (Instr.lookup T (.map (some w.heap.size)) (.int .i64 k) true).run P (w.alloc (.map es c)) = .ok (.tuple #[(r.map (·.2)).getD (.string ⟨#[]⟩), .bool r.isSome]) (w.alloc (.map es c)) := by
  have hb : (w.alloc (.map es c)).heap[w.heap.size]? = some (.map es c) := World.alloc_heap_new w _
  have hkey : MapKept.IsKey (.int .i64) (.int .i64 k) := rfl
  cases r with
  | none => simp [Instr.lookup, Sem.run_bind, run_underlying hT, MapKept.run_getObj_map hb, MapKept.run_checkKey hK hkey, MapKept.run_findKey hK hn, Result.andThen, hz]
  | some p => simp [Instr.lookup, Sem.run_bind, run_underlying hT, MapKept.run_getObj_map hb, MapKept.run_checkKey hK hkey, MapKept.run_findKey hK hn, Result.andThen]
end GN
open GN
def gates : Array MapEntry := #[⟨.int .i64 1, .string ⟨#[97, 110, 100]⟩, 0⟩, ⟨.int .i64 7, .string ⟨#[111, 114]⟩, 1⟩, ⟨.int .i64 6, .string ⟨#[120, 111, 114]⟩, 2⟩, ⟨.int .i64 14, .string ⟨#[110, 97, 110, 100]⟩, 3⟩, ⟨.int .i64 8, .string ⟨#[110, 111, 114]⟩, 4⟩, ⟨.int .i64 9, .string ⟨#[120, 110, 111, 114]⟩, 5⟩, ⟨.int .i64 3, .string ⟨#[102, 105, 114, 115, 116]⟩, 6⟩, ⟨.int .i64 5, .string ⟨#[115, 101, 99, 111, 110, 100]⟩, 7⟩, ⟨.int .i64 0, .string ⟨#[122, 101, 114, 111]⟩, 8⟩, ⟨.int .i64 15, .string ⟨#[111, 110, 101]⟩, 9⟩]
/-- The name of a gate number. -/
def gateN (n : Int) : ByteArray := if n = 1 then ⟨#[97, 110, 100]⟩ else if n = 7 then ⟨#[111, 114]⟩ else if n = 6 then ⟨#[120, 111, 114]⟩ else if n = 14 then ⟨#[110, 97, 110, 100]⟩ else if n = 8 then ⟨#[110, 111, 114]⟩ else if n = 9 then ⟨#[120, 110, 111, 114]⟩ else if n = 3 then ⟨#[102, 105, 114, 115, 116]⟩ else if n = 5 then ⟨#[115, 101, 99, 111, 110, 100]⟩ else if n = 0 then ⟨#[122, 101, 114, 111]⟩ else if n = 15 then ⟨#[111, 110, 101]⟩ else ⟨#[111, 116, 104, 101, 114]⟩
def gateFound (n : Int) : Option (Nat × Value) := if n = 1 then some (0, .string ⟨#[97, 110, 100]⟩) else if n = 7 then some (1, .string ⟨#[111, 114]⟩) else if n = 6 then some (2, .string ⟨#[120, 111, 114]⟩) else if n = 14 then some (3, .string ⟨#[110, 97, 110, 100]⟩) else if n = 8 then some (4, .string ⟨#[110, 111, 114]⟩) else if n = 9 then some (5, .string ⟨#[120, 110, 111, 114]⟩) else if n = 3 then some (6, .string ⟨#[102, 105, 114, 115, 116]⟩) else if n = 5 then some (7, .string ⟨#[115, 101, 99, 111, 110, 100]⟩) else if n = 0 then some (8, .string ⟨#[122, 101, 114, 111]⟩) else if n = 15 then some (9, .string ⟨#[111, 110, 101]⟩) else none
theorem found_all : ∀ n : Int, 0 ≤ n → n ≤ 15 → Instr.findNow (.int .i64) (.int .i64 n) gates.toList 0 = some (gateFound n) := by
  intro n h0 h1
  obtain ⟨m, rfl⟩ := Int.eq_ofNat_of_zero_le h0
  have hm : m < 16 := by omega
  have h : m = 0 ∨ m = 1 ∨ m = 2 ∨ m = 3 ∨ m = 4 ∨ m = 5 ∨ m = 6 ∨ m = 7 ∨ m = 8 ∨ m = 9 ∨ m = 10 ∨ m = 11 ∨ m = 12 ∨ m = 13 ∨ m = 14 ∨ m = 15 := by omega
  rcases h with rfl | rfl | rfl | rfl | rfl | rfl | rfl | rfl | rfl | rfl | rfl | rfl | rfl | rfl | rfl | rfl <;> rfl
set_option maxRecDepth 100000 in
set_option maxHeartbeats 2000000 in
theorem gateName_calls (n : Int) (h0 : 0 ≤ n) (h1 : n ≤ 15) (w : World) (HG : ∀ W, Calls Try.prog 38 #[.int .i64 n] W fun e w' => e = .returned (.bool true) ∧ Drawn0 W w') :
    Calls Try.prog 14 #[.int .i64 n] w fun e w' => e = .returned (.tuple #[.string (gateN n), .bool true]) ∧ Below w.heap.size w w' := by
  have hmm := @run_makeMap Try.prog
  have HG' := Aside0.mk HG
  clear HG
  have i0 : ∀ nd : Nat, (Instr.mapUpdate 47 (.map (some w.heap.size)) (.int .i64 1) (.string ⟨#[97, 110, 100]⟩)).run Try.prog ((w.drewN nd).alloc (.map #[] 0)) = .ok () ((w.drewN nd).alloc (.map #[⟨.int .i64 1, .string ⟨#[97, 110, 100]⟩, 0⟩] 1)) := fun nd => ins (P := Try.prog) Try.underlying47 Try.underlying3 (w.drewN nd) #[] 0 1 (.string ⟨#[97, 110, 100]⟩) rfl
  have i1 : ∀ nd : Nat, (Instr.mapUpdate 47 (.map (some w.heap.size)) (.int .i64 7) (.string ⟨#[111, 114]⟩)).run Try.prog ((w.drewN nd).alloc (.map #[⟨.int .i64 1, .string ⟨#[97, 110, 100]⟩, 0⟩] 1)) = .ok () ((w.drewN nd).alloc (.map #[⟨.int .i64 1, .string ⟨#[97, 110, 100]⟩, 0⟩, ⟨.int .i64 7, .string ⟨#[111, 114]⟩, 1⟩] 2)) := fun nd => ins (P := Try.prog) Try.underlying47 Try.underlying3 (w.drewN nd) #[⟨.int .i64 1, .string ⟨#[97, 110, 100]⟩, 0⟩] 1 7 (.string ⟨#[111, 114]⟩) rfl
  have i2 : ∀ nd : Nat, (Instr.mapUpdate 47 (.map (some w.heap.size)) (.int .i64 6) (.string ⟨#[120, 111, 114]⟩)).run Try.prog ((w.drewN nd).alloc (.map #[⟨.int .i64 1, .string ⟨#[97, 110, 100]⟩, 0⟩, ⟨.int .i64 7, .string ⟨#[111, 114]⟩, 1⟩] 2)) = .ok () ((w.drewN nd).alloc (.map #[⟨.int .i64 1, .string ⟨#[97, 110, 100]⟩, 0⟩, ⟨.int .i64 7, .string ⟨#[111, 114]⟩, 1⟩, ⟨.int .i64 6, .string ⟨#[120, 111, 114]⟩, 2⟩] 3)) := fun nd => ins (P := Try.prog) Try.underlying47 Try.underlying3 (w.drewN nd) #[⟨.int .i64 1, .string ⟨#[97, 110, 100]⟩, 0⟩, ⟨.int .i64 7, .string ⟨#[111, 114]⟩, 1⟩] 2 6 (.string ⟨#[120, 111, 114]⟩) rfl
  have i3 : ∀ nd : Nat, (Instr.mapUpdate 47 (.map (some w.heap.size)) (.int .i64 14) (.string ⟨#[110, 97, 110, 100]⟩)).run Try.prog ((w.drewN nd).alloc (.map #[⟨.int .i64 1, .string ⟨#[97, 110, 100]⟩, 0⟩, ⟨.int .i64 7, .string ⟨#[111, 114]⟩, 1⟩, ⟨.int .i64 6, .string ⟨#[120, 111, 114]⟩, 2⟩] 3)) = .ok () ((w.drewN nd).alloc (.map #[⟨.int .i64 1, .string ⟨#[97, 110, 100]⟩, 0⟩, ⟨.int .i64 7, .string ⟨#[111, 114]⟩, 1⟩, ⟨.int .i64 6, .string ⟨#[120, 111, 114]⟩, 2⟩, ⟨.int .i64 14, .string ⟨#[110, 97, 110, 100]⟩, 3⟩] 4)) := fun nd => ins (P := Try.prog) Try.underlying47 Try.underlying3 (w.drewN nd) #[⟨.int .i64 1, .string ⟨#[97, 110, 100]⟩, 0⟩, ⟨.int .i64 7, .string ⟨#[111, 114]⟩, 1⟩, ⟨.int .i64 6, .string ⟨#[120, 111, 114]⟩, 2⟩] 3 14 (.string ⟨#[110, 97, 110, 100]⟩) rfl
  have i4 : ∀ nd : Nat, (Instr.mapUpdate 47 (.map (some w.heap.size)) (.int .i64 8) (.string ⟨#[110, 111, 114]⟩)).run Try.prog ((w.drewN nd).alloc (.map #[⟨.int .i64 1, .string ⟨#[97, 110, 100]⟩, 0⟩, ⟨.int .i64 7, .string ⟨#[111, 114]⟩, 1⟩, ⟨.int .i64 6, .string ⟨#[120, 111, 114]⟩, 2⟩, ⟨.int .i64 14, .string ⟨#[110, 97, 110, 100]⟩, 3⟩] 4)) = .ok () ((w.drewN nd).alloc (.map #[⟨.int .i64 1, .string ⟨#[97, 110, 100]⟩, 0⟩, ⟨.int .i64 7, .string ⟨#[111, 114]⟩, 1⟩, ⟨.int .i64 6, .string ⟨#[120, 111, 114]⟩, 2⟩, ⟨.int .i64 14, .string ⟨#[110, 97, 110, 100]⟩, 3⟩, ⟨.int .i64 8, .string ⟨#[110, 111, 114]⟩, 4⟩] 5)) := fun nd => ins (P := Try.prog) Try.underlying47 Try.underlying3 (w.drewN nd) #[⟨.int .i64 1, .string ⟨#[97, 110, 100]⟩, 0⟩, ⟨.int .i64 7, .string ⟨#[111, 114]⟩, 1⟩, ⟨.int .i64 6, .string ⟨#[120, 111, 114]⟩, 2⟩, ⟨.int .i64 14, .string ⟨#[110, 97, 110, 100]⟩, 3⟩] 4 8 (.string ⟨#[110, 111, 114]⟩) rfl
  have i5 : ∀ nd : Nat, (Instr.mapUpdate 47 (.map (some w.heap.size)) (.int .i64 9) (.string ⟨#[120, 110, 111, 114]⟩)).run Try.prog ((w.drewN nd).alloc (.map #[⟨.int .i64 1, .string ⟨#[97, 110, 100]⟩, 0⟩, ⟨.int .i64 7, .string ⟨#[111, 114]⟩, 1⟩, ⟨.int .i64 6, .string ⟨#[120, 111, 114]⟩, 2⟩, ⟨.int .i64 14, .string ⟨#[110, 97, 110, 100]⟩, 3⟩, ⟨.int .i64 8, .string ⟨#[110, 111, 114]⟩, 4⟩] 5)) = .ok () ((w.drewN nd).alloc (.map #[⟨.int .i64 1, .string ⟨#[97, 110, 100]⟩, 0⟩, ⟨.int .i64 7, .string ⟨#[111, 114]⟩, 1⟩, ⟨.int .i64 6, .string ⟨#[120, 111, 114]⟩, 2⟩, ⟨.int .i64 14, .string ⟨#[110, 97, 110, 100]⟩, 3⟩, ⟨.int .i64 8, .string ⟨#[110, 111, 114]⟩, 4⟩, ⟨.int .i64 9, .string ⟨#[120, 110, 111, 114]⟩, 5⟩] 6)) := fun nd => ins (P := Try.prog) Try.underlying47 Try.underlying3 (w.drewN nd) #[⟨.int .i64 1, .string ⟨#[97, 110, 100]⟩, 0⟩, ⟨.int .i64 7, .string ⟨#[111, 114]⟩, 1⟩, ⟨.int .i64 6, .string ⟨#[120, 111, 114]⟩, 2⟩, ⟨.int .i64 14, .string ⟨#[110, 97, 110, 100]⟩, 3⟩, ⟨.int .i64 8, .string ⟨#[110, 111, 114]⟩, 4⟩] 5 9 (.string ⟨#[120, 110, 111, 114]⟩) rfl
  have i6 : ∀ nd : Nat, (Instr.mapUpdate 47 (.map (some w.heap.size)) (.int .i64 3) (.string ⟨#[102, 105, 114, 115, 116]⟩)).run Try.prog ((w.drewN nd).alloc (.map #[⟨.int .i64 1, .string ⟨#[97, 110, 100]⟩, 0⟩, ⟨.int .i64 7, .string ⟨#[111, 114]⟩, 1⟩, ⟨.int .i64 6, .string ⟨#[120, 111, 114]⟩, 2⟩, ⟨.int .i64 14, .string ⟨#[110, 97, 110, 100]⟩, 3⟩, ⟨.int .i64 8, .string ⟨#[110, 111, 114]⟩, 4⟩, ⟨.int .i64 9, .string ⟨#[120, 110, 111, 114]⟩, 5⟩] 6)) = .ok () ((w.drewN nd).alloc (.map #[⟨.int .i64 1, .string ⟨#[97, 110, 100]⟩, 0⟩, ⟨.int .i64 7, .string ⟨#[111, 114]⟩, 1⟩, ⟨.int .i64 6, .string ⟨#[120, 111, 114]⟩, 2⟩, ⟨.int .i64 14, .string ⟨#[110, 97, 110, 100]⟩, 3⟩, ⟨.int .i64 8, .string ⟨#[110, 111, 114]⟩, 4⟩, ⟨.int .i64 9, .string ⟨#[120, 110, 111, 114]⟩, 5⟩, ⟨.int .i64 3, .string ⟨#[102, 105, 114, 115, 116]⟩, 6⟩] 7)) := fun nd => ins (P := Try.prog) Try.underlying47 Try.underlying3 (w.drewN nd) #[⟨.int .i64 1, .string ⟨#[97, 110, 100]⟩, 0⟩, ⟨.int .i64 7, .string ⟨#[111, 114]⟩, 1⟩, ⟨.int .i64 6, .string ⟨#[120, 111, 114]⟩, 2⟩, ⟨.int .i64 14, .string ⟨#[110, 97, 110, 100]⟩, 3⟩, ⟨.int .i64 8, .string ⟨#[110, 111, 114]⟩, 4⟩, ⟨.int .i64 9, .string ⟨#[120, 110, 111, 114]⟩, 5⟩] 6 3 (.string ⟨#[102, 105, 114, 115, 116]⟩) rfl
  have i7 : ∀ nd : Nat, (Instr.mapUpdate 47 (.map (some w.heap.size)) (.int .i64 5) (.string ⟨#[115, 101, 99, 111, 110, 100]⟩)).run Try.prog ((w.drewN nd).alloc (.map #[⟨.int .i64 1, .string ⟨#[97, 110, 100]⟩, 0⟩, ⟨.int .i64 7, .string ⟨#[111, 114]⟩, 1⟩, ⟨.int .i64 6, .string ⟨#[120, 111, 114]⟩, 2⟩, ⟨.int .i64 14, .string ⟨#[110, 97, 110, 100]⟩, 3⟩, ⟨.int .i64 8, .string ⟨#[110, 111, 114]⟩, 4⟩, ⟨.int .i64 9, .string ⟨#[120, 110, 111, 114]⟩, 5⟩, ⟨.int .i64 3, .string ⟨#[102, 105, 114, 115, 116]⟩, 6⟩] 7)) = .ok () ((w.drewN nd).alloc (.map #[⟨.int .i64 1, .string ⟨#[97, 110, 100]⟩, 0⟩, ⟨.int .i64 7, .string ⟨#[111, 114]⟩, 1⟩, ⟨.int .i64 6, .string ⟨#[120, 111, 114]⟩, 2⟩, ⟨.int .i64 14, .string ⟨#[110, 97, 110, 100]⟩, 3⟩, ⟨.int .i64 8, .string ⟨#[110, 111, 114]⟩, 4⟩, ⟨.int .i64 9, .string ⟨#[120, 110, 111, 114]⟩, 5⟩, ⟨.int .i64 3, .string ⟨#[102, 105, 114, 115, 116]⟩, 6⟩, ⟨.int .i64 5, .string ⟨#[115, 101, 99, 111, 110, 100]⟩, 7⟩] 8)) := fun nd => ins (P := Try.prog) Try.underlying47 Try.underlying3 (w.drewN nd) #[⟨.int .i64 1, .string ⟨#[97, 110, 100]⟩, 0⟩, ⟨.int .i64 7, .string ⟨#[111, 114]⟩, 1⟩, ⟨.int .i64 6, .string ⟨#[120, 111, 114]⟩, 2⟩, ⟨.int .i64 14, .string ⟨#[110, 97, 110, 100]⟩, 3⟩, ⟨.int .i64 8, .string ⟨#[110, 111, 114]⟩, 4⟩, ⟨.int .i64 9, .string ⟨#[120, 110, 111, 114]⟩, 5⟩, ⟨.int .i64 3, .string ⟨#[102, 105, 114, 115, 116]⟩, 6⟩] 7 5 (.string ⟨#[115, 101, 99, 111, 110, 100]⟩) rfl
  have i8 : ∀ nd : Nat, (Instr.mapUpdate 47 (.map (some w.heap.size)) (.int .i64 0) (.string ⟨#[122, 101, 114, 111]⟩)).run Try.prog ((w.drewN nd).alloc (.map #[⟨.int .i64 1, .string ⟨#[97, 110, 100]⟩, 0⟩, ⟨.int .i64 7, .string ⟨#[111, 114]⟩, 1⟩, ⟨.int .i64 6, .string ⟨#[120, 111, 114]⟩, 2⟩, ⟨.int .i64 14, .string ⟨#[110, 97, 110, 100]⟩, 3⟩, ⟨.int .i64 8, .string ⟨#[110, 111, 114]⟩, 4⟩, ⟨.int .i64 9, .string ⟨#[120, 110, 111, 114]⟩, 5⟩, ⟨.int .i64 3, .string ⟨#[102, 105, 114, 115, 116]⟩, 6⟩, ⟨.int .i64 5, .string ⟨#[115, 101, 99, 111, 110, 100]⟩, 7⟩] 8)) = .ok () ((w.drewN nd).alloc (.map #[⟨.int .i64 1, .string ⟨#[97, 110, 100]⟩, 0⟩, ⟨.int .i64 7, .string ⟨#[111, 114]⟩, 1⟩, ⟨.int .i64 6, .string ⟨#[120, 111, 114]⟩, 2⟩, ⟨.int .i64 14, .string ⟨#[110, 97, 110, 100]⟩, 3⟩, ⟨.int .i64 8, .string ⟨#[110, 111, 114]⟩, 4⟩, ⟨.int .i64 9, .string ⟨#[120, 110, 111, 114]⟩, 5⟩, ⟨.int .i64 3, .string ⟨#[102, 105, 114, 115, 116]⟩, 6⟩, ⟨.int .i64 5, .string ⟨#[115, 101, 99, 111, 110, 100]⟩, 7⟩, ⟨.int .i64 0, .string ⟨#[122, 101, 114, 111]⟩, 8⟩] 9)) := fun nd => ins (P := Try.prog) Try.underlying47 Try.underlying3 (w.drewN nd) #[⟨.int .i64 1, .string ⟨#[97, 110, 100]⟩, 0⟩, ⟨.int .i64 7, .string ⟨#[111, 114]⟩, 1⟩, ⟨.int .i64 6, .string ⟨#[120, 111, 114]⟩, 2⟩, ⟨.int .i64 14, .string ⟨#[110, 97, 110, 100]⟩, 3⟩, ⟨.int .i64 8, .string ⟨#[110, 111, 114]⟩, 4⟩, ⟨.int .i64 9, .string ⟨#[120, 110, 111, 114]⟩, 5⟩, ⟨.int .i64 3, .string ⟨#[102, 105, 114, 115, 116]⟩, 6⟩, ⟨.int .i64 5, .string ⟨#[115, 101, 99, 111, 110, 100]⟩, 7⟩] 8 0 (.string ⟨#[122, 101, 114, 111]⟩) rfl
  have i9 : ∀ nd : Nat, (Instr.mapUpdate 47 (.map (some w.heap.size)) (.int .i64 15) (.string ⟨#[111, 110, 101]⟩)).run Try.prog ((w.drewN nd).alloc (.map #[⟨.int .i64 1, .string ⟨#[97, 110, 100]⟩, 0⟩, ⟨.int .i64 7, .string ⟨#[111, 114]⟩, 1⟩, ⟨.int .i64 6, .string ⟨#[120, 111, 114]⟩, 2⟩, ⟨.int .i64 14, .string ⟨#[110, 97, 110, 100]⟩, 3⟩, ⟨.int .i64 8, .string ⟨#[110, 111, 114]⟩, 4⟩, ⟨.int .i64 9, .string ⟨#[120, 110, 111, 114]⟩, 5⟩, ⟨.int .i64 3, .string ⟨#[102, 105, 114, 115, 116]⟩, 6⟩, ⟨.int .i64 5, .string ⟨#[115, 101, 99, 111, 110, 100]⟩, 7⟩, ⟨.int .i64 0, .string ⟨#[122, 101, 114, 111]⟩, 8⟩] 9)) = .ok () ((w.drewN nd).alloc (.map #[⟨.int .i64 1, .string ⟨#[97, 110, 100]⟩, 0⟩, ⟨.int .i64 7, .string ⟨#[111, 114]⟩, 1⟩, ⟨.int .i64 6, .string ⟨#[120, 111, 114]⟩, 2⟩, ⟨.int .i64 14, .string ⟨#[110, 97, 110, 100]⟩, 3⟩, ⟨.int .i64 8, .string ⟨#[110, 111, 114]⟩, 4⟩, ⟨.int .i64 9, .string ⟨#[120, 110, 111, 114]⟩, 5⟩, ⟨.int .i64 3, .string ⟨#[102, 105, 114, 115, 116]⟩, 6⟩, ⟨.int .i64 5, .string ⟨#[115, 101, 99, 111, 110, 100]⟩, 7⟩, ⟨.int .i64 0, .string ⟨#[122, 101, 114, 111]⟩, 8⟩, ⟨.int .i64 15, .string ⟨#[111, 110, 101]⟩, 9⟩] 10)) := fun nd => ins (P := Try.prog) Try.underlying47 Try.underlying3 (w.drewN nd) #[⟨.int .i64 1, .string ⟨#[97, 110, 100]⟩, 0⟩, ⟨.int .i64 7, .string ⟨#[111, 114]⟩, 1⟩, ⟨.int .i64 6, .string ⟨#[120, 111, 114]⟩, 2⟩, ⟨.int .i64 14, .string ⟨#[110, 97, 110, 100]⟩, 3⟩, ⟨.int .i64 8, .string ⟨#[110, 111, 114]⟩, 4⟩, ⟨.int .i64 9, .string ⟨#[120, 110, 111, 114]⟩, 5⟩, ⟨.int .i64 3, .string ⟨#[102, 105, 114, 115, 116]⟩, 6⟩, ⟨.int .i64 5, .string ⟨#[115, 101, 99, 111, 110, 100]⟩, 7⟩, ⟨.int .i64 0, .string ⟨#[122, 101, 114, 111]⟩, 8⟩] 9 15 (.string ⟨#[111, 110, 101]⟩) rfl
  have hz : ∀ w, (zeroValue 9).run Try.prog w = .ok (.string ⟨#[]⟩) w := fun w => Try.zeroValue9 w
  have hl : ∀ nd : Nat, (Instr.lookup 47 (.map (some w.heap.size)) (.int .i64 n) true).run Try.prog ((w.drewN nd).alloc (.map gates 10)) = .ok (.tuple #[((gateFound n).map (·.2)).getD (.string ⟨#[]⟩), .bool (gateFound n).isSome]) ((w.drewN nd).alloc (.map gates 10)) := fun nd => lookG (P := Try.prog) Try.underlying47 Try.underlying3 hz (w.drewN nd) gates 10 n (gateFound n) (found_all n h0 h1)
  have hf : gateFound n = gateFound n := rfl
  unfold gates at hl
  obtain ⟨g, hg⟩ : ∃ g, gateFound n = g := ⟨_, rfl⟩
  rw [hg] at hl
  cases g with
  | none =>
    have hN : gateN n = ⟨#[111, 116, 104, 101, 114]⟩ := by
      unfold gateFound at hg
      unfold gateN
      repeat' split at hg
      all_goals first | (simp_all; done) | cases hg
    rw [hN]
    simp only [Option.map_none, Option.getD_none, Option.isSome_none] at hl
    go_enter Try.func14, Try.ntmps14
    go_wp2_with (go_at_call 38; refine (HG'.out _).mono ?_; rintro e w' ⟨rfl, ⟨nd, rfl⟩⟩)
    go_ret2
    exact ⟨rfl, (pw_below_drewN (Below.refl _ _) nd).alloc (Nat.le_refl _) _⟩
  | some p =>
    have hp : p.2 = .string (gateN n) := by
      unfold gateFound at hg
      unfold gateN
      repeat' split at hg
      all_goals first | (injection hg with hg; subst hg; simp_all; done) | cases hg
    simp only [Option.map_some, Option.getD_some, Option.isSome_some] at hl
    rw [hp] at hl
    obtain ⟨s, hs⟩ : ∃ s, gateN n = s := ⟨_, rfl⟩
    rw [hs] at hl ⊢
    clear hg hf hp hs
    go_enter Try.func14, Try.ntmps14
    go_wp2_with (go_at_call 38; refine (HG'.out _).mono ?_; rintro e w' ⟨rfl, ⟨nd, rfl⟩⟩)
    go_ret2
    exact ⟨rfl, (pw_below_drewN (Below.refl _ _) nd).alloc (Nat.le_refl _) _⟩
end Go.Proofs.YtemglibjcoggoaaV
