/- The boards that moves make of the solved one, told as numbers, in the order in which they are found (written by wip/gen/mkreach.py); what is checked of them, and of all boards of at most six cells. -/
import Derived.Test.YtmplgijnmjdogaaDoorLNode
set_option linter.unusedVariables false
set_option linter.unusedSimpArgs false
namespace Go.Proofs.YtmplgijnmjdogaaDoorL
open Go.RowKit Go.Proofs.YtmplgijnmjdogaaDoor.Q Go.Proofs.YtmplgijnmjdogaaDoorW.PrintWords Go.Proofs.YtmplgijnmjdogaaDoorW.PrintLast
/-- A board's cells as a number, and back. -/
def enc : List Int → Nat
  | [] => 0
  | x :: t => x.toNat + 8 * enc t
def dec : Nat → Nat → List Int
  | 0, _ => []
  | n + 1, c => ((c % 8 : Nat) : Int) :: dec n (c / 8)
theorem dec_enc : ∀ (l : List Int), (∀ x ∈ l, 0 ≤ x ∧ x < 8) → dec l.length (enc l) = l
  | [], _ => rfl
  | x :: t, h => by
    have hx := h x List.mem_cons_self
    have h1 : (x.toNat + 8 * enc t) % 8 = x.toNat := by omega
    have h2 : (x.toNat + 8 * enc t) / 8 = enc t := by omega
    show (((x.toNat + 8 * enc t) % 8 : Nat) : Int) :: dec t.length ((x.toNat + 8 * enc t) / 8) = x :: t
    rw [h1, h2, dec_enc t (fun y hy => h y (List.mem_cons_of_mem _ hy))]
    congr 1
    omega
def inserts (x : Int) : List Int → List (List Int)
  | [] => [[x]]
  | y :: t => (x :: y :: t) :: (inserts x t).map (y :: ·)
def permsOf : List Int → List (List Int)
  | [] => [[]]
  | x :: t => (permsOf t).flatMap (inserts x)
theorem mem_inserts (x : Int) : ∀ (a b : List Int), (a ++ x :: b) ∈ inserts x (a ++ b)
  | [], [] => by simp [inserts]
  | [], y :: b => by simp [inserts]
  | y :: a, b => by
    show (y :: (a ++ x :: b)) ∈ (x :: y :: (a ++ b)) :: (inserts x (a ++ b)).map (y :: ·)
    exact List.mem_cons_of_mem _ (List.mem_map.2 ⟨_, mem_inserts x a b, rfl⟩)
theorem mem_permsOf : ∀ (r l : List Int), r.Perm l → l ∈ permsOf r
  | [], l, h => by
    obtain rfl := h.nil_eq
    exact List.mem_singleton.2 rfl
  | x :: t, l, h => by
    obtain ⟨a, b, rfl⟩ := List.append_of_mem (h.subset List.mem_cons_self)
    have h2 : t.Perm (a ++ b) := (List.perm_cons x).1 (h.trans List.perm_middle)
    exact List.mem_flatMap.2 ⟨a ++ b, mem_permsOf t _ h2, mem_inserts x a b⟩
def rngI (n : Nat) : List Int := (List.range n).map fun (i : Nat) => (i : Int)
def solvedL (n : Nat) : List Int := ((List.range (n - 1)).map fun (i : Nat) => ((i + 1 : Nat) : Int)) ++ [0]
def ndB (n : Nat) (l : List Int) : Bool := (l.length == n) && (List.range n).all fun k => l.contains (k : Int)
/-- Each board but the first has a neighbour ahead of it. -/
def linked (W H : Nat) (cs : List Nat) : List Nat → Bool
  | [] => true
  | c :: t => ((List.range 4).any fun d => match nb W H (dec (W * H) c) d with
    | none => false
    | some y => cs.contains (enc y)) && linked W H (c :: cs) t
def shut (W H : Nat) (cs : List Nat) : Bool := cs.all fun c => (List.range 4).all fun d => match nb W H (dec (W * H) c) d with
  | none => true
  | some y => cs.contains (enc y)
/-- Of all boards: a move leads to a board, and can be taken back; the reference's blCan tells those that are reached. -/
def back (W H : Nat) : Bool := (permsOf (rngI (W * H))).all fun l => (List.range 4).all fun d => match nb W H l d with
  | none => true
  | some y => ndB (W * H) y && (nb W H y ((d + 2) % 4) == some l)
def cs11 : List Nat := [0]
theorem link11 : linked 1 1 [0] cs11.tail = true := by decide +kernel
theorem shut11 : shut 1 1 cs11 = true := by decide +kernel
theorem back11 : back 1 1 = true := by decide +kernel
def cs12 : List Nat := [1, 8]
theorem link12 : linked 1 2 [1] cs12.tail = true := by decide +kernel
theorem shut12 : shut 1 2 cs12 = true := by decide +kernel
theorem back12 : back 1 2 = true := by decide +kernel
def cs13 : List Nat := [17, 129, 136]
theorem link13 : linked 1 3 [17] cs13.tail = true := by decide +kernel
theorem shut13 : shut 1 3 cs13 = true := by decide +kernel
theorem back13 : back 1 3 = true := by decide +kernel
def cs21 : List Nat := [1, 8]
theorem link21 : linked 2 1 [1] cs21.tail = true := by decide +kernel
theorem shut21 : shut 2 1 cs21 = true := by decide +kernel
theorem back21 : back 2 1 = true := by decide +kernel
def cs22 : List Nat := [209, 1217, 1553, 1224, 1616, 1035, 1602, 139, 90, 643, 538, 664]
theorem link22 : linked 2 2 [209] cs22.tail = true := by decide +kernel
theorem shut22 : shut 2 2 cs22 = true := by decide +kernel
theorem back22 : back 2 2 = true := by decide +kernel
def cs23 : List Nat := [22737, 151761, 166097, 152769, 153105, 178193, 152776, 153168, 132945, 178256, 176401, 152587, 153154, 18257, 178242, 177409, 15121, 151691, 132427, 151642, 115025, 176226, 177416, 101137, 152195, 22667, 17739, 22618, 152090, 116033, 117265, 14946, 176674, 177164, 152216, 166027, 82251, 165978, 131930, 116040, 117328, 100962, 176800, 164578, 176268, 165068, 174091, 82755, 84491, 170010, 17242, 115725, 117314, 104994, 176772, 21218, 14988, 21708, 174280, 172299, 82776, 84680, 68363, 170136, 168218, 49498, 114829, 99597, 114794, 105120, 102754, 53474, 101004, 86220, 174273, 172803, 11019, 82461, 84673, 170115, 169730, 6938, 51010, 51738, 115333, 18061, 13581, 18026, 115242, 105092, 104770, 5986, 55490, 54818, 109068, 86724, 87564, 172257, 172824, 82013, 66333, 82153, 168099, 169744, 35610, 51024, 51864, 115368, 132749, 78093, 132714, 99114, 102572, 104784, 34658, 55504, 54944, 109320, 106828, 86752, 87816, 67404, 10977, 173601, 172572, 83525, 17501, 8989, 17641, 83497, 6819, 168995, 169492, 50709, 51843, 140813, 78597, 79885, 136746, 13098, 5804, 103468, 104469, 55315, 54916, 109313, 107332, 10060, 86563, 87809, 68321, 173664, 165537, 172124, 164508, 83560, 132189, 41245, 132329, 67369, 35491, 169184, 164963, 168148, 165460, 49365, 34581, 49323, 141128, 139469, 78632, 80200, 67789, 136872, 135402, 45354, 34476, 103720, 99436, 102677, 100437, 53523, 35155, 53404, 106793, 107360, 86115, 66403, 86297, 80417, 173636, 22177, 10844, 21148, 136221, 42757, 43037, 144425, 10025, 43555, 169156, 21603, 6868, 22100, 50373, 17109, 5909, 17067, 50219, 141121, 139973, 10445, 78380, 80193, 136837, 137922, 6378, 47874, 47146, 42540, 103685, 13420, 14421, 54531, 21267, 6483, 54300, 108585, 107045, 88131, 9059, 21785, 88089, 80480, 78177, 118945, 68188, 136536, 135325, 42792, 43352, 34973, 144488, 143529, 43744, 41315, 35540, 118868, 50408, 131797, 131755, 34091, 139609, 140008, 77932, 66284, 137936, 35050, 47888, 47272, 41196, 143445, 54552, 164627, 135507, 34140, 108648, 100521, 106597, 98981, 88152, 165145, 67929, 80452, 13665, 120961, 119841, 72220, 136515, 6301, 43331, 144453, 146049, 14505, 43716, 47636, 119876, 119316, 143893, 139819, 5419, 10585, 141849, 8940, 137747, 47237, 180755, 5468, 108613, 9829, 12965, 181273, 99681, 120968, 119904, 72472, 69980, 146056, 45396, 119568, 99156, 144208, 139371, 69931, 141912, 133785, 133715, 45221, 180944, 180307, 67173, 181336, 180377, 120842, 72451, 71492, 145930, 46404, 13140, 119554, 144194, 141891, 10347, 71723, 19097, 19027, 46117, 180930, 181315, 71205, 181889, 119050, 100682, 71520, 143690, 133834, 46432, 67691, 71912, 34021, 180426, 69861, 181896, 22282, 14666, 19146, 71877, 5349, 181770, 165642]
theorem link23 : linked 2 3 [22737] cs23.tail = true := by decide +kernel
theorem shut23 : shut 2 3 cs23 = true := by decide +kernel
theorem back23 : back 2 3 = true := by decide +kernel
def cs31 : List Nat := [17, 129, 136]
theorem link31 : linked 3 1 [17] cs31.tail = true := by decide +kernel
theorem shut31 : shut 3 1 cs31 = true := by decide +kernel
theorem back31 : back 3 1 = true := by decide +kernel
def cs32 : List Nat := [22737, 120849, 166097, 120961, 174273, 180433, 100521, 120968, 174105, 174280, 180944, 14505, 114857, 118924, 10585, 172236, 180930, 79913, 115368, 101004, 67929, 165068, 180762, 164578, 80193, 115333, 105092, 14988, 82265, 169156, 21708, 17242, 21218, 168162, 80200, 115221, 98981, 104980, 105120, 80396, 82776, 168988, 169184, 119820, 131930, 119330, 78156, 17109, 12965, 102565, 6868, 80452, 82755, 5468, 119876, 144194, 135514, 119554, 67404, 131797, 78373, 35540, 68188, 80480, 82475, 66403, 34140, 99436, 119904, 143914, 144208, 136536, 99114, 119568, 71492, 10060, 139973, 135381, 78597, 43716, 53460, 10844, 86108, 77925, 17067, 9059, 69987, 46404, 41308, 13420, 106604, 118882, 13098, 143697, 136515, 102698, 119057, 71212, 71520, 173580, 139805, 140008, 137936, 66333, 78632, 43548, 43744, 55504, 88152, 67173, 131755, 172579, 46124, 46432, 43352, 108648, 100962, 132945, 136235, 132427, 103720, 101137, 5804, 173636, 8989, 139497, 137922, 69917, 78121, 41189, 55490, 88131, 83525, 9829, 152195, 135339, 172803, 45410, 43331, 108613, 117314, 14946, 141121, 18257, 5419, 17739, 139595, 103685, 109313, 15121, 34476, 165460, 173664, 132329, 137754, 133834, 72472, 67369, 34021, 55322, 35050, 88075, 67691, 83469, 83560, 42533, 152083, 152216, 136872, 164627, 172824, 34658, 43051, 35155, 108557, 100437, 117258, 117328, 47650, 140841, 141128, 181777, 34091, 181259, 103461, 99597, 109089, 109320, 145937, 54916, 45228, 22100, 176212, 172131, 152769, 17641, 6938, 19146, 151754, 72451, 87809, 10025, 50373, 5349, 22618, 6378, 49386, 22667, 10347, 82027, 18061, 42757, 21267, 151705, 136837, 168211, 172313, 51010, 5986, 6483, 49491, 10445, 14421, 114773, 47874, 181889, 54531, 41259, 181315, 13581, 106765, 10977, 146049, 54804, 54944, 47272, 178256, 164963, 152601, 152776, 115753, 35610, 72227, 68363, 87585, 87816, 50205, 50408, 165978, 104490, 166027, 132749, 34581, 42792, 133785, 136725, 169744, 165145, 50730, 51024, 169506, 170003, 67789, 47125, 47888, 165537, 181896, 54307, 54552, 181336, 144397, 68321, 146056, 53411, 47237, 178242, 21603, 21785, 116033, 53530, 6819, 11019, 86283, 22177, 17501, 180314, 104770, 170115, 180363, 143501, 5909, 45333, 19097, 169730, 177409, 18026, 71877, 82125, 176289, 144453, 84673, 86241, 35491, 34973, 178186, 99681, 116040, 141835, 132189, 100682, 104784, 170136, 84505, 165642, 177185, 177416, 132714, 71709, 71912, 84680, 176800, 144488, 86752, 51843, 6301, 49309, 14666, 13665, 106849, 115018, 141891, 139357, 102740, 168092, 22282, 176394, 153154, 143466, 69868, 176772, 86724, 51731, 51864, 107360, 133715, 141912, 99156, 164508, 153098, 153168, 66284, 176660, 86556, 19027, 107332, 151635, 13140, 21148, 8940, 107052]
theorem link32 : linked 3 2 [22737] cs32.tail = true := by decide +kernel
theorem shut32 : shut 3 2 cs32 = true := by decide +kernel
theorem back32 : back 3 2 = true := by decide +kernel
def codes (W H : Nat) : List Nat := match W, H with
  | 1, 1 => cs11
  | 1, 2 => cs12
  | 1, 3 => cs13
  | 2, 1 => cs21
  | 2, 2 => cs22
  | 2, 3 => cs23
  | 3, 1 => cs31
  | 3, 2 => cs32
  | _, _ => []
theorem size_cases {W H : Nat} (hW0 : 0 < W) (hW : W < 4) (hH0 : 0 < H) (hH : H < 4) (h6 : W * H ≤ 6) : (W = 1 ∧ H = 1) ∨ (W = 1 ∧ H = 2) ∨ (W = 1 ∧ H = 3) ∨ (W = 2 ∧ H = 1) ∨ (W = 2 ∧ H = 2) ∨ (W = 2 ∧ H = 3) ∨ (W = 3 ∧ H = 1) ∨ (W = 3 ∧ H = 2) := by
  have h1 : W = 1 ∨ W = 2 ∨ W = 3 := by omega
  have h2 : H = 1 ∨ H = 2 ∨ H = 3 := by omega
  rcases h1 with rfl | rfl | rfl <;> rcases h2 with rfl | rfl | rfl <;> simp at h6 ⊢
theorem facts {W H : Nat} (hW0 : 0 < W) (hW : W < 4) (hH0 : 0 < H) (hH : H < 4) (h6 : W * H ≤ 6) : (∃ t, codes W H = enc (solvedL (W * H)) :: t ∧ linked W H [enc (solvedL (W * H))] t = true) ∧ shut W H (codes W H) = true ∧ back W H = true := by
  rcases size_cases hW0 hW hH0 hH h6 with ⟨rfl, rfl⟩ | ⟨rfl, rfl⟩ | ⟨rfl, rfl⟩ | ⟨rfl, rfl⟩ | ⟨rfl, rfl⟩ | ⟨rfl, rfl⟩ | ⟨rfl, rfl⟩ | ⟨rfl, rfl⟩
  · exact ⟨⟨_, rfl, link11⟩, shut11, back11⟩
  · exact ⟨⟨_, rfl, link12⟩, shut12, back12⟩
  · exact ⟨⟨_, rfl, link13⟩, shut13, back13⟩
  · exact ⟨⟨_, rfl, link21⟩, shut21, back21⟩
  · exact ⟨⟨_, rfl, link22⟩, shut22, back22⟩
  · exact ⟨⟨_, rfl, link23⟩, shut23, back23⟩
  · exact ⟨⟨_, rfl, link31⟩, shut31, back31⟩
  · exact ⟨⟨_, rfl, link32⟩, shut32, back32⟩
end Go.Proofs.YtmplgijnmjdogaaDoorL
