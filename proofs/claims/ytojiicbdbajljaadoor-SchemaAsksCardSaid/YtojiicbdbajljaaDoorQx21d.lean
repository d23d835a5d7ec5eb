-- Printed by a program of this session (wip/myprint.py, over the kit's printer) out of the translation.
import Derived.Test.YtojiicbdbajljaaDoorQx0
import Derived.Test.YtojiicbdbajljaaDoorQx3
import Derived.Test.YtojiicbdbajljaaDoorQx7
import Derived.Test.YtojiicbdbajljaaDoorQx8
import Derived.Test.YtojiicbdbajljaaDoorQx9
import Derived.Test.YtojiicbdbajljaaDoorQx10
import Derived.Test.YtojiicbdbajljaaDoorQx12
import Derived.Test.YtojiicbdbajljaaDoorQx13
import Derived.Test.YtojiicbdbajljaaDoorQx14
import Derived.Test.YtojiicbdbajljaaDoorQx16
import Derived.Test.YtojiicbdbajljaaDoorQx17
import Derived.Test.YtojiicbdbajljaaDoorQx20
namespace Go.Proofs.YtojiicbdbajljaaDoor.Q
open Go.RowKit Go.Proofs.YtojiicbdbajljaaDoorW.PrintWords Go.Proofs.YtojiicbdbajljaaDoorW.PrintLast Go.Proofs.YtojiicbdbajljaaDoorW.PrintMore
attribute [local go_sem] max2_int min2_int max_two min_two max_three min_three max_four min_four   -- for this text's walks alone
set_option linter.unusedVariables false
set_option linter.unusedSimpArgs false

/-! ### hachurelaw22_SchemaAsks: function 3 -/
mutual
def hachurelaw22_SchemaAsks.j0 : Nat → ByteArray → Bool → ByteArray → Int → Int → List (S82) → ByteArray → Int → Int → List (S82) → Option (Bool)
  | 0, _, _, _, _, _, _, _, _, _, _ => none
  | k + 1, x2, x25, x163000, x163001, x163002, x163003, x164000, x164001, x164002, x164003 => if x25 = true then ((hachurelaw22_lives.f k).bind fun t166 => (some t166)) else ((schema_Type.f x2).bind fun bt167 => (hachurelaw22_SchemaAsks.l0 k x2 bt167.1 bt167.2 0 0 x163000 x163001 x163002 x163003 x164000 x164001 x164002 x164003))
def hachurelaw22_SchemaAsks.l0 : Nat → ByteArray → Int → Bool → Int → Int → ByteArray → Int → Int → List (S82) → ByteArray → Int → Int → List (S82) → Option (Bool)
  | 0, _, _, _, _, _, _, _, _, _, _, _, _, _ => none
  | k + 1, x2, x7, x8, x9, x33, x163000, x163001, x163002, x163003, x164000, x164001, x164002, x164003 => if x33 < 3 then (if 0 ≤ x33 then (if (rdOf ByteArray.empty ([(⟨#[105, 110, 116]⟩ : ByteArray), (⟨#[116, 101, 120, 116]⟩ : ByteArray), (⟨#[102, 108, 97, 103]⟩ : ByteArray)] : List ByteArray) x33).toList = x2.toList then (hachurelaw22_SchemaAsks.l0 k x2 x7 x8 (wrap64 (x33 + 1)) (wrap64 (x33 + 1)) x163000 x163001 x163002 x163003 x164000 x164001 x164002 x164003) else (hachurelaw22_SchemaAsks.l0 k x2 x7 x8 x9 (wrap64 (x33 + 1)) x163000 x163001 x163002 x163003 x164000 x164001 x164002 x164003)) else (none)) else ((hachurelaw22_plain.f k x163000 x163001 x163002 x163003).bind fun bt169 => ((schema_Good.f x163000 x163001 x163002 x163003).bind fun t176 => ((hachureref22_Good.f k bt169.1 bt169.2.1 bt169.2.2.1 bt169.2.2.2).bind fun t177 => (if t176 = t177 then ((schema_Name.f x2).bind fun t178 => ((hachureref22_Name.f k x2).bind fun t179 => (if (t178 != t179) = true then (hachurelaw22_SchemaAsks.j2 k true x163000 x163001 x163002 x163003 bt169.1 bt169.2.1 bt169.2.2.1 bt169.2.2.2) else ((schema_Same.f k x163000 x163001 x163002 x163003 x164000 x164001 x164002 x164003).bind fun t180 => ((hachurelaw22_plain.f k x164000 x164001 x164002 x164003).bind fun bt181 => ((hachureref22_Same.f k bt169.1 bt169.2.1 bt169.2.2.1 bt169.2.2.2 bt181.1 bt181.2.1 bt181.2.2.1 bt181.2.2.2).bind fun t187 => (if (t180 != t187) = true then (hachurelaw22_SchemaAsks.j2 k true x163000 x163001 x163002 x163003 bt169.1 bt169.2.1 bt169.2.2.1 bt169.2.2.2) else (if x7 = x9 then (hachurelaw22_SchemaAsks.j2 k (x8 != (decide (x9 > 0))) x163000 x163001 x163002 x163003 bt169.1 bt169.2.1 bt169.2.2.1 bt169.2.2.2) else (hachurelaw22_SchemaAsks.j2 k true x163000 x163001 x163002 x163003 bt169.1 bt169.2.1 bt169.2.2.1 bt169.2.2.2))))))))) else (hachurelaw22_SchemaAsks.j2 k true x163000 x163001 x163002 x163003 bt169.1 bt169.2.1 bt169.2.2.1 bt169.2.2.2)))))
def hachurelaw22_SchemaAsks.j2 : Nat → Bool → ByteArray → Int → Int → List (S82) → ByteArray → Int → Int → List (S86) → Option (Bool)
  | 0, _, _, _, _, _, _, _, _, _ => none
  | k + 1, x77, x163000, x163001, x163002, x163003, x176000, x176001, x176002, x176003 => if x77 = true then (some false) else ((hachureref22_Good.f k x176000 x176001 x176002 x176003).bind fun t188 => (if t188 = 0 then ((schema_Text.f k x163000 x163001 x163002 x163003).bind fun t189 => ((hachureref22_Text.f k x176000 x176001 x176002 x176003).bind fun t190 => (if t189.toList = t190.toList then ((hachurelaw22_lives.f k).bind fun t191 => (some t191)) else (some false)))) else ((hachurelaw22_lives.f k).bind fun t192 => (some t192))))
end
def hachurelaw22_SchemaAsks.f (k : Nat) (a0_0 : ByteArray) (a0_1 : Int) (a0_2 : Int) (l0_3 : List (S82)) (a1_0 : ByteArray) (a1_1 : Int) (a1_2 : Int) (l1_3 : List (S82)) (a2 : ByteArray) : Option (Bool) := (hachurelaw22_light.f k a0_0 a0_1 a0_2 l0_3).bind fun t164 => (if t164 = true then ((hachurelaw22_light.f k a1_0 a1_1 a1_2 l1_3).bind fun t165 => (if t165 = true then (hachurelaw22_SchemaAsks.j0 k a2 (decide ((a2.size : Int) > 500)) a0_0 a0_1 a0_2 l0_3 a1_0 a1_1 a1_2 l1_3) else (hachurelaw22_SchemaAsks.j0 k a2 true a0_0 a0_1 a0_2 l0_3 a1_0 a1_1 a1_2 l1_3))) else (hachurelaw22_SchemaAsks.j0 k a2 true a0_0 a0_1 a0_2 l0_3 a1_0 a1_1 a1_2 l1_3))
theorem hachurelaw22_SchemaAsks.mono_l : ∀ k, (∀ y0 y1 y2 y3 y4 y5 y6 y7 y8 y9, LeO (hachurelaw22_SchemaAsks.j0 k y0 y1 y2 y3 y4 y5 y6 y7 y8 y9) (hachurelaw22_SchemaAsks.j0 (k + 1) y0 y1 y2 y3 y4 y5 y6 y7 y8 y9)) ∧ (∀ y0 y1 y2 y3 y4 y5 y6 y7 y8 y9 y10 y11 y12, LeO (hachurelaw22_SchemaAsks.l0 k y0 y1 y2 y3 y4 y5 y6 y7 y8 y9 y10 y11 y12) (hachurelaw22_SchemaAsks.l0 (k + 1) y0 y1 y2 y3 y4 y5 y6 y7 y8 y9 y10 y11 y12)) ∧ (∀ y0 y1 y2 y3 y4 y5 y6 y7 y8, LeO (hachurelaw22_SchemaAsks.j2 k y0 y1 y2 y3 y4 y5 y6 y7 y8) (hachurelaw22_SchemaAsks.j2 (k + 1) y0 y1 y2 y3 y4 y5 y6 y7 y8))
  | 0 => ⟨fun _ _ _ _ _ _ _ _ _ _ r h => by simp [hachurelaw22_SchemaAsks.j0] at h, fun _ _ _ _ _ _ _ _ _ _ _ _ _ r h => by simp [hachurelaw22_SchemaAsks.l0] at h, fun _ _ _ _ _ _ _ _ _ r h => by simp [hachurelaw22_SchemaAsks.j2] at h⟩
  | k + 1 => by
    obtain ⟨ih0, ih1, ih2⟩ := hachurelaw22_SchemaAsks.mono_l k
    refine ⟨?_, ?_, ?_⟩
    · intro y0 y1 y2 y3 y4 y5 y6 y7 y8 y9
      unfold hachurelaw22_SchemaAsks.j0
      repeat' first
      | (with_reducible exact ih0 _ _ _ _ _ _ _ _ _ _)
      | (with_reducible exact ih1 _ _ _ _ _ _ _ _ _ _ _ _ _)
      | (with_reducible exact ih2 _ _ _ _ _ _ _ _ _)
      | (with_reducible exact hachurelaw22_light.mono _ _ _ _ _)
      | (with_reducible exact hachurelaw22_lives.mono _)
      | (with_reducible exact hachurelaw22_plain.mono _ _ _ _ _)
      | (with_reducible exact hachureref22_Good.mono _ _ _ _ _)
      | (with_reducible exact hachureref22_Name.mono _ _)
      | (with_reducible exact hachureref22_Same.mono _ _ _ _ _ _ _ _ _)
      | (with_reducible exact hachureref22_Text.mono _ _ _ _ _)
      | (with_reducible exact schema_Same.mono _ _ _ _ _ _ _ _ _)
      | (with_reducible exact schema_Text.mono _ _ _ _ _)
      | (with_reducible exact LeO.refl _)
      | (with_reducible exact LeO.none _)
      | (with_reducible refine LeO.ite ?_ ?_)
      | (with_reducible refine LeO.bind ?_ (fun _ => ?_))
      | exact ih0 _ _ _ _ _ _ _ _ _ _
      | exact ih1 _ _ _ _ _ _ _ _ _ _ _ _ _
      | exact ih2 _ _ _ _ _ _ _ _ _
      | exact hachurelaw22_light.mono _ _ _ _ _
      | exact hachurelaw22_lives.mono _
      | exact hachurelaw22_plain.mono _ _ _ _ _
      | exact hachureref22_Good.mono _ _ _ _ _
      | exact hachureref22_Name.mono _ _
      | exact hachureref22_Same.mono _ _ _ _ _ _ _ _ _
      | exact hachureref22_Text.mono _ _ _ _ _
      | exact schema_Same.mono _ _ _ _ _ _ _ _ _
      | exact schema_Text.mono _ _ _ _ _
      | exact LeO.none _
      | refine LeO.ite ?_ ?_
      | refine LeO.bind ?_ (fun _ => ?_)
    · intro y0 y1 y2 y3 y4 y5 y6 y7 y8 y9 y10 y11 y12
      unfold hachurelaw22_SchemaAsks.l0
      repeat' first
      | (with_reducible exact ih0 _ _ _ _ _ _ _ _ _ _)
      | (with_reducible exact ih1 _ _ _ _ _ _ _ _ _ _ _ _ _)
      | (with_reducible exact ih2 _ _ _ _ _ _ _ _ _)
      | (with_reducible exact hachurelaw22_light.mono _ _ _ _ _)
      | (with_reducible exact hachurelaw22_lives.mono _)
      | (with_reducible exact hachurelaw22_plain.mono _ _ _ _ _)
      | (with_reducible exact hachureref22_Good.mono _ _ _ _ _)
      | (with_reducible exact hachureref22_Name.mono _ _)
      | (with_reducible exact hachureref22_Same.mono _ _ _ _ _ _ _ _ _)
      | (with_reducible exact hachureref22_Text.mono _ _ _ _ _)
      | (with_reducible exact schema_Same.mono _ _ _ _ _ _ _ _ _)
      | (with_reducible exact schema_Text.mono _ _ _ _ _)
      | (with_reducible exact LeO.refl _)
      | (with_reducible exact LeO.none _)
      | (with_reducible refine LeO.ite ?_ ?_)
      | (with_reducible refine LeO.bind ?_ (fun _ => ?_))
      | exact ih0 _ _ _ _ _ _ _ _ _ _
      | exact ih1 _ _ _ _ _ _ _ _ _ _ _ _ _
      | exact ih2 _ _ _ _ _ _ _ _ _
      | exact hachurelaw22_light.mono _ _ _ _ _
      | exact hachurelaw22_lives.mono _
      | exact hachurelaw22_plain.mono _ _ _ _ _
      | exact hachureref22_Good.mono _ _ _ _ _
      | exact hachureref22_Name.mono _ _
      | exact hachureref22_Same.mono _ _ _ _ _ _ _ _ _
      | exact hachureref22_Text.mono _ _ _ _ _
      | exact schema_Same.mono _ _ _ _ _ _ _ _ _
      | exact schema_Text.mono _ _ _ _ _
      | exact LeO.none _
      | refine LeO.ite ?_ ?_
      | refine LeO.bind ?_ (fun _ => ?_)
    · intro y0 y1 y2 y3 y4 y5 y6 y7 y8
      unfold hachurelaw22_SchemaAsks.j2
      repeat' first
      | (with_reducible exact ih0 _ _ _ _ _ _ _ _ _ _)
      | (with_reducible exact ih1 _ _ _ _ _ _ _ _ _ _ _ _ _)
      | (with_reducible exact ih2 _ _ _ _ _ _ _ _ _)
      | (with_reducible exact hachurelaw22_light.mono _ _ _ _ _)
      | (with_reducible exact hachurelaw22_lives.mono _)
      | (with_reducible exact hachurelaw22_plain.mono _ _ _ _ _)
      | (with_reducible exact hachureref22_Good.mono _ _ _ _ _)
      | (with_reducible exact hachureref22_Name.mono _ _)
      | (with_reducible exact hachureref22_Same.mono _ _ _ _ _ _ _ _ _)
      | (with_reducible exact hachureref22_Text.mono _ _ _ _ _)
      | (with_reducible exact schema_Same.mono _ _ _ _ _ _ _ _ _)
      | (with_reducible exact schema_Text.mono _ _ _ _ _)
      | (with_reducible exact LeO.refl _)
      | (with_reducible exact LeO.none _)
      | (with_reducible refine LeO.ite ?_ ?_)
      | (with_reducible refine LeO.bind ?_ (fun _ => ?_))
      | exact ih0 _ _ _ _ _ _ _ _ _ _
      | exact ih1 _ _ _ _ _ _ _ _ _ _ _ _ _
      | exact ih2 _ _ _ _ _ _ _ _ _
      | exact hachurelaw22_light.mono _ _ _ _ _
      | exact hachurelaw22_lives.mono _
      | exact hachurelaw22_plain.mono _ _ _ _ _
      | exact hachureref22_Good.mono _ _ _ _ _
      | exact hachureref22_Name.mono _ _
      | exact hachureref22_Same.mono _ _ _ _ _ _ _ _ _
      | exact hachureref22_Text.mono _ _ _ _ _
      | exact schema_Same.mono _ _ _ _ _ _ _ _ _
      | exact schema_Text.mono _ _ _ _ _
      | exact LeO.none _
      | refine LeO.ite ?_ ?_
      | refine LeO.bind ?_ (fun _ => ?_)
theorem hachurelaw22_SchemaAsks.mono : ∀ a0 a1 a2 a3 a4 a5 a6 a7 a8 k, LeO (hachurelaw22_SchemaAsks.f k a0 a1 a2 a3 a4 a5 a6 a7 a8) (hachurelaw22_SchemaAsks.f (k + 1) a0 a1 a2 a3 a4 a5 a6 a7 a8) := by
  intro a0 a1 a2 a3 a4 a5 a6 a7 a8 k
  obtain ⟨ih0, ih1, ih2⟩ := hachurelaw22_SchemaAsks.mono_l k
  unfold hachurelaw22_SchemaAsks.f
  repeat' first
      | (with_reducible exact ih0 _ _ _ _ _ _ _ _ _ _)
      | (with_reducible exact ih1 _ _ _ _ _ _ _ _ _ _ _ _ _)
      | (with_reducible exact ih2 _ _ _ _ _ _ _ _ _)
      | (with_reducible exact hachurelaw22_light.mono _ _ _ _ _)
      | (with_reducible exact hachurelaw22_lives.mono _)
      | (with_reducible exact hachurelaw22_plain.mono _ _ _ _ _)
      | (with_reducible exact hachureref22_Good.mono _ _ _ _ _)
      | (with_reducible exact hachureref22_Name.mono _ _)
      | (with_reducible exact hachureref22_Same.mono _ _ _ _ _ _ _ _ _)
      | (with_reducible exact hachureref22_Text.mono _ _ _ _ _)
      | (with_reducible exact schema_Same.mono _ _ _ _ _ _ _ _ _)
      | (with_reducible exact schema_Text.mono _ _ _ _ _)
      | (with_reducible exact LeO.refl _)
      | (with_reducible exact LeO.none _)
      | (with_reducible refine LeO.ite ?_ ?_)
      | (with_reducible refine LeO.bind ?_ (fun _ => ?_))
      | exact ih0 _ _ _ _ _ _ _ _ _ _
      | exact ih1 _ _ _ _ _ _ _ _ _ _ _ _ _
      | exact ih2 _ _ _ _ _ _ _ _ _
      | exact hachurelaw22_light.mono _ _ _ _ _
      | exact hachurelaw22_lives.mono _
      | exact hachurelaw22_plain.mono _ _ _ _ _
      | exact hachureref22_Good.mono _ _ _ _ _
      | exact hachureref22_Name.mono _ _
      | exact hachureref22_Same.mono _ _ _ _ _ _ _ _ _
      | exact hachureref22_Text.mono _ _ _ _ _
      | exact schema_Same.mono _ _ _ _ _ _ _ _ _
      | exact schema_Text.mono _ _ _ _ _
      | exact LeO.none _
      | refine LeO.ite ?_ ?_
      | refine LeO.bind ?_ (fun _ => ?_)
def hachurelaw22_SchemaAsks.T12 : Bool × List (List Nat × List Nat) := (true, [([], []), ([0], [0]), ([], []), ([2, 1], [2]), ([1, 3], [1, 3]), ([4, 3], [4]), ([5], [5]), ([6, 5, 5], [5, 6]), ([5], [5]), ([8, 7, 5], [5, 8]), ([7, 9, 5], [5, 7, 9]), ([5, 10], [5, 10]), ([11, 9], [11]), ([12], [12]), ([12], [12]), ([13, 14, 12, 12], [12, 13, 14]), ([12], [12]), ([12], [12]), ([17, 15, 12], [12, 17]), ([16, 18, 18, 12], [12, 16, 18]), ([15, 19, 12], [12, 15, 19]), ([12, 20], [12, 20]), ([21, 19], [21]), ([22], [22]), ([22], [22]), ([23, 24, 22], [22, 23, 24]), ([22, 25], [22, 25]), ([26, 22], [26]), ([27], [27]), ([27], [27]), ([29, 27], [27, 29]), ([28, 30, 27], [27, 28, 30]), ([27, 31], [27, 31])])
def hachurelaw22_SchemaAsks.B12 : List Nat := [0, 1, 0, 7, 15, 31, 63, 127, 63, 511, 1023, 2047, 4095, 8191, 8191, 32767, 8191, 8191, 196607, 524287, 1048575, 2097151, 4194303, 8388607, 8388607, 33554431, 67108863, 134217727, 268435455, 268435455, 805306367, 2147483647, 4294967295]
theorem hachurelaw22_SchemaAsks.tab12 : rtab .any (opsOf Tryd.f3 12) = hachurelaw22_SchemaAsks.T12 := by kernel_rfl
theorem hachurelaw22_SchemaAsks.bits12 : waitsOk hachurelaw22_SchemaAsks.T12.2 hachurelaw22_SchemaAsks.B12 = true := by kernel_rfl
def hachurelaw22_SchemaAsks.T14 : Bool × List (List Nat × List Nat) := (true, [([], []), ([0], [0]), ([1], [1]), ([2, 1], [2]), ([3], [3]), ([4, 3, 3], [3, 4]), ([3], [3]), ([6, 5, 3], [3, 6]), ([5, 7, 3], [3, 5, 7]), ([3, 8], [3, 8]), ([9, 7], [9]), ([10, 10], [10]), ([10, 11], [10, 11]), ([12, 11, 0, 1, 2, 3, 4, 5, 6, 7, 8, 9, 10, 11, 12], [12])])
def hachurelaw22_SchemaAsks.B14 : List Nat := [0, 1, 3, 7, 15, 31, 15, 127, 255, 511, 1023, 2047, 4095, 8191]
theorem hachurelaw22_SchemaAsks.tab14 : rtab .any (opsOf Tryd.f3 14) = hachurelaw22_SchemaAsks.T14 := by kernel_rfl
theorem hachurelaw22_SchemaAsks.bits14 : waitsOk hachurelaw22_SchemaAsks.T14.2 hachurelaw22_SchemaAsks.B14 = true := by kernel_rfl
abbrev M0_ : Array Bool := #[false, false, false, false, false, false, false, false, false, false, false, false, false, false, false, false, false, false, false, false, false, false, false, false, false, false, false, false, false, false, false, false, false]
abbrev M1_ : Array Bool := #[true, false, false, false, false, false, false, false, false, false, false, false, false, false, false, false, false, false, false, false, false, false, false, false, false, false, false, false, false, false, false, false, false]
abbrev M2_ : Array Bool := #[true, false, true, false, false, false, false, false, false, false, false, false, false, false, false, false, false, false, false, false, false, false, false, false, false, false, false, false, false, false, false, false, false]
abbrev M3_ : Array Bool := #[true, true, true, false, false, false, false, false, false, false, false, false, false, false, false, false, false, false, false, false, false, false, false, false, false, false, false, false, false, false, false, false, false]
abbrev M4_ : Array Bool := #[true, true, true, true, false, false, false, false, false, false, false, false, false, false, false, false, false, false, false, false, false, false, false, false, false, false, false, false, false, false, false, false, false]
abbrev M5_ : Array Bool := #[true, true, true, true, true, false, false, false, false, false, false, false, false, false, false, false, false, false, false, false, false, false, false, false, false, false, false, false, false, false, false, false, false]
abbrev M6_ : Array Bool := #[true, true, true, true, true, true, false, false, false, false, false, false, false, false, false, false, false, false, false, false, false, false, false, false, false, false, false, false, false, false, false, false, false]
abbrev M7_ : Array Bool := #[true, true, true, true, true, true, true, false, false, false, false, false, false, false, false, false, false, false, false, false, false, false, false, false, false, false, false, false, false, false, false, false, false]
abbrev M8_ : Array Bool := #[true, true, true, true, true, true, true, false, true, false, false, false, false, false, false, false, false, false, false, false, false, false, false, false, false, false, false, false, false, false, false, false, false]
abbrev M9_ : Array Bool := #[true, true, true, true, true, true, true, true, true, false, false, false, false, false, false, false, false, false, false, false, false, false, false, false, false, false, false, false, false, false, false, false, false]
abbrev M10_ : Array Bool := #[true, true, true, true, true, true, true, true, true, true, false, false, false, false, false, false, false, false, false, false, false, false, false, false, false, false, false, false, false, false, false, false, false]
abbrev M11_ : Array Bool := #[true, true, true, true, true, true, true, true, true, true, true, false, false, false, false, false, false, false, false, false, false, false, false, false, false, false, false, false, false, false, false, false, false]
abbrev M12_ : Array Bool := #[true, true, true, true, true, true, true, true, true, true, true, true, false, false, false, false, false, false, false, false, false, false, false, false, false, false, false, false, false, false, false, false, false]
abbrev M13_ : Array Bool := #[true, true, true, true, true, true, true, true, true, true, true, true, true, false, false, false, false, false, false, false, false, false, false, false, false, false, false, false, false, false, false, false, false]
abbrev M14_ : Array Bool := #[true, true, true, true, true, true, true, true, true, true, true, true, true, true, false, false, false, false, false, false, false, false, false, false, false, false, false, false, false, false, false, false, false]
abbrev M15_ : Array Bool := #[true, true, true, true, true, true, true, true, true, true, true, true, true, true, true, false, false, false, false, false, false, false, false, false, false, false, false, false, false, false, false, false, false]
abbrev M16_ : Array Bool := #[true, true, true, true, true, true, true, true, true, true, true, true, true, true, true, true, false, false, false, false, false, false, false, false, false, false, false, false, false, false, false, false, false]
abbrev M17_ : Array Bool := #[true, true, true, true, true, true, true, true, true, true, true, true, true, true, true, true, true, false, false, false, false, false, false, false, false, false, false, false, false, false, false, false, false]
abbrev M18_ : Array Bool := #[true, true, true, true, true, true, true, true, true, true, true, true, true, true, true, true, true, true, false, false, false, false, false, false, false, false, false, false, false, false, false, false, false]
abbrev M19_ : Array Bool := #[true, true, true, true, true, true, true, true, true, true, true, true, true, true, true, true, true, true, true, false, false, false, false, false, false, false, false, false, false, false, false, false, false]
abbrev M20_ : Array Bool := #[true, true, true, true, true, true, true, true, true, true, true, true, true, true, true, true, true, true, true, true, false, false, false, false, false, false, false, false, false, false, false, false, false]
abbrev M21_ : Array Bool := #[true, true, true, true, true, true, true, true, true, true, true, true, true, true, true, true, true, true, true, true, true, false, false, false, false, false, false, false, false, false, false, false, false]
abbrev M22_ : Array Bool := #[true, true, true, true, true, true, true, true, true, true, true, true, true, true, true, true, true, true, true, true, true, true, false, false, false, false, false, false, false, false, false, false, false]
abbrev M23_ : Array Bool := #[true, true, true, true, true, true, true, true, true, true, true, true, true, true, true, true, true, true, true, true, true, true, true, false, false, false, false, false, false, false, false, false, false]
abbrev M24_ : Array Bool := #[true, true, true, true, true, true, true, true, true, true, true, true, true, true, true, true, true, true, true, true, true, true, true, true, false, false, false, false, false, false, false, false, false]
abbrev M25_ : Array Bool := #[true, true, true, true, true, true, true, true, true, true, true, true, true, true, true, true, true, true, true, true, true, true, true, true, true, false, false, false, false, false, false, false, false]
abbrev M26_ : Array Bool := #[true, true, true, true, true, true, true, true, true, true, true, true, true, true, true, true, true, true, true, true, true, true, true, true, true, true, false, false, false, false, false, false, false]
abbrev M27_ : Array Bool := #[true, true, true, true, true, true, true, true, true, true, true, true, true, true, true, true, true, true, true, true, true, true, true, true, true, true, true, false, false, false, false, false, false]
abbrev M28_ : Array Bool := #[true, true, true, true, true, true, true, true, true, true, true, true, true, true, true, true, true, true, true, true, true, true, true, true, true, true, true, true, false, false, false, false, false]
abbrev M29_ : Array Bool := #[true, true, true, true, true, true, true, true, true, true, true, true, true, true, true, true, true, true, true, true, true, true, true, true, true, true, true, true, true, false, false, false, false]
abbrev M30_ : Array Bool := #[true, true, true, true, true, true, true, true, true, true, true, true, true, true, true, true, true, true, true, true, true, true, true, true, true, true, true, true, true, true, false, false, false]
abbrev M31_ : Array Bool := #[true, true, true, true, true, true, true, true, true, true, true, true, true, true, true, true, true, true, true, true, true, true, true, true, true, true, true, true, true, true, true, false, false]
abbrev M32_ : Array Bool := #[true, true, true, true, true, true, true, true, true, true, true, true, true, true, true, true, true, true, true, true, true, true, true, true, true, true, true, true, true, true, true, true, false]
abbrev M33_ : Array Bool := #[true, true, true, true, true, true, true, true, true, true, true, true, true, true, true, true, true, true, true, true, true, true, true, true, true, true, true, true, true, true, true, true, true]
abbrev M34_ : Array Bool := #[true, true, true, true, true, true, true, true, true, true, true, true, true, true, true, false, true, false, false, false, false, false, false, false, false, false, false, false, false, false, false, false, false]
abbrev M35_ : Array Bool := #[true, true, true, true, true, true, true, true, true, true, true, true, true, true, true, false, true, true, false, false, false, false, false, false, false, false, false, false, false, false, false, false, false]
abbrev M36_ : Array Bool := #[true, true, true, true, true, true, true, true, false, false, false, false, false, false, false, false, false, false, false, false, false, false, false, false, false, false, false, false, false, false, false, false, false]
abbrev M37_ : Array Bool := #[false, false, false, false, false, false, false, false, false, false, false, false, false, false]
abbrev M38_ : Array Bool := #[true, false, false, false, false, false, false, false, false, false, false, false, false, false]
abbrev M39_ : Array Bool := #[true, true, false, false, false, false, false, false, false, false, false, false, false, false]
abbrev M40_ : Array Bool := #[true, true, true, false, false, false, false, false, false, false, false, false, false, false]
abbrev M41_ : Array Bool := #[true, true, true, true, false, false, false, false, false, false, false, false, false, false]
abbrev M42_ : Array Bool := #[true, true, true, true, true, false, false, false, false, false, false, false, false, false]
abbrev M43_ : Array Bool := #[true, true, true, true, true, false, true, false, false, false, false, false, false, false]
abbrev M44_ : Array Bool := #[true, true, true, true, true, true, true, false, false, false, false, false, false, false]
abbrev M45_ : Array Bool := #[true, true, true, true, true, true, true, true, false, false, false, false, false, false]
abbrev M46_ : Array Bool := #[true, true, true, true, true, true, true, true, true, false, false, false, false, false]
abbrev M47_ : Array Bool := #[true, true, true, true, true, true, true, true, true, true, false, false, false, false]
abbrev M48_ : Array Bool := #[true, true, true, true, true, true, true, true, true, true, true, false, false, false]
abbrev M49_ : Array Bool := #[true, true, true, true, true, true, true, true, true, true, true, true, false, false]
abbrev M50_ : Array Bool := #[true, true, true, true, true, true, true, true, true, true, true, true, true, false]
abbrev M51_ : Array Bool := #[true, true, true, true, true, true, true, true, true, true, true, true, true, true]
abbrev M52_ : Array Bool := #[true, true, true, true, true, true, false, false, false, false, false, false, false, false]
end Go.Proofs.YtojiicbdbajljaaDoor.Q
