-- Printed by a program of this session (wip/myprint.py, over the kit's printer) out of the translation.
import Derived.Test.YtojiicbdbajljaaDoorQx0
namespace Go.Proofs.YtojiicbdbajljaaDoor.Q
open Go.RowKit Go.Proofs.YtojiicbdbajljaaDoorW.PrintWords Go.Proofs.YtojiicbdbajljaaDoorW.PrintLast Go.Proofs.YtojiicbdbajljaaDoorW.PrintMore
attribute [local go_sem] max2_int min2_int max_two min_two max_three min_three max_four min_four   -- for this text's walks alone
set_option linter.unusedVariables false
set_option linter.unusedSimpArgs false

/-! ### schema_Name: function 14 -/
/-- May byte i of a text stand in a name? -/
def nameAt (s : ByteArray) (i : Nat) : Bool := (decide (97 ≤ bt s i) && decide (bt s i ≤ 122)) || (decide (0 < i) && (decide (bt s i = 95) || (decide (48 ≤ bt s i) && decide (bt s i ≤ 57))))
def nameOk (s : ByteArray) : Bool := (List.range s.size).all (nameAt s) && (decide (1 ≤ s.size) && decide (s.size ≤ 12))
def schema_Name.f (a0 : ByteArray) : Option (Bool) := some (nameOk a0)
theorem nameOk_bad {s : ByteArray} {pos : Nat} (hp : pos < s.size) (hb : nameAt s pos = false) : nameOk s = false := by
  unfold nameOk
  have : (List.range s.size).all (nameAt s) = false := by
    rw [List.all_eq_false]
    exact ⟨pos, List.mem_range.2 hp, by rw [hb]; decide⟩
  rw [this]; rfl
theorem nameOk_end {s : ByteArray} (hb : ∀ i, i < s.size → nameAt s i = true) : nameOk s = (decide (1 ≤ s.size) && decide (s.size ≤ 12)) := by
  unfold nameOk
  have : (List.range s.size).all (nameAt s) = true := by
    rw [List.all_eq_true]
    intro i hi
    exact hb i (List.mem_range.1 hi)
  rw [this]; rfl
theorem ba_length (s : ByteArray) : s.toList.length = s.size := by rw [ByteArray.toList_eq]; rfl
def NameIn (s : ByteArray) (w w' : World) : Prop := ∃ pos : Nat, w' = w.iter s pos ∧ pos ≤ s.size ∧ ∀ i, i < pos → nameAt s i = true
set_option maxRecDepth 100000 in
theorem schema_Name.calls (a0 : ByteArray) (r : Bool) (w : World) (h : schema_Name.f a0 = some r) :
    Calls Tryd.prog 14 #[.string a0] w fun e w' => e = .returned (.bool r) ∧ Below w.heap.size w w' := by
  obtain rfl := Option.some.inj h
  clear h
  go_enter Tryd.func14, Tryd.ntmps14
  go_wp2
  go_loopw [3] (fun _ w' => NameIn a0 w w') (fun _ w' => a0.size - w'.iterPos w.heap.size)
  case atStart => exact ⟨0, rfl, Nat.zero_le _, fun i hi => absurd hi (by omega)⟩
  case round =>
    obtain ⟨pos, rfl, hle, hgood⟩ := hrel
    have HG := Aside0.mk hgood
    clear hgood
    by_cases hp : pos < a0.size
    · by_cases ha : (a0[pos]'hp).toNat < 128
      · have hnx : ∀ ty, (Instr.next (.pointer (some ⟨w.heap.size, 0, none⟩)) true ty).run Tryd.prog (w.iter a0 pos) = _ := fun ty => run_next_ascii w a0 pos ty hp ha
        have hbt : (((a0[pos]'hp).toNat : Nat) : Int) = bt a0 pos := by rw [← bt_at a0 pos (by simpa using hp)]; simp
        rw [hbt] at hnx
        have hB := nameOk_bad (s := a0) hp
        have hA : nameAt a0 pos = true ↔ ((97 ≤ bt a0 pos ∧ bt a0 pos ≤ 122) ∨ (0 < pos ∧ (bt a0 pos = 95 ∨ (48 ≤ bt a0 pos ∧ bt a0 pos ≤ 57)))) := by
          unfold nameAt
          simp only [Bool.or_eq_true, Bool.and_eq_true, decide_eq_true_eq]
        have HB := Aside0.mk hB
        have HA := Aside0.mk hA
        clear hA hB hbt
        generalize bt a0 pos = c at *
        go_wp2
        all_goals first
          | (go_ret
             (try simp only [beq_iff_eq, beq_eq_false_iff_ne] at *)
             exact ⟨by rw [HB.out (Bool.eq_false_iff.2 (fun e => by have e' := HA.out.1 e; omega))] <;> rfl, (Below.refl _ _).alloc (Nat.le_refl _) _⟩)
          | (refine ⟨⟨pos + 1, rfl, by omega, fun i hi => ?_⟩, by simp only [World.iterPos_iter]; omega⟩
             (try simp only [beq_iff_eq] at *)
             by_cases e : i = pos
             · rw [e]; exact HA.out.2 (by omega)
             · exact HG.out i (by omega))
      · have hnx : ∀ ty, (Instr.next (.pointer (some ⟨w.heap.size, 0, none⟩)) true ty).run Tryd.prog (w.iter a0 pos) = _ := fun ty => run_next_any w a0 pos ty hp
        obtain ⟨hd1, hd2⟩ := decode_high a0 pos hp (by omega)
        have hB := nameOk_bad (s := a0) hp (by
          have hbt : (((a0[pos]'hp).toNat : Nat) : Int) = bt a0 pos := by rw [← bt_at a0 pos (by simpa using hp)]; simp
          unfold nameAt
          rw [← hbt]
          simp only [Bool.or_eq_false_iff, Bool.and_eq_false_iff, decide_eq_false_iff_not]
          omega)
        have HB := Aside0.mk hB
        clear hB
        generalize (Utf8.decode a0 pos).1 = c at *
        generalize (Utf8.decode a0 pos).2 = wd at *
        have hc1 : decide ((c : Int) ≤ 122) = false := decide_eq_false (by omega)
        have hc2 : decide ((c : Int) ≤ 57) = false := decide_eq_false (by omega)
        have hc3 : ((c : Int) == 95) = false := beq_eq_false_iff_ne.2 (by omega)
        go_wp2
        all_goals
          go_ret
          exact ⟨by rw [HB.out] <;> rfl, (Below.refl _ _).alloc (Nat.le_refl _) _⟩
    · have hnx : ∀ ty, (Instr.next (.pointer (some ⟨w.heap.size, 0, none⟩)) true ty).run Tryd.prog (w.iter a0 pos) = _ := fun ty => run_next_end w a0 pos ty hp
      have HE := Aside0.mk (nameOk_end (s := a0) (fun i hi => HG.out i (by omega)))
      go_wp2
      · go_ret
        rename_i he
        have hz : a0.size = 0 := by rw [← ba_length, he]; rfl
        exact ⟨by rw [HE.out, hz] <;> rfl, (Below.refl _ _).alloc (Nat.le_refl _) _⟩
      · go_ret
        rename_i he
        refine ⟨?_, (Below.refl _ _).alloc (Nat.le_refl _) _⟩
        rw [HE.out]
        have hz : a0.size ≠ 0 := by
          intro hz
          apply he
          apply List.eq_nil_of_length_eq_zero
          rw [ba_length, hz]
        have h1 : (!a0.toList.isEmpty) = true := by simpa using he
        have h2 : decide (1 ≤ a0.size) = true := by simp; omega
        have h3 : decide ((a0.size : Int) ≤ 12) = decide (a0.size ≤ 12) := decide_eq_decide.2 (by omega)
        have h4 : (decide (1 ≤ a0.size) && decide (a0.size ≤ 12)) = (!a0.toList.isEmpty && decide ((a0.size : Int) ≤ 12)) := by rw [h1, h2, h3]
        rw [h4] <;> rfl


end Go.Proofs.YtojiicbdbajljaaDoor.Q
