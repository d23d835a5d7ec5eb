-- Printed by a program of this session (wip/myprint.py, over the kit's printer) out of the translation.
import Derived.Test.YtojiicbdbajljaaDoorQx0
namespace Go.Proofs.YtojiicbdbajljaaDoor.Q
open Go.RowKit Go.Proofs.YtojiicbdbajljaaDoorW.PrintWords Go.Proofs.YtojiicbdbajljaaDoorW.PrintLast Go.Proofs.YtojiicbdbajljaaDoorW.PrintMore
attribute [local go_sem] max2_int min2_int max_two min_two max_three min_three max_four min_four   -- for this text's walks alone
set_option linter.unusedVariables false
set_option linter.unusedSimpArgs false

/-! ### hachureref13_Name: function 43 -/
def hachureref13_Name.f (a0 : Int) : Option (ByteArray) := if a0 < 1 then (some (⟨#[]⟩ : ByteArray)) else (if a0 > 7 then (some (⟨#[]⟩ : ByteArray)) else (if 0 ≤ a0 then (if a0 < 8 then (some (rdOf ByteArray.empty ([(⟨#[]⟩ : ByteArray), (⟨#[80, 79, 73, 78, 84]⟩ : ByteArray), (⟨#[76, 73, 78, 69, 83, 84, 82, 73, 78, 71]⟩ : ByteArray), (⟨#[80, 79, 76, 89, 71, 79, 78]⟩ : ByteArray), (⟨#[77, 85, 76, 84, 73, 80, 79, 73, 78, 84]⟩ : ByteArray), (⟨#[77, 85, 76, 84, 73, 76, 73, 78, 69, 83, 84, 82, 73, 78, 71]⟩ : ByteArray), (⟨#[77, 85, 76, 84, 73, 80, 79, 76, 89, 71, 79, 78]⟩ : ByteArray), (⟨#[71, 69, 79, 77, 69, 84, 82, 89, 67, 79, 76, 76, 69, 67, 84, 73, 79, 78]⟩ : ByteArray)] : List ByteArray) a0)) else (none)) else (none)))
set_option maxHeartbeats 8000000 in
set_option maxRecDepth 100000 in
theorem hachureref13_Name.calls (a0 : Int) (r : ByteArray) (w : World) (h : hachureref13_Name.f a0 = some r) :
    Calls Tryd.prog 43 #[.int .i64 a0] w fun e w' => e = .returned (.string r) ∧ Drawn0 w w' := by
  have H : (if a0 < 1 then (some (⟨#[]⟩ : ByteArray)) else (if a0 > 7 then (some (⟨#[]⟩ : ByteArray)) else (if 0 ≤ a0 then (if a0 < 8 then (some (rdOf ByteArray.empty ([(⟨#[]⟩ : ByteArray), (⟨#[80, 79, 73, 78, 84]⟩ : ByteArray), (⟨#[76, 73, 78, 69, 83, 84, 82, 73, 78, 71]⟩ : ByteArray), (⟨#[80, 79, 76, 89, 71, 79, 78]⟩ : ByteArray), (⟨#[77, 85, 76, 84, 73, 80, 79, 73, 78, 84]⟩ : ByteArray), (⟨#[77, 85, 76, 84, 73, 76, 73, 78, 69, 83, 84, 82, 73, 78, 71]⟩ : ByteArray), (⟨#[77, 85, 76, 84, 73, 80, 79, 76, 89, 71, 79, 78]⟩ : ByteArray), (⟨#[71, 69, 79, 77, 69, 84, 82, 89, 67, 79, 76, 76, 69, 67, 84, 73, 79, 78]⟩ : ByteArray)] : List ByteArray) a0)) else (none)) else (none)))) = some r := h
  clear h
  by_cases c2 : a0 < 1
  · rw [if_pos c2] at H
    have c2b0 : decide (a0 < 1) = true := decide_eq_true c2
    clear c2
    obtain rfl := Option.some.inj H
    go_enter Tryd.func43, Tryd.ntmps43
    go_wp2
    go_ret
    exact ⟨by first | rfl | (simp; done) | (simp [*]; done), by repeat (first | exact Drawn0.refl _ | apply Drawn0.step)⟩
  · rw [if_neg c2] at H
    have c2b0 : decide (a0 < 1) = false := decide_eq_false c2
    clear c2
    by_cases c3 : a0 > 7
    · rw [if_pos c3] at H
      have c3b0 : decide (7 < a0) = true := decide_eq_true c3
      clear c3
      obtain rfl := Option.some.inj H
      go_enter Tryd.func43, Tryd.ntmps43
      go_wp2
      go_ret
      exact ⟨by first | rfl | (simp; done) | (simp [*]; done), by repeat (first | exact Drawn0.refl _ | apply Drawn0.step)⟩
    · rw [if_neg c3] at H
      have c3b0 : decide (7 < a0) = false := decide_eq_false c3
      clear c3
      by_cases c4 : 0 ≤ a0
      · rw [if_pos c4] at H
        have c4b0 : decide (0 ≤ a0) = true := decide_eq_true c4
        clear c4
        by_cases c5 : a0 < 8
        · rw [if_pos c5] at H
          have c5b0 : decide (a0 < 8) = true := decide_eq_true c5
          clear c5
          have hx6 : ∀ W, (Instr.index 151 (.agg #[.string (⟨#[]⟩ : ByteArray), .string (⟨#[80, 79, 73, 78, 84]⟩ : ByteArray), .string (⟨#[76, 73, 78, 69, 83, 84, 82, 73, 78, 71]⟩ : ByteArray), .string (⟨#[80, 79, 76, 89, 71, 79, 78]⟩ : ByteArray), .string (⟨#[77, 85, 76, 84, 73, 80, 79, 73, 78, 84]⟩ : ByteArray), .string (⟨#[77, 85, 76, 84, 73, 76, 73, 78, 69, 83, 84, 82, 73, 78, 71]⟩ : ByteArray), .string (⟨#[77, 85, 76, 84, 73, 80, 79, 76, 89, 71, 79, 78]⟩ : ByteArray), .string (⟨#[71, 69, 79, 77, 69, 84, 82, 89, 67, 79, 76, 76, 69, 67, 84, 73, 79, 78]⟩ : ByteArray)]) (.int .i64 a0)).run Tryd.prog W = .ok (.string (rdOf ByteArray.empty ([(⟨#[]⟩ : ByteArray), (⟨#[80, 79, 73, 78, 84]⟩ : ByteArray), (⟨#[76, 73, 78, 69, 83, 84, 82, 73, 78, 71]⟩ : ByteArray), (⟨#[80, 79, 76, 89, 71, 79, 78]⟩ : ByteArray), (⟨#[77, 85, 76, 84, 73, 80, 79, 73, 78, 84]⟩ : ByteArray), (⟨#[77, 85, 76, 84, 73, 76, 73, 78, 69, 83, 84, 82, 73, 78, 71]⟩ : ByteArray), (⟨#[77, 85, 76, 84, 73, 80, 79, 76, 89, 71, 79, 78]⟩ : ByteArray), (⟨#[71, 69, 79, 77, 69, 84, 82, 89, 67, 79, 76, 76, 69, 67, 84, 73, 79, 78]⟩ : ByteArray)] : List ByteArray) a0)) W := fun W => index_arr_str Tryd.underlying151 Tryd.isAgg9 Tryd.sizeOf9 [(⟨#[]⟩ : ByteArray), (⟨#[80, 79, 73, 78, 84]⟩ : ByteArray), (⟨#[76, 73, 78, 69, 83, 84, 82, 73, 78, 71]⟩ : ByteArray), (⟨#[80, 79, 76, 89, 71, 79, 78]⟩ : ByteArray), (⟨#[77, 85, 76, 84, 73, 80, 79, 73, 78, 84]⟩ : ByteArray), (⟨#[77, 85, 76, 84, 73, 76, 73, 78, 69, 83, 84, 82, 73, 78, 71]⟩ : ByteArray), (⟨#[77, 85, 76, 84, 73, 80, 79, 76, 89, 71, 79, 78]⟩ : ByteArray), (⟨#[71, 69, 79, 77, 69, 84, 82, 89, 67, 79, 76, 76, 69, 67, 84, 73, 79, 78]⟩ : ByteArray)] rfl a0 (of_decide_eq_true (by first | (with_reducible assumption) | assumption)) (of_decide_eq_true (by first | (with_reducible assumption) | assumption)) W
          obtain rfl := Option.some.inj H
          go_enter Tryd.func43, Tryd.ntmps43
          go_wp2
          go_ret
          exact ⟨by first | rfl | (simp; done) | (simp [*]; done), by repeat (first | exact Drawn0.refl _ | apply Drawn0.step)⟩
        · rw [if_neg c5] at H
          exact absurd H (by simp)
      · rw [if_neg c4] at H
        exact absurd H (by simp)

end Go.Proofs.YtojiicbdbajljaaDoor.Q
