-- Printed by a program of this session (wip/myprint.py, over the kit's printer) out of the translation.
import Derived.Test.YtojiicbdbajljaaDoorQx0
namespace Go.Proofs.YtojiicbdbajljaaDoor.Q
open Go.RowKit Go.Proofs.YtojiicbdbajljaaDoorW.PrintWords Go.Proofs.YtojiicbdbajljaaDoorW.PrintLast Go.Proofs.YtojiicbdbajljaaDoorW.PrintMore
attribute [local go_sem] max2_int min2_int max_two min_two max_three min_three max_four min_four   -- for this text's walks alone
set_option linter.unusedVariables false
set_option linter.unusedSimpArgs false

/-! ### shape_isKind: function 85 -/
def shape_isKind.f (a0 : Int) : Option (Bool) := if a0 ≥ 1 then (some (decide (a0 ≤ 7))) else (some false)
set_option maxHeartbeats 8000000 in
set_option maxRecDepth 100000 in
theorem shape_isKind.calls (a0 : Int) (r : Bool) (w : World) (h : shape_isKind.f a0 = some r) :
    Calls Tryd.prog 85 #[.int .i64 a0] w fun e w' => e = .returned (.bool r) ∧ Drawn0 w w' := by
  have H : (if a0 ≥ 1 then (some (decide (a0 ≤ 7))) else (some false)) = some r := h
  clear h
  by_cases c2 : a0 ≥ 1
  · rw [if_pos c2] at H
    have c2b0 : decide (1 ≤ a0) = true := decide_eq_true c2
    clear c2
    obtain rfl := Option.some.inj H
    go_enter Tryd.func85, Tryd.ntmps85
    go_wp2
    go_ret
    exact ⟨by first | rfl | (simp; done) | (simp [*]; done), by repeat (first | exact Drawn0.refl _ | apply Drawn0.step)⟩
  · rw [if_neg c2] at H
    have c2b0 : decide (1 ≤ a0) = false := decide_eq_false c2
    clear c2
    obtain rfl := Option.some.inj H
    go_enter Tryd.func85, Tryd.ntmps85
    go_wp2
    go_ret
    exact ⟨by first | rfl | (simp; done) | (simp [*]; done), by repeat (first | exact Drawn0.refl _ | apply Drawn0.step)⟩

/-! ### shape_Name: function 39 -/
def shape_Name.f (a0 : Int) : Option (ByteArray) := if 1 ≤ a0 then (if a0 ≤ 7 then some (rdOf ByteArray.empty formNames a0) else some (⟨#[]⟩ : ByteArray)) else some (⟨#[]⟩ : ByteArray)
theorem shape_Name.calls (a0 : Int) (r : ByteArray) (w : World) (hG : Gl w) (h : shape_Name.f a0 = some r) :
    Calls Tryd.prog 39 #[.int .i64 a0] w fun e w' => e = .returned (.string r) ∧ Drawn0 w w' := by
  unfold shape_Name.f at h
  by_cases c1 : 1 ≤ a0
  · rw [if_pos c1] at h
    by_cases c2 : a0 ≤ 7
    · rw [if_pos c2] at h
      obtain rfl := Option.some.inj h
      have hk : shape_isKind.f a0 = some true := by unfold shape_isKind.f; rw [if_pos c1]; simp [c2]
      have hx : ∀ n, (w.drewN n).cell? ⟨1, a0.toNat * 2, none⟩ = some (.string (rdOf ByteArray.empty formNames a0)) := by
        intro n
        have h1 := World.var?_cell gForms (hG.drewN n).forms (a0.toNat * 2)
        rw [h1]
        obtain ⟨k, rfl⟩ : ∃ k : Nat, a0 = k := ⟨a0.toNat, by omega⟩
        match k, c1, c2 with
        | 1, _, _ => rfl
        | 2, _, _ => rfl
        | 3, _, _ => rfl
        | 4, _, _ => rfl
        | 5, _, _ => rfl
        | 6, _, _ => rfl
        | 7, _, _ => rfl
        | 0, h, _ => exact absurd h (by omega)
        | k + 8, _, h => exact absurd h (by omega)
      have hk' := Aside0.mk hk
      clear hk h
      have c1' : 0 ≤ a0 := by omega
      have c2' : a0 < 8 := by omega
      go_enter Tryd.func39, Tryd.ntmps39
      go_wp2_with (go_at_call 85; (with_reducible refine (shape_isKind.calls a0 true _ hk'.out).mono ?_); rintro e w' ⟨rfl, ⟨nd, rfl⟩⟩)
      go_ret
      exact ⟨rfl, by repeat (first | exact Drawn0.refl _ | apply Drawn0.step)⟩
    · rw [if_neg c2] at h
      obtain rfl := Option.some.inj h
      have hk : shape_isKind.f a0 = some false := by unfold shape_isKind.f; rw [if_pos c1]; simp [c2]
      have hk' := Aside0.mk hk
      clear hk h
      go_enter Tryd.func39, Tryd.ntmps39
      go_wp2_with (go_at_call 85; (with_reducible refine (shape_isKind.calls a0 false _ hk'.out).mono ?_); rintro e w' ⟨rfl, ⟨nd, rfl⟩⟩)
      go_ret
      exact ⟨rfl, by repeat (first | exact Drawn0.refl _ | apply Drawn0.step)⟩
  · rw [if_neg c1] at h
    obtain rfl := Option.some.inj h
    have hk : shape_isKind.f a0 = some false := by unfold shape_isKind.f; rw [if_neg (by omega)]
    have hk' := Aside0.mk hk
    clear hk h
    go_enter Tryd.func39, Tryd.ntmps39
    go_wp2_with (go_at_call 85; (with_reducible refine (shape_isKind.calls a0 false _ hk'.out).mono ?_); rintro e w' ⟨rfl, ⟨nd, rfl⟩⟩)
    go_ret
    exact ⟨rfl, by repeat (first | exact Drawn0.refl _ | apply Drawn0.step)⟩


/-! ### strconv_Itoa: function 40 -/
def strconv_Itoa.f (a0 : Int) : Option (ByteArray) := if -9223372036854775808 ≤ a0 then (if a0 ≤ 9223372036854775807 then some (bs (Lib.itoa a0)) else none) else none
theorem strconv_Itoa.calls (a0 : Int) (r : ByteArray) (w : World) (hG : Gl w) (h : strconv_Itoa.f a0 = some r) :
    Calls Tryd.prog 40 #[.int .i64 a0] w fun e w' => e = .returned (.string r) ∧ Below w.heap.size w w' := by
  unfold strconv_Itoa.f at h
  split at h
  · split at h
    · obtain rfl := Option.some.inj h
      refine (Tryd.strconv_Itoa a0 (by assumption) (by assumption) w hG.pow).mono ?_
      rintro e w' ⟨rfl, k, os, rfl⟩
      exact ⟨rfl, below_grows _ _ _⟩
    · cases h
  · cases h


end Go.Proofs.YtojiicbdbajljaaDoor.Q
