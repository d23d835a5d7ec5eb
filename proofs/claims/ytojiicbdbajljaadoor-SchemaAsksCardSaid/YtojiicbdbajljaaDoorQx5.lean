-- Printed by a program of this session (wip/myprint.py, over the kit's printer) out of the translation.
import Derived.Test.YtojiicbdbajljaaDoorQx0
namespace Go.Proofs.YtojiicbdbajljaaDoor.Q
open Go.RowKit Go.Proofs.YtojiicbdbajljaaDoorW.PrintWords Go.Proofs.YtojiicbdbajljaaDoorW.PrintLast Go.Proofs.YtojiicbdbajljaaDoorW.PrintMore
attribute [local go_sem] max2_int min2_int max_two min_two max_three min_three max_four min_four   -- for this text's walks alone
set_option linter.unusedVariables false
set_option linter.unusedSimpArgs false

/-! ### schema_Column_text: function 41 -/
def schema_Column_text.f (a0_0 : ByteArray) (a0_1 : Int) (a0_2 : Bool) : Option (ByteArray) := if a0_0.size ≤ 9223372036854775000 then some (((a0_0 ++ (⟨#[58]⟩ : ByteArray)) ++ (if 0 ≤ a0_1 then (if a0_1 < 4 then rdOf ByteArray.empty typeNames a0_1 else ⟨#[]⟩) else ⟨#[]⟩)) ++ (if a0_2 = true then ⟨#[33]⟩ else ⟨#[]⟩)) else none
theorem typeNames_size (i : Int) : (rdOf ByteArray.empty typeNames i).size ≤ 4 := by
  unfold rdOf typeNames
  match i.toNat with
  | 0 => decide
  | 1 => decide
  | 2 => decide
  | 3 => decide
  | k + 4 => simp
theorem ba_append_empty (a : ByteArray) : a ++ (⟨#[]⟩ : ByteArray) = a := by
  have : (⟨#[]⟩ : ByteArray) = ByteArray.empty := rfl
  rw [this]
  exact ByteArray.append_empty
theorem schema_Column_text.calls (a0_0 : ByteArray) (a0_1 : Int) (a0_2 : Bool) (r : ByteArray) (w : World) (hG : Gl w) (h : schema_Column_text.f a0_0 a0_1 a0_2 = some r) :
    Calls Tryd.prog 41 #[.agg #[.string a0_0, .int .i64 a0_1, .bool a0_2]] w fun e w' => e = .returned (.string r) ∧ Below w.heap.size w w' := by
  unfold schema_Column_text.f at h
  split at h
  · rename_i hsz
    by_cases c1 : 0 ≤ a0_1
    · by_cases c2 : a0_1 < 4
      · rw [if_pos c1, if_pos c2] at h
        have ht := typeNames_size a0_1
        have hx0 := World.var?_cell gTypes (hG.below ((Below.refl w.heap.size w).alloc (Nat.le_refl _) (.cells #[.string a0_0, .int .i64 a0_1, .bool a0_2] 82 (0, 0)))).types a0_1.toNat
        have hx : (w.alloc (.cells #[.string a0_0, .int .i64 a0_1, .bool a0_2] 82 (0, 0))).cell? ⟨0, a0_1.toNat, none⟩ = some (.string (rdOf ByteArray.empty typeNames a0_1)) := by
          rw [hx0]
          obtain ⟨k, rfl⟩ : ∃ k : Nat, a0_1 = k := ⟨a0_1.toNat, by omega⟩
          match k, c2 with
          | 0, _ => rfl
          | 1, _ => rfl
          | 2, _ => rfl
          | 3, _ => rfl
          | k + 4, h => exact absurd h (by omega)
        clear hx0
        generalize hT : rdOf ByteArray.empty typeNames a0_1 = T at *
        clear hT
        cases a0_2 with
        | true =>
          rw [if_pos rfl] at h
          obtain rfl := Option.some.inj h
          clear h
          go_enter Tryd.func41, Tryd.ntmps41
          go_wp2
          go_ret
          exact ⟨rfl, (Below.refl w.heap.size w).alloc (Nat.le_refl _) _⟩
        | false =>
          rw [if_neg (by decide), ba_append_empty] at h
          obtain rfl := Option.some.inj h
          clear h
          go_enter Tryd.func41, Tryd.ntmps41
          go_wp2
          go_ret
          exact ⟨rfl, (Below.refl w.heap.size w).alloc (Nat.le_refl _) _⟩
      · rw [if_pos c1, if_neg c2, ba_append_empty] at h
        cases a0_2 with
        | true =>
          rw [if_pos rfl] at h
          obtain rfl := Option.some.inj h
          clear h
          go_enter Tryd.func41, Tryd.ntmps41
          go_wp2
          go_ret
          exact ⟨rfl, (Below.refl w.heap.size w).alloc (Nat.le_refl _) _⟩
        | false =>
          rw [if_neg (by decide), ba_append_empty] at h
          obtain rfl := Option.some.inj h
          clear h
          go_enter Tryd.func41, Tryd.ntmps41
          go_wp2
          go_ret
          exact ⟨rfl, (Below.refl w.heap.size w).alloc (Nat.le_refl _) _⟩
    · rw [if_neg c1, ba_append_empty] at h
      cases a0_2 with
      | true =>
        rw [if_pos rfl] at h
        obtain rfl := Option.some.inj h
        clear h
        go_enter Tryd.func41, Tryd.ntmps41
        go_wp2
        go_ret
        exact ⟨rfl, (Below.refl w.heap.size w).alloc (Nat.le_refl _) _⟩
      | false =>
        rw [if_neg (by decide), ba_append_empty] at h
        obtain rfl := Option.some.inj h
        clear h
        go_enter Tryd.func41, Tryd.ntmps41
        go_wp2
        go_ret
        exact ⟨rfl, (Below.refl w.heap.size w).alloc (Nat.le_refl _) _⟩
  · cases h


end Go.Proofs.YtojiicbdbajljaaDoor.Q
