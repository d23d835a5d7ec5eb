-- Printed by a program of this session (wip/myprint.py, over the kit's printer) out of the translation.
import Derived.Test.YtojiicbdbajljaaDoorQx0
namespace Go.Proofs.YtojiicbdbajljaaDoor.Q
open Go.RowKit Go.Proofs.YtojiicbdbajljaaDoorW.PrintWords Go.Proofs.YtojiicbdbajljaaDoorW.PrintLast Go.Proofs.YtojiicbdbajljaaDoorW.PrintMore
attribute [local go_sem] max2_int min2_int max_two min_two max_three min_three max_four min_four   -- for this text's walks alone
set_option linter.unusedVariables false
set_option linter.unusedSimpArgs false

/-! ### strings_Join: function 42 -/
def strings_Join.f (l0 : List (ByteArray)) (a1 : ByteArray) : Option (ByteArray) := if l0.length ≤ 140737488355328 then (if (Lib.join (l0.map fun x => x.data.toList) a1.data.toList).length ≤ 140737488355328 then some (bs (Lib.join (l0.map fun x => x.data.toList) a1.data.toList)) else none) else none
theorem strings_Join.calls (A0 : Option Addr) (c0 : Nat) (l0 : List (ByteArray)) (a1 : ByteArray) (r : ByteArray) (w : World) (hr0 : Kd.C Kd.string w A0 l0.length l0) (hc0 : l0.length ≤ c0) (hs0 : ∀ ad, A0 = some ad → ad.spot = none) (h : strings_Join.f l0 a1 = some r) :
    Calls Tryd.prog 42 #[.slice A0 l0.length c0, .string a1] w fun e w' => e = .returned (.string r) ∧ Below w.heap.size w w' := by
  unfold strings_Join.f at h
  split at h
  · split at h
    · obtain rfl := Option.some.inj h
      by_cases hz : l0.length = 0
      · obtain rfl := List.eq_nil_of_length_eq_zero hz
        refine (Tryd.strings_Join_none A0 c0 a1 w).mono ?_
        rintro e w' ⟨rfl, rfl⟩
        exact ⟨rfl, Below.refl _ _⟩
      · obtain ⟨ad, rfl, _⟩ := hr0.2.2 (by omega)
        have hsp := hs0 ad rfl
        obtain ⟨bk, o, sp⟩ := ad
        simp only at hsp
        subst hsp
        have hc : ∀ (j : Nat) (x : ByteArray), l0[j]? = some x → w.cell? ⟨bk, o + j, none⟩ = some (Value.string x) := by
          intro j x hj
          have hlt : j < l0.length := (List.getElem?_eq_some_iff.1 hj).1
          obtain ⟨ad', e', hx⟩ := Kd.at_string hr0 (j : Int) (by omega) (by omega)
          injection e' with e'
          subst e'
          have e1 : (⟨bk, o, none⟩ : Addr).add (j : Int).toNat = ⟨bk, o + j, none⟩ := by
            unfold Addr.add
            split
            · rename_i hz'
              have : j = 0 := by omega
              subst this
              rfl
            · rfl
          rw [e1] at hx
          rw [hx]
          have e2 : (rdOf ByteArray.empty l0 (j : Int)) = x := by
            unfold rdOf
            rw [List.getD_eq_getElem?_getD, show (j : Int).toNat = j from rfl, hj]
            rfl
          rw [e2]
        have hb : bk < w.heap.size := by
          have h0 : l0[0]? = some (l0[0]'(by omega)) := List.getElem?_eq_getElem (by omega)
          exact World.block_lt_of_cell? w _ (hc 0 _ h0)
        refine (Tryd.strings_Join bk o c0 l0 a1 w hc hb (by assumption) hc0 (by assumption)).mono ?_
        rintro e w' ⟨rfl, hw⟩
        exact ⟨rfl, hw⟩
    · cases h
  · cases h


end Go.Proofs.YtojiicbdbajljaaDoor.Q
