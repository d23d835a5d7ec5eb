/- From the row's list of package-level variables to what the walks ask of them; and how each plain datum lies in cells. -/
import Derived.Test.YtojiicbdbajljaaDoorRows
import Derived.Test.YtojiicbdbajljaaDoorBaseP
import Derived.OpenShut
import Derived.ChangeArms
import Derived.Lib.LaidTab
import Derived.Stop.LaidErr
namespace Go.Proofs.YtojiicbdbajljaaDoor
open Go.RowKit Go.Proofs.YtojiicbdbajljaaDoorW.PrintWords

/-- The cells of a plain datum. -/
def litCells {H : Type} : DataW H → List Value
  | .lit (.string b) => [.string ⟨b.toArray⟩]
  | .lit (.int k n) => [.int k n]
  | .lit (.bool b) => [.bool b]
  | _ => []
def rowCells {H : Type} : DataW H → List Value
  | .agg ds => ds.flatMap litCells
  | d => litCells d
theorem chunks {α : Type} (k : Nat) : ∀ (n : Nat) (cs : List α), cs.length = n * k → cs = (List.range n).flatMap fun i => (cs.drop (i * k)).take k
  | 0, cs, h => by simp at h; simp [h]
  | n + 1, cs, h => by
    rw [List.range_succ, List.flatMap_append, List.flatMap_cons, List.flatMap_nil, List.append_nil]
    have h1 := chunks k n (cs.take (n * k)) (by rw [List.length_take, h]; simp [Nat.succ_mul])
    have h2 : ((List.range n).flatMap fun i => (cs.drop (i * k)).take k) = (List.range n).flatMap fun i => ((cs.take (n * k)).drop (i * k)).take k := by
      simp only [List.flatMap]
      apply congrArg List.flatten
      apply List.map_congr_left
      intro i hi
      have hi := List.mem_range.1 hi
      have hle : i * k + k ≤ n * k := by rw [← Nat.succ_mul]; exact Nat.mul_le_mul_right _ hi
      rw [List.drop_take, List.take_take]
      congr 1
      omega
    rw [h2, ← h1]
    have h3 : (cs.drop (n * k)).take k = cs.drop (n * k) := by
      apply List.take_of_length_le
      rw [List.length_drop, h, Nat.succ_mul]
      omega
    rw [h3, List.take_append_drop]
theorem array_cells {H : Type} {enc : TypeId × Value → H} {P : Program} {w : World} {base : Nat} {sp : Nat → Bool} {held : Bool} {fuel n : Nat} {t e : TypeId} {cs : List Value} {ds : List (DataW H)} {p : List MemPlace} {f : DataW H → List Value}
    (ht : P.underlying t = some (.array n e)) (hct : P.cellsOf t = n * P.cellsOf e) (hf : ∀ {m : Nat} {c : List Value} {y : DataW H × List MemPlace}, DataW.trod enc P w base sp held m e c = some y → c = f y.1)
    (h : DataW.trod enc P w base sp held fuel t cs = some (.agg ds, p)) : cs = ds.flatMap f := by
  obtain ⟨xs, m, rfl, hx, hl, hxl, hi⟩ := DataW.trod_array ht h
  have hds : ds = xs.map (·.1) := by
    have := congrArg Prod.fst hx
    simpa using this
  rw [chunks (P.cellsOf e) n cs (by rw [hl, hct]), hds]
  simp only [List.flatMap]
  apply congrArg List.flatten
  apply List.ext_getElem?
  intro i
  rw [List.getElem?_map, List.getElem?_map, List.getElem?_map]
  by_cases hin : i < n
  · rw [List.getElem?_range hin]
    have hlt : i < xs.length := by omega
    have hxi : xs[i]? = some xs[i] := List.getElem?_eq_getElem hlt
    have := hf ((hi i hin).trans hxi)
    rw [hxi, Option.map_some, Option.map_some, Option.map_some, this]
  · rw [List.getElem?_eq_none (by simp; omega), List.getElem?_eq_none (by omega)]
    rfl
theorem string_cells {H : Type} {enc : TypeId × Value → H} {P : Program} {w : World} {base : Nat} {sp : Nat → Bool} {held : Bool} {m : Nat} {t : TypeId} {c : List Value} {y : DataW H × List MemPlace}
    (ht : P.underlying t = some .string) (h : DataW.trod enc P w base sp held m t c = some y) : c = litCells y.1 := by
  obtain ⟨s, rfl, rfl, _⟩ := DataW.trod_string ht h
  rfl
/-- What is listed first holds the cells of its datum. -/
theorem laid_head {P : Program} {W : World} {name : String} {d : DataW Unit} {rest : List (String × DataW Unit)} {g : Nat} {t : TypeId} {cells : List Value}
    (hg : P.globalNamed name = some g) (hty : (P.globals[g]?).map (·.type) = some t) (hc : ∀ {fuel : Nat} {cs : List Value} {p : List MemPlace} {enc : TypeId × Value → Unit} {base : Nat} {sp : Nat → Bool} {held : Bool}, DataW.trod enc P W base sp held fuel t cs = some (d, p) → cs = cells)
    (h : laidMet P ((name, d) :: rest) W) : W.var? P name = some cells.toArray := by
  obtain ⟨ps, ⟨g', t', cs, fuel, p, q, hg', ht', hvar, hd, _, _⟩, _⟩ := h
  obtain rfl := Option.some.inj (hg.symm.trans hg')
  obtain rfl := Option.some.inj (hty.symm.trans ht')
  rw [hvar, ← hc hd]
end Go.Proofs.YtojiicbdbajljaaDoor
