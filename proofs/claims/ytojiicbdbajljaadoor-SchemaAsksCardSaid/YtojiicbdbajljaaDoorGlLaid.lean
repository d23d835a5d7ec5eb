/- What the rows' lists of package-level variables give: the tables hold what their text says. -/
import Derived.Test.YtojiicbdbajljaaDoorLaid
namespace Go.Proofs.YtojiicbdbajljaaDoor
open Go.RowKit Go.Proofs.YtojiicbdbajljaaDoorW.PrintWords

theorem gPowType : (Tryd.prog.globals[4]?).map (·.type) = some 196 := by kernel_rfl
theorem gFormsType : (Tryd.prog.globals[1]?).map (·.type) = some 146 := by kernel_rfl
theorem gTypesType : (Tryd.prog.globals[0]?).map (·.type) = some 85 := by kernel_rfl

set_option maxRecDepth 100000 in
theorem form_cells {w : World} {base : Nat} {sp : Nat → Bool} {held : Bool} {enc : TypeId × Value → Unit} {m : Nat} {c : List Value} {y : DataW Unit × List MemPlace} (h : DataW.trod enc Tryd.prog w base sp held m 145 c = some y) : c = rowCells y.1 := by
  obtain ⟨xs, n, rfl, rfl, hlen, hxl, hf⟩ := DataW.trod_struct Tryd.underlying145 h
  rw [show Tryd.prog.cellsOf 145 = 2 by kernel_rfl] at hlen
  match c, hlen, xs, hxl, hf with
  | [c0, c1], _, [x0, x1], _, hf =>
    have h0 : DataW.trod enc Tryd.prog w base sp held n 9 (([c0, c1].drop 0).take (Tryd.prog.cellsOf 9)) = [x0, x1][0]? := hf 0 _ rfl
    have h1 : DataW.trod enc Tryd.prog w base sp held n 3 (([c0, c1].drop 1).take (Tryd.prog.cellsOf 3)) = [x0, x1][1]? := hf 1 _ rfl
    rw [show Tryd.prog.cellsOf 9 = 1 by kernel_rfl] at h0
    rw [show Tryd.prog.cellsOf 3 = 1 by kernel_rfl] at h1
    obtain ⟨s, e0, rfl, _⟩ := DataW.trod_string Tryd.underlying9 (show DataW.trod enc Tryd.prog w base sp held n 9 [c0] = some x0 from h0)
    obtain ⟨k, e1, rfl, _⟩ := DataW.trod_int Tryd.underlying3 (show DataW.trod enc Tryd.prog w base sp held n 3 [c1] = some x1 from h1)
    injection e0 with e0
    injection e1 with e1
    subst e0 e1
    rfl

def formData : List (DataW Unit) := (formNames.zip formParts).map fun x => .agg [.lit (.string x.1.data.toList), .lit (.int .i64 x.2)]
def typeData : List (DataW Unit) := typeNames.map fun x => .lit (.string x.data.toList)
theorem pow_of {W : World} {rest : List (String × DataW Unit)} (h : laidMet Tryd.prog (("internal/strconv.uint64pow10", Rows.laid_internal_strconv_uint64pow10) :: rest) W) : Lib.TabIs Tryd.prog W "internal/strconv.uint64pow10" .u64 Lib.pow10Tab :=
  Lib.tabIs_of_head (zs := Lib.pow10Tab) gPow gPowType Tryd.underlying196 Tryd.underlying93 (by kernel_rfl) (by kernel_rfl) h
theorem forms_of {W : World} {rest : List (String × DataW Unit)} (h : laidMet Tryd.prog (("hachure/shape.forms", Rows.laid_hachure_shape_forms) :: rest) W) : W.var? Tryd.prog "hachure/shape.forms" = some formCells :=
  laid_head (cells := formCells.toList) gForms gFormsType (fun hd => (array_cells (ds := formData) Tryd.underlying146 (by kernel_rfl) form_cells hd).trans (by rfl)) h
theorem types_of {W : World} {rest : List (String × DataW Unit)} (h : laidMet Tryd.prog (("hachure/schema.types", Rows.laid_hachure_schema_types) :: rest) W) : W.var? Tryd.prog "hachure/schema.types" = some typeCells :=
  laid_head (cells := typeCells.toList) gTypes gTypesType (fun hd => (array_cells (ds := typeData) Tryd.underlying85 (by kernel_rfl) (string_cells Tryd.underlying9) hd).trans (by rfl)) h
end Go.Proofs.YtojiicbdbajljaaDoor
