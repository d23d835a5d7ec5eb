/- What the rows' lists of package-level variables give: the tables hold what their text says. -/
import Derived.Test.YtojiicbdbajljaaDoorLaidP
namespace Go.Proofs.YtojiicbdbajljaaDoor
open Go.RowKit Go.Proofs.YtojiicbdbajljaaDoorW.PrintWords

theorem gPowType : (Tryd.prog.globals[4]?).map (·.type) = some 196 := by kernel_rfl


theorem pow_of {W : World} {rest : List (String × DataW Unit)} (h : laidMet Tryd.prog (("internal/strconv.uint64pow10", Rows.laid_internal_strconv_uint64pow10) :: rest) W) : Lib.TabIs Tryd.prog W "internal/strconv.uint64pow10" .u64 Lib.pow10Tab :=
  Lib.tabIs_of_head (zs := Lib.pow10Tab) gPow gPowType Tryd.underlying196 Tryd.underlying93 (by kernel_rfl) (by kernel_rfl) h
end Go.Proofs.YtojiicbdbajljaaDoor
