/- Small laws on arrays by value and on the package-level tables that these statements read; no condition. -/
import Derived.Test.YtojiicbdbajljaaDoorProg
import Derived.Below
import Derived.WalkKit
import Derived.KernelRfl
import Derived.Laws.Slices
import Derived.Test.YtojiicbdbajljaaDoorWWords
import Derived.WalkSmall
import Derived.Lib.LaidTab
import Derived.Lib.AppendIntMem
import Derived.Shelf.Strconv.Itoa3
namespace Go.Proofs.YtojiicbdbajljaaDoor
open Go.RowKit Go.Proofs.YtojiicbdbajljaaDoorW.PrintWords

theorem index_arr_str {P : Program} {t e : TypeId} {n : Nat} (h : P.underlying t = some (.array n e)) (ha : ∀ W, (isAgg e).run P W = .ok false W) (hs : ∀ W, (sizeOf e).run P W = .ok 1 W)
    (l : List ByteArray) (hl : l.length = n) (i : Int) (h0 : 0 ≤ i) (h1 : i < n) (W : World) :
    (Instr.index t (.agg (l.map Value.string).toArray) (.int .i64 i)).run P W = .ok (.string (rdOf ByteArray.empty l i)) W := by
  have hc : 0 ≤ i ∧ i < (n : Int) := ⟨h0, h1⟩
  have hi : i.toNat < l.length := by omega
  simp [Instr.index, run_underlying h, asIntOf, hc, go_sem, hs, part, ha, List.getElem?_map, List.getElem?_eq_getElem hi, rdOf, List.getD_eq_getElem?_getD]
theorem index_arr_int {P : Program} {t e : TypeId} {n : Nat} {k : IntKind} (h : P.underlying t = some (.array n e)) (ha : ∀ W, (isAgg e).run P W = .ok false W) (hs : ∀ W, (sizeOf e).run P W = .ok 1 W)
    (l : List Int) (hl : l.length = n) (i : Int) (h0 : 0 ≤ i) (h1 : i < n) (W : World) :
    (Instr.index t (.agg (l.map (Value.int k)).toArray) (.int .i64 i)).run P W = .ok (.int k (rd l i)) W := by
  have hc : 0 ≤ i ∧ i < (n : Int) := ⟨h0, h1⟩
  have hi : i.toNat < l.length := by omega
  simp [Instr.index, run_underlying h, asIntOf, hc, go_sem, hs, part, ha, List.getElem?_map, List.getElem?_eq_getElem hi, rd, List.getD_eq_getElem?_getD]

theorem var?_lt {P : Program} {w : World} {n : String} {g : Nat} {cs : Array Value} (hg : P.globalNamed n = some g) (h : w.var? P n = some cs) : g < w.heap.size := by
  simp only [World.var?, hg, Option.bind_some] at h
  split at h
  · exact (Array.getElem?_eq_some_iff.1 (by assumption)).1
  · cases h

/-- What a text's bytes are. -/
def bs (l : List UInt8) : ByteArray := ⟨l.toArray⟩
def formNames : List ByteArray := [⟨#[]⟩, ⟨#[80, 79, 73, 78, 84]⟩, ⟨#[76, 73, 78, 69, 83, 84, 82, 73, 78, 71]⟩, ⟨#[80, 79, 76, 89, 71, 79, 78]⟩, ⟨#[77, 85, 76, 84, 73, 80, 79, 73, 78, 84]⟩, ⟨#[77, 85, 76, 84, 73, 76, 73, 78, 69, 83, 84, 82, 73, 78, 71]⟩, ⟨#[77, 85, 76, 84, 73, 80, 79, 76, 89, 71, 79, 78]⟩, ⟨#[71, 69, 79, 77, 69, 84, 82, 89, 67, 79, 76, 76, 69, 67, 84, 73, 79, 78]⟩]
def formParts : List Int := [-1, -1, -1, 0, 1, 2, 3, -2]

def typeNames : List ByteArray := [⟨#[]⟩, ⟨#[105, 110, 116]⟩, ⟨#[116, 101, 120, 116]⟩, ⟨#[102, 108, 97, 103]⟩]
def typeCells : Array Value := (typeNames.map Value.string).toArray

/-- The package-level tables that are read hold what their text says. -/
structure Gl (w : World) : Prop where
  pow : Lib.TabIs Tryd.prog w "internal/strconv.uint64pow10" .u64 Lib.pow10Tab

theorem gPow : Tryd.prog.globalNamed "internal/strconv.uint64pow10" = some 4 := by kernel_rfl

theorem Gl.below {w w' : World} (h : Gl w) (hb : Below w.heap.size w w') : Gl w' :=
  { pow := var?_below hb gPow (var?_lt gPow h.pow) h.pow
  }
theorem Gl.drew {w : World} (h : Gl w) : Gl w.drew := h.below (Below.refl _ _).drew
theorem Gl.drewN {w : World} (h : Gl w) (n : Nat) : Gl (w.drewN n) := h.below (pw_below_drewN (Below.refl _ _) n)
theorem Gl.drawn {w w' : World} (h : Gl w) (hd : Drawn0 w w') : Gl w' := h.below hd.below
theorem below_grows (w : World) (k : Nat) (os : Array Obj) : Below w.heap.size w (Go.Sort.grow (w.drewN k) os) := Lib.below_grow _ _ (Nat.le_refl _) _ _

/-- A row of the call's own begins at its block's begin. -/
theorem R_spot {α : Type} {d : Kd α} {e : Nat} {w : World} {base : Nat} {ok : Nat → Prop} {A : Option Addr} {n c : Nat} {xs : List α} (h : Kd.R d e w base ok (.slice A n c) xs) : ∀ ad, A = some ad → ad.spot = none := by
  obtain ⟨inner, ho⟩ := Kd.R_own h
  intro ad e
  rcases ho.2 with ⟨h1, _⟩ | ⟨g, cap, cur, h1, _⟩
  · injection h1 with h1; rw [h1] at e; cases e
  · injection h1 with h1; rw [h1] at e; injection e with e; rw [← e]
/-! A string appended to a row of bytes, in a region that draws its order. -/
section
variable {P : Program} {ops : Array Oper} {o : Oper} {a : Act} {Q : Exit → Act → World → Prop} {Kc : Act → World → Prop}
theorem print_append_str_step {w0 W : World} (base : Nat) (hw : Region.wanted o (yielded ops a.tmps) = true) (s x : Operand) (t u e : TypeId)
    (ho : o.op = .call { callee := .builtin .append, args := #[s, x], argTypes := #[t, u] })
    (ht : P.underlying t = some (.slice e)) (hu : P.underlying u = some .string) (hinfo : (P.info? e).map (fun i => (i.zero, i.size, i.bytes)) = some (some (.int .u8 0), 1, 1))
    (v : Value) (xs : List Int) (y : ByteArray) (hs : a.eval s = v) (hx : a.eval x = .string y)
    (HO : W.ownsRow base e 1 v xs.length (nums .u8 xs)) (HB : Below base w0 W) (hbase : base ≤ W.heap.size) (hl : xs.length + y.size ≤ 140737488355328)
    (h : ∀ v1 w1, w1.ownsRow base e 1 v1 (xs ++ bytesOf y).length (nums .u8 (xs ++ bytesOf y)) → Below base w0 w1 → W.grownBy w1 v.ownBlock → Kc (a.put o.dst v1) w1) :
    if Region.wanted o (yielded ops a.tmps) = true then Oper.wp P o a W Kc Q else Kc (a.put o.dst undef) W := by
  rw [if_pos hw]
  obtain ⟨i0, hi, hzz⟩ := Option.map_eq_some_iff.1 hinfo
  simp only [Prod.mk.injEq] at hzz
  obtain ⟨hz0, hz1, hz2⟩ := hzz
  obtain ⟨v', w', hr, h2, h3, h4⟩ := Lib.run_append_own_string (P := P) W base t u o.type e i0 ht hu hi hz0 hz1 hz2 v xs.length (nums .u8 xs) HO y (by simp only [maxLen]; omega) hl hbase
  have hl2 : (xs ++ bytesOf y).length = xs.length + y.size := by rw [List.length_append, bytesOf_length]
  have hc : nums .u8 (xs ++ bytesOf y) = nums .u8 xs ++ Lib.strCells y := by
    rw [nums_append]
    congr 1
    simp [nums, bytesOf, Lib.strCells]
  unfold Oper.wp execOp
  simp only [ho, resolve, invoke, builtin, Sem.run_bind, Sem.run_pure, Result.andThen_ok, List.map_toArray, List.map_cons, List.map_nil, hs, hx, hr]
  exact h v' w' (by rw [hl2, hc]; exact h2) (HB.grown h3 hbase (own_base HO)) h3
end
end Go.Proofs.YtojiicbdbajljaaDoor
