/- For every two schemas and every name, the call of the statement SchemaAsks returns true, and its arguments read afterwards as they read before.
   Conditions: what the card itself lists (the package-level tables that are read hold what the program's own initialisers lay). -/
import Derived.Test.YtojiicbdbajljaaDoorCards
import Derived.Test.YtojiicbdbajljaaDoorTie
import Derived.Test.YtojiicbdbajljaaDoorPureSchemaAsks
import Derived.Test.YtojiicbdbajljaaDoorQOpens
import Derived.Test.YtojiicbdbajljaaDoorGlLaid
import Derived.WalkKit
import Derived.ProofKit
import Derived.OpenShut
import Derived.Deep.DeepHandedRow
import Derived.LaidMore
import Derived.ChangeOld
import Derived.Below
namespace Go.Proofs.YtojiicbdbajljaaDoor.schemaAsks
open Go.ChangeShapes Go.WideShapes Go.ChangeAt Go.RowKit Go.Proofs.YtojiicbdbajljaaDoorW.PrintWords
open Go.ChangeMaps (open_string shut_string)
set_option linter.unusedVariables false

theorem own : ownKnob Tryd.prog.godebug = none := by kernel_rfl
theorem laidOut : laidOutB Tryd.prog = true := by kernel_rfl
theorem gl {W : World} (h : laidMetH Tryd.prog Rows.schemaAsksRow.laid W) : Gl W :=
  have hL : laidMet Tryd.prog Rows.schemaAsksRow.laid W := h
  { pow := pow_of hL.tail.tail
    forms := forms_of hL.tail.tail.tail
    types := types_of hL.tail.tail.tail.tail }
theorem walk (a0 a1 a2 : ByteArray) (k0 s0 k1 s1 : Int) (A0 A1 : Option Addr) (c0 c1 : Nat) (l0 l1 : List Q.Col) (W : World) (hG : Gl W)
    (hr0 : Kd.C Q.k82 W A0 l0.length l0) (hc0 : l0.length ≤ c0) (hr1 : Kd.C Q.k82 W A1 l1.length l1) (hc1 : l1.length ≤ c1)
    (g0 : a0.size ≤ 140737488351232) (g1 : ∀ c ∈ l0, c.f0.size ≤ 140737488351232) (g2 : ∀ c ∈ l1, c.f0.size ≤ 140737488351232) :
    Calls Tryd.prog 3 #[.agg #[.string a0, .int .i64 k0, .int .i64 s0, .slice A0 l0.length c0], .agg #[.string a1, .int .i64 k1, .int .i64 s1, .slice A1 l1.length c1], .string a2] W fun e w' => e = .returned (.bool true) ∧ Below W.heap.size W w' := by
  obtain ⟨k, hk⟩ := Q.SchemaAsks a0 k0 s0 l0 a1 k1 s1 l1 a2 g0 g1 g2
  exact Q.hachurelaw22_SchemaAsks.calls k a0 k0 s0 A0 c0 l0 a1 k1 s1 A1 c1 l1 a2 true W hG hr0 hc0 hr1 hc1 hk

set_option maxRecDepth 100000 in
theorem contract (H : Type) (enc : TypeId × Value → H) (W : World) (base : Nat) (args : Array Value) (ds gs : List (DataW H)) (before : List MemPlace)
    (hval : ∀ (j : Nat) t v, Tryd.f3.params[j]? = some t → args[j]? = some v → Value.okWide Tryd.prog W .any base t v)
    (hW : DataW.Whole enc Tryd.prog Tryd.f3.params.toList Rows.schemaAsksSpec.vars false W args.toList ds gs before)
    (hsz : (DataW.weightsEach Tryd.prog (Tryd.f3.params.toList ++ Rows.schemaAsksSpec.plain.varTypes Tryd.prog) (ds ++ gs)).all (· ≤ reachBytes) = true) (hG : Gl W) :
    Calls Tryd.prog 3 args W fun e W' => ∃ v, e = .returned v ∧ Rows.schemaAsksSpec.post enc Tryd.prog Tryd.f3 false true false false W args v W' := by
  have hW' := hW
  obtain ⟨p, q, hA0, hV, rfl, hfz, hnd⟩ := hW
  have hA : DataW.TrodAll enc Tryd.prog W 0 (fun _ => true) true Tryd.f3.params.toList args.toList ds p := hA0
  rw [Tryd.params3] at hA hval hsz
  obtain ⟨v0, vs0, d0, ds0, p0, q0, hargs, rfl, rfl, h0, r0⟩ := trodAll_cons hA
  obtain ⟨v1, vs1, d1, ds1, p1, q1, rfl, rfl, rfl, h1, r1⟩ := trodAll_cons r0
  obtain ⟨v2, vs2, d2, ds2, p2, q2, rfl, rfl, rfl, h2, r2⟩ := trodAll_cons r1
  obtain ⟨rfl, rfl, rfl⟩ := trodAll_nil r2
  obtain rfl : args = #[v0, v1, v2] := by cases args; simp_all
  obtain ⟨rfl, rfl⟩ := trodVars_none hV
  have near : ∀ (j : Nat) (t : TypeId) (d : DataW H), ([24, 24, 9] : List TypeId)[j]? = some t → [d0, d1, d2][j]? = some d → Near Tryd.prog t d := by
    intro j t d ht hd n hn
    have h := List.all_eq_true.1 hsz n (DataW.weights_mem_each (j := j) (by
      have hlt := (List.getElem?_eq_some_iff.1 ht).1
      rw [show (#[24, 24, 9] : Array TypeId).toList = [24, 24, 9] from rfl, List.getElem?_append_left hlt]
      exact ht) (by
      have hlt := (List.getElem?_eq_some_iff.1 hd).1
      rw [List.getElem?_append_left hlt]
      exact hd) n hn)
    have := of_decide_eq_true h
    unfold reachBytes at this
    omega
  have lt0 : ∀ x ∈ p0, x.block < W.heap.size := by obtain ⟨m, hm⟩ := h0; exact DataW.trod_lt m _ _ _ hm
  have lt1 : ∀ x ∈ p1, x.block < W.heap.size := by obtain ⟨m, hm⟩ := h1; exact DataW.trod_lt m _ _ _ hm
  have k0 := h0
  have k1 := h1
  obtain ⟨a2, rfl, rfl, rfl, y2⟩ := open_string Tryd.underlying9 (hval 2 9 v2 rfl rfl) h2
  obtain ⟨cs0, rfl, _⟩ := okWide_struct Tryd.underlying24 (hval 0 24 v0 rfl rfl)
  obtain ⟨cs1, rfl, _⟩ := okWide_struct Tryd.underlying24 (hval 1 24 v1 rfl rfl)
  obtain ⟨f0, hf0⟩ := h0
  obtain ⟨f1, hf1⟩ := h1
  obtain ⟨x0, hK0, hg0⟩ := Q.opens_24.op hf0 (near 0 _ _ rfl rfl)
  obtain ⟨x1, hK1, hg1⟩ := Q.opens_24.op hf1 (near 1 _ _ rfl rfl)
  obtain ⟨A0, c0, e0, m0, kr0⟩ := Q.k24_open hK0
  obtain ⟨A1, c1, e1, m1, kr1⟩ := Q.k24_open hK1
  obtain ⟨cs0⟩ := cs0
  obtain ⟨cs1⟩ := cs1
  obtain rfl : cs0 = [.string x0.f0, .int .i64 x0.f1, .int .i64 x0.f2, .slice A0 x0.f3.length c0] := e0
  obtain rfl : cs1 = [.string x1.f0, .int .i64 x1.f1, .int .i64 x1.f2, .slice A1 x1.f3.length c1] := e1
  clear hA0 hsz near
  refine (walk x0.f0 x1.f0 a2 x0.f1 x0.f2 x1.f1 x1.f2 A0 A1 c0 c1 x0.f3 x1.f3 W hG kr0 m0 kr1 m1 hg0.1 (fun c hc => (hg0.2.2.2.1 c hc).1) (fun c hc => (hg1.2.2.2.1 c hc).1)).mono fun e W' ⟨he, bel⟩ => ?_
  subst he
  exact ⟨_, rfl, _, _, _, [], _, [], hW', trodAll_mk1 (shut_bool Tryd.underlying4 _), trodAll_cons_mk (Below.trod laidOut (by kernel_rfl) (of_decide_eq_true (by kernel_rfl)) k0 bel lt0) (trodAll_cons_mk (Below.trod laidOut (by kernel_rfl) (of_decide_eq_true (by kernel_rfl)) k1 bel lt1) (trodAll_cons_mk (shut_string Tryd.underlying9 y2) trodAll_mk0)), rfl, bel.frame _, fun h => by cases h⟩

theorem door_met (os : Os) (args : Array Value) : laidMetH Tryd.prog Rows.schemaAsksRow.laid ((World.doorLaid Tryd.prog 80 os).forCall (fun _ _ => 0) ⟨#[], args, []⟩).memory :=
  laidMetH_of_parts3 (fuel := 8) (laidMet_of_run' 8 (by kernel_rfl) (by kernel_rfl)) (by kernel_rfl) (by kernel_rfl)
def witnessArgs : Array Value := #[.agg #[.string ByteArray.empty, .int .i64 0, .int .i64 0, .slice none 0 0], .agg #[.string ByteArray.empty, .int .i64 0, .int .i64 0, .slice none 0 0], .string ByteArray.empty]

set_option maxRecDepth 100000 in
theorem lifted (os : Os) (started : os.Started) (H : Type) (enc : TypeId × Value → H) :
    ReturnsInHanded {} Tryd.checked os 3 .any (fun w args => (Rows.schemaAsksSpec.pre enc Tryd.prog Tryd.f3 [] false w args ∧ laidMetH Tryd.prog Rows.schemaAsksRow.laid w) ∧ sizedMet enc Tryd.prog Tryd.f3 (OpenSpec.ofChange Rows.schemaAsksSpec) false w args)
      (Rows.schemaAsksSpec.post enc Tryd.prog Tryd.f3 false true false false) := by
  refine returnsInHanded_of_change_and (C := Tryd.checked) (X := fun w _ => laidMetH Tryd.prog Rows.schemaAsksRow.laid w) (fun _ _ _ hh h => h.of_heap hh) own started (by kernel_rfl) Tryd.func3
    (ChangeSpec.witness_shaped (enc := enc) (C := Tryd.checked) (os := os) (X := fun w _ => laidMetH Tryd.prog Rows.schemaAsksRow.laid w) false (World.doorLaid Tryd.prog 80 os) witnessArgs 8 rfl (World.shaped_of_RefB (by kernel_rfl) (by kernel_rfl)) (by kernel_rfl) (by kernel_rfl) (by kernel_rfl) (door_met os _)) ?_
  intro W base args ds gs before hval hW _ hsz hL _
  exact contract H enc W base args ds gs before hval hW hsz (gl hL)

theorem said : Rows.SchemaAsksSaid :=
  OpenClaim.holds_of_wide 3 Tryd.f3 rfl rfl rfl rfl rfl rfl rfl ⟨rfl, rfl, rfl, rfl, rfl⟩ rfl rfl rfl rfl rfl (by kernel_rfl) Tryd.func3 (by kernel_rfl)
    (of_decide_eq_true (by kernel_rfl)) (by unfold Func.isWrapper; first | (rw [if_pos (by decide +kernel)]; kernel_rfl) | (rw [if_neg (by decide +kernel)]; exact ⟨rfl, rfl⟩))
    (fun os started H enc _ => lifted os started H enc)

theorem plain (f : FuncId) (fn : Func) (hf : Tryd.pinned.checked.prog.funcNamed "hachure/hachurelaw22.SchemaAsks" = some f) (hfn : Tryd.pinned.checked.prog.funcs[f]? = some fn) :
    true = Tryd.pinned.checked.prog.looks [] ∧ ∀ (j : Nat) t, fn.params[j]? = some t → Tryd.pinned.checked.prog.wantsStandIn t = false := by
  obtain rfl : f = 3 := Option.some.inj ((show Tryd.prog.funcNamed "hachure/hachurelaw22.SchemaAsks" = some 3 by kernel_rfl).symm.trans hf) |>.symm
  obtain rfl : fn = Tryd.f3 := (Option.some.inj (Tryd.func3.symm.trans hfn)).symm
  refine ⟨by kernel_rfl, fun j t ht => ?_⟩
  rw [Tryd.params3] at ht
  have hm := Array.mem_of_getElem? ht
  simp only [List.mem_toArray, List.mem_cons, List.not_mem_nil, or_false] at hm
  rcases hm with rfl | rfl | rfl
  · exact (show Tryd.prog.wantsStandIn 24 = false by kernel_rfl)
  · exact (show Tryd.prog.wantsStandIn 24 = false by kernel_rfl)
  · exact (show Tryd.prog.wantsStandIn 9 = false by kernel_rfl)

theorem card : Rows.SchemaAsksCardSaid :=
  Claim7.holds_tied_plain_at .later [] _ _ _ _ said (fun _ h => by cases h) (by kernel_rfl) (fun _ h => by cases h) schemaAsks_row_tie rfl ⟨rfl, rfl⟩ (by kernel_rfl) rfl plain (by kernel_rfl)
#print axioms card
end Go.Proofs.YtojiicbdbajljaaDoor.schemaAsks
namespace Go.Proofs.YtojiicbdbajljaaDoor
theorem schemaAsks_holds : Rows.SchemaAsksCardSaid := schemaAsks.card
end Go.Proofs.YtojiicbdbajljaaDoor
