/- For every two features, the call of the statement ValueForms returns true, and its arguments read afterwards as they read before.
   Conditions: what the card itself lists (the package-level tables that are read hold what the program's own initialisers lay). -/
import Derived.Test.YtojiicbdbajljaaDoorCards
import Derived.Test.YtojiicbdbajljaaDoorTie
import Derived.Test.YtojiicbdbajljaaDoorPureValueForms
import Derived.Test.YtojiicbdbajljaaDoorVOpens
import Derived.Test.YtojiicbdbajljaaDoorGlLaidP
import Derived.WalkKit
import Derived.ProofKit
import Derived.OpenShut
import Derived.Deep.DeepHandedRow
import Derived.LaidMore
import Derived.ChangeOld
import Derived.Below
namespace Go.Proofs.YtojiicbdbajljaaDoor.valueForms
open Go.ChangeShapes Go.WideShapes Go.ChangeAt Go.RowKit Go.Proofs.YtojiicbdbajljaaDoorW.PrintWords
open Go.ChangeMaps (open_string shut_string)
set_option linter.unusedVariables false

theorem own : ownKnob Tryd.prog.godebug = none := by kernel_rfl
theorem laidOut : laidOutB Tryd.prog = true := by kernel_rfl
theorem gl {W : World} (h : laidMetH Tryd.prog Rows.valueFormsRow.laid W) : Gl W :=
  have hL : laidMet Tryd.prog Rows.valueFormsRow.laid W := h
  { pow := pow_of hL.tail.tail }
abbrev KF : Kd (Int × (List Int × List V.Val)) := Kd.pair (Kd.int .i64) (Kd.pair (Kd.slice 5 (Kd.int .u8)) (Kd.slice 73 V.k73))
theorem KF_open {w : World} {x : Int × (List Int × List V.Val)} {cs : List Value} (h : KF.K w x cs) : ∃ A1 c1 A2 c2, cs = [.int .i64 x.1, .slice A1 x.2.1.length c1, .slice A2 x.2.2.length c2] ∧ x.2.1.length ≤ c1 ∧ Kd.C (Kd.int .u8) w A1 x.2.1.length x.2.1 ∧ x.2.2.length ≤ c2 ∧ Kd.C V.k73 w A2 x.2.2.length x.2.2 := by
  obtain ⟨_, _, rfl, rfl, ⟨_, _, rfl, ⟨A1, c1, rfl, l1, g1⟩, ⟨A2, c2, rfl, l2, g2⟩⟩⟩ := h
  exact ⟨A1, c1, A2, c2, rfl, l1, g1, l2, g2⟩
theorem walk (k0 k1 : Int) (A0 B0 A1 B1 : Option Addr) (c0 d0 c1 d1 : Nat) (b0 b1 : List Int) (l0 l1 : List V.Val) (W : World) (hG : Gl W)
    (hb0 : Kd.C (Kd.int .u8) W A0 b0.length b0) (hc0 : b0.length ≤ c0) (hr0 : Kd.C V.k73 W B0 l0.length l0) (hd0 : l0.length ≤ d0)
    (hb1 : Kd.C (Kd.int .u8) W A1 b1.length b1) (hc1 : b1.length ≤ c1) (hr1 : Kd.C V.k73 W B1 l1.length l1) (hd1 : l1.length ≤ d1) :
    Calls Tryd.prog 4 #[.agg #[.int .i64 k0, .slice A0 b0.length c0, .slice B0 l0.length d0], .agg #[.int .i64 k1, .slice A1 b1.length c1, .slice B1 l1.length d1]] W fun e w' => e = .returned (.bool true) ∧ Below W.heap.size W w' := by
  obtain ⟨k, hk⟩ := V.law_ev k0 b0 l0 k1 b1 l1
  exact V.hachurelaw21_ValueForms.calls k k0 A0 c0 b0 B0 d0 l0 k1 A1 c1 b1 B1 d1 l1 true W hG hb0 hc0 hr0 hd0 hb1 hc1 hr1 hd1 (hk k (Nat.le_refl _))

set_option maxRecDepth 100000 in
theorem contract (H : Type) (enc : TypeId × Value → H) (W : World) (base : Nat) (args : Array Value) (ds gs : List (DataW H)) (before : List MemPlace)
    (hval : ∀ (j : Nat) t v, Tryd.f4.params[j]? = some t → args[j]? = some v → Value.okWide Tryd.prog W .any base t v)
    (hW : DataW.Whole enc Tryd.prog Tryd.f4.params.toList Rows.valueFormsSpec.vars false W args.toList ds gs before)
    (hsz : (DataW.weightsEach Tryd.prog (Tryd.f4.params.toList ++ Rows.valueFormsSpec.plain.varTypes Tryd.prog) (ds ++ gs)).all (· ≤ reachBytes) = true) (hG : Gl W) :
    Calls Tryd.prog 4 args W fun e W' => ∃ v, e = .returned v ∧ Rows.valueFormsSpec.post enc Tryd.prog Tryd.f4 false true false false W args v W' := by
  have hW' := hW
  obtain ⟨p, q, hA0, hV, rfl, hfz, hnd⟩ := hW
  have hA : DataW.TrodAll enc Tryd.prog W 0 (fun _ => true) true Tryd.f4.params.toList args.toList ds p := hA0
  rw [Tryd.params4] at hA hval hsz
  obtain ⟨v0, vs0, d0, ds0, p0, q0, hargs, rfl, rfl, h0, r0⟩ := trodAll_cons hA
  obtain ⟨v1, vs1, d1, ds1, p1, q1, rfl, rfl, rfl, h1, r1⟩ := trodAll_cons r0
  obtain ⟨rfl, rfl, rfl⟩ := trodAll_nil r1
  obtain rfl : args = #[v0, v1] := by cases args; simp_all
  obtain ⟨rfl, rfl⟩ := trodVars_none hV
  have near : ∀ (j : Nat) (t : TypeId) (d : DataW H), ([46, 46] : List TypeId)[j]? = some t → [d0, d1][j]? = some d → Near Tryd.prog t d := by
    intro j t d ht hd n hn
    have h := List.all_eq_true.1 hsz n (DataW.weights_mem_each (j := j) (by
      have hlt := (List.getElem?_eq_some_iff.1 ht).1
      rw [show (#[46, 46] : Array TypeId).toList = [46, 46] from rfl, List.getElem?_append_left hlt]
      exact ht) (by
      have hlt := (List.getElem?_eq_some_iff.1 hd).1
      rw [List.getElem?_append_left hlt]
      exact hd) n hn)
    have := of_decide_eq_true h
    unfold reachBytes at this
    omega
  have lt0 : ∀ x ∈ p0, x.block < W.heap.size := by obtain ⟨m, hm⟩ := h0; exact DataW.trod_lt m _ _ _ hm
  have lt1 : ∀ x ∈ p1, x.block < W.heap.size := by obtain ⟨m, hm⟩ := h1; exact DataW.trod_lt m _ _ _ hm
  have k0 := h0
  have k1 := h1
  obtain ⟨cs0, rfl, _⟩ := okWide_struct Tryd.underlying46 (hval 0 46 v0 rfl rfl)
  obtain ⟨cs1, rfl, _⟩ := okWide_struct Tryd.underlying46 (hval 1 46 v1 rfl rfl)
  obtain ⟨f0, hf0⟩ := h0
  obtain ⟨f1, hf1⟩ := h1
  obtain ⟨x0, hK0, hg0⟩ := V.opens_46.op hf0 (near 0 _ _ rfl rfl)
  obtain ⟨x1, hK1, hg1⟩ := V.opens_46.op hf1 (near 1 _ _ rfl rfl)
  obtain ⟨A0, c0, B0, e0, q0, m0, u0, n0, kr0⟩ := KF_open hK0
  obtain ⟨A1, c1, B1, e1, q1, m1, u1, n1, kr1⟩ := KF_open hK1
  obtain ⟨cs0⟩ := cs0
  obtain ⟨cs1⟩ := cs1
  obtain rfl : cs0 = [.int .i64 x0.1, .slice A0 x0.2.1.length c0, .slice B0 x0.2.2.length e0] := q0
  obtain rfl : cs1 = [.int .i64 x1.1, .slice A1 x1.2.1.length c1, .slice B1 x1.2.2.length e1] := q1
  clear hA0 hsz near
  refine (walk x0.1 x1.1 A0 B0 A1 B1 c0 e0 c1 e1 x0.2.1 x1.2.1 x0.2.2 x1.2.2 W hG u0 m0 kr0 n0 u1 m1 kr1 n1).mono fun e W' ⟨he, bel⟩ => ?_
  subst he
  exact ⟨_, rfl, _, _, _, [], _, [], hW', trodAll_mk1 (shut_bool Tryd.underlying4 _), trodAll_cons_mk (Below.trod laidOut (by kernel_rfl) (of_decide_eq_true (by kernel_rfl)) k0 bel lt0) (trodAll_cons_mk (Below.trod laidOut (by kernel_rfl) (of_decide_eq_true (by kernel_rfl)) k1 bel lt1) trodAll_mk0), rfl, bel.frame _, fun h => by cases h⟩

theorem door_met (os : Os) (args : Array Value) : laidMetH Tryd.prog Rows.valueFormsRow.laid ((World.doorLaid Tryd.prog 80 os).forCall (fun _ _ => 0) ⟨#[], args, []⟩).memory :=
  laidMetH_of_parts3 (fuel := 8) (laidMet_of_run' 8 (by kernel_rfl) (by kernel_rfl)) (by kernel_rfl) (by kernel_rfl)
def witnessArgs : Array Value := #[.agg #[.int .i64 0, .slice none 0 0, .slice none 0 0], .agg #[.int .i64 0, .slice none 0 0, .slice none 0 0]]

set_option maxRecDepth 100000 in
theorem lifted (os : Os) (started : os.Started) (H : Type) (enc : TypeId × Value → H) :
    ReturnsInHanded {} Tryd.checked os 4 .any (fun w args => (Rows.valueFormsSpec.pre enc Tryd.prog Tryd.f4 [] false w args ∧ laidMetH Tryd.prog Rows.valueFormsRow.laid w) ∧ sizedMet enc Tryd.prog Tryd.f4 (OpenSpec.ofChange Rows.valueFormsSpec) false w args)
      (Rows.valueFormsSpec.post enc Tryd.prog Tryd.f4 false true false false) := by
  refine returnsInHanded_of_change_and (C := Tryd.checked) (X := fun w _ => laidMetH Tryd.prog Rows.valueFormsRow.laid w) (fun _ _ _ hh h => h.of_heap hh) own started (by kernel_rfl) Tryd.func4
    (ChangeSpec.witness_shaped (enc := enc) (C := Tryd.checked) (os := os) (X := fun w _ => laidMetH Tryd.prog Rows.valueFormsRow.laid w) false (World.doorLaid Tryd.prog 80 os) witnessArgs 8 rfl (World.shaped_of_RefB (by kernel_rfl) (by kernel_rfl)) (by kernel_rfl) (by kernel_rfl) (by kernel_rfl) (door_met os _)) ?_
  intro W base args ds gs before hval hW _ hsz hL _
  exact contract H enc W base args ds gs before hval hW hsz (gl hL)

theorem said : Rows.ValueFormsSaid :=
  OpenClaim.holds_of_wide 4 Tryd.f4 rfl rfl rfl rfl rfl rfl rfl ⟨rfl, rfl, rfl, rfl, rfl⟩ rfl rfl rfl rfl rfl (by kernel_rfl) Tryd.func4 (by kernel_rfl)
    (of_decide_eq_true (by kernel_rfl)) (by unfold Func.isWrapper; first | (rw [if_pos (by decide +kernel)]; kernel_rfl) | (rw [if_neg (by decide +kernel)]; exact ⟨rfl, rfl⟩))
    (fun os started H enc _ => lifted os started H enc)

theorem plain (f : FuncId) (fn : Func) (hf : Tryd.pinned.checked.prog.funcNamed "hachure/hachurelaw21.ValueForms" = some f) (hfn : Tryd.pinned.checked.prog.funcs[f]? = some fn) :
    true = Tryd.pinned.checked.prog.looks [] ∧ ∀ (j : Nat) t, fn.params[j]? = some t → Tryd.pinned.checked.prog.wantsStandIn t = false := by
  obtain rfl : f = 4 := Option.some.inj ((show Tryd.prog.funcNamed "hachure/hachurelaw21.ValueForms" = some 4 by kernel_rfl).symm.trans hf) |>.symm
  obtain rfl : fn = Tryd.f4 := (Option.some.inj (Tryd.func4.symm.trans hfn)).symm
  refine ⟨by kernel_rfl, fun j t ht => ?_⟩
  rw [Tryd.params4] at ht
  have hm := Array.mem_of_getElem? ht
  simp only [List.mem_toArray, List.mem_cons, List.not_mem_nil, or_false] at hm
  rcases hm with rfl | rfl
  · exact (show Tryd.prog.wantsStandIn 46 = false by kernel_rfl)
  · exact (show Tryd.prog.wantsStandIn 46 = false by kernel_rfl)

theorem card : Rows.ValueFormsCardSaid :=
  Claim7.holds_tied_plain_at .later [] _ _ _ _ said (fun _ h => by cases h) (by kernel_rfl) (fun _ h => by cases h) valueForms_row_tie rfl ⟨rfl, rfl⟩ (by kernel_rfl) rfl plain (by kernel_rfl)
#print axioms card
end Go.Proofs.YtojiicbdbajljaaDoor.valueForms
namespace Go.Proofs.YtojiicbdbajljaaDoor
theorem valueForms_holds : Rows.ValueFormsCardSaid := valueForms.card
end Go.Proofs.YtojiicbdbajljaaDoor
