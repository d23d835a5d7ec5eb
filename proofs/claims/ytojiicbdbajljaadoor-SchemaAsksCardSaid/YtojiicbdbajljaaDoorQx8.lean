-- Printed by a program of this session (wip/myprint.py, over the kit's printer) out of the translation.
import Derived.Test.YtojiicbdbajljaaDoorQx0
import Derived.Test.YtojiicbdbajljaaDoorQx7
namespace Go.Proofs.YtojiicbdbajljaaDoor.Q
open Go.RowKit Go.Proofs.YtojiicbdbajljaaDoorW.PrintWords Go.Proofs.YtojiicbdbajljaaDoorW.PrintLast Go.Proofs.YtojiicbdbajljaaDoorW.PrintMore
attribute [local go_sem] max2_int min2_int max_two min_two max_three min_three max_four min_four   -- for this text's walks alone
set_option linter.unusedVariables false
set_option linter.unusedSimpArgs false

/-! ### hachurelaw22_lives: function 9 -/
def hachurelaw22_lives.f (k : Nat)  : Option (Bool) := (schema_Text.f k (⟨#[97]⟩ : ByteArray) 1 0 (([(⟨(⟨#[110]⟩ : ByteArray), 1, true⟩ : S82)] : List (S82)))).bind fun t121 => (some (t121.toList == ([97, 32, 80, 79, 73, 78, 84, 32, 48, 32, 110, 58, 105, 110, 116, 33] : List UInt8)))
theorem hachurelaw22_lives.mono : ∀ k, LeO (hachurelaw22_lives.f k ) (hachurelaw22_lives.f (k + 1) ) := by
  intro  k
  unfold hachurelaw22_lives.f
  repeat' first
      | (with_reducible exact schema_Text.mono _ _ _ _ _)
      | (with_reducible exact LeO.refl _)
      | (with_reducible exact LeO.none _)
      | (with_reducible refine LeO.ite ?_ ?_)
      | (with_reducible refine LeO.bind ?_ (fun _ => ?_))
      | exact schema_Text.mono _ _ _ _ _
      | exact LeO.none _
      | refine LeO.ite ?_ ?_
      | refine LeO.bind ?_ (fun _ => ?_)
set_option maxHeartbeats 8000000 in
set_option maxRecDepth 100000 in
theorem hachurelaw22_lives.calls (k : Nat)  (r : Bool) (w : World) (hG : Gl w) (h : hachurelaw22_lives.f k  = some r) :
    Calls Tryd.prog 9 #[] w fun e w' => e = .returned (.bool r) ∧ Below w.heap.size w w' := by
  have hu82 := Tryd.underlying82
  have hu24 := Tryd.underlying24
  have HG := Aside0.mk hG
  clear hG
  have HB := Aside0.mk (Below.refl w.heap.size w)
  have H : ((schema_Text.f k (⟨#[97]⟩ : ByteArray) 1 0 (([(⟨(⟨#[110]⟩ : ByteArray), 1, true⟩ : S82)] : List (S82)))).bind fun t121 => (some (t121.toList == ([97, 32, 80, 79, 73, 78, 84, 32, 48, 32, 110, 58, 105, 110, 116, 33] : List UInt8)))) = some r := h
  clear h
  obtain ⟨y118, hy118⟩ : ∃ y_ : List (S82), y_ = (([(⟨(⟨#[110]⟩ : ByteArray), 1, true⟩ : S82)] : List (S82))) := ⟨_, rfl⟩
  replace H : ((schema_Text.f k (⟨#[97]⟩ : ByteArray) 1 0 y118).bind fun t121 => (some (t121.toList == ([97, 32, 80, 79, 73, 78, 84, 32, 48, 32, 110, 58, 105, 110, 116, 33] : List UInt8)))) = some r := by first | (rw [hy118]; with_reducible exact H) | (have H2_ := (Option.bind_some _ _).symm.trans H; rw [hy118]; with_reducible exact H2_) | (have H2_ := (Option.bind_some _ _).symm.trans H; with_reducible exact H2_) | with_reducible exact H | (rw [hy118]; exact H) | exact H
  have Ny118 := Aside0.mk hy118
  clear hy118
  replace H := Option.bind_eq_some_iff.mp H
  obtain ⟨t121, A10, H⟩ := H
  replace H : (some (t121.toList == ([97, 32, 80, 79, 73, 78, 84, 32, 48, 32, 110, 58, 105, 110, 116, 33] : List UInt8))) = some r := H
  have A1 := Aside0.mk A10
  clear A10
  obtain rfl := Option.some.inj H
  go_enter Tryd.func9, Tryd.ntmps9
  go_wp2_with (first | ((with_reducible refine gate_dst (N := 2) rfl ?_); refine Kd.R_lit k82 _ 82 ?hg (N := 2) ?hd (xs := ([(⟨(⟨#[110]⟩ : ByteArray), 1, true⟩ : S82)] : List (S82))) (inner := [.string (⟨#[110]⟩ : ByteArray), .int .i64 1, .bool true]) (ok := fun _ => True) (okp := fun _ => True) ?hr ?hp (fun _ hk => hk) trivial (Below.refl _ _) (Nat.le_refl _) (by simp) ?_; (case hd => rfl); (case hg => rfl); (case hr => first | (go_simp; done) | (go_simp; rfl)); (case hp => exact (Reps.c3 (show Kd.M k82 _ _ _ (⟨(⟨#[110]⟩ : ByteArray), 1, true⟩ : S82) [.string (⟨#[110]⟩ : ByteArray), .int .i64 1, .bool true] from (k82_mkM _ _ _ (⟨(⟨#[110]⟩ : ByteArray), 1, true⟩ : S82) )) (Reps.none _ _))); intro v119 w2 ho3 hb hg_ hnew_; clear hg_ hnew_; (first | rw [← Ny118.out] at ho3 | (simp only [Int.reduceToNat] at ho3; rw [← Ny118.out] at ho3)); have n0_ := Aside0.mk (Kd.R_lower ho3 (below_size (by repeat (first | (with_reducible first | exact HB.out | apply below_alloc | apply pw_below_drewN | apply below_drew1) | exact HB.out)))); have n1_ := Aside0.mk (below_step (by repeat (first | (with_reducible first | exact HB.out | apply below_alloc | apply pw_below_drewN | apply below_drew1) | exact HB.out)) hb); clear HB; have HO120 := n0_; have HB := n1_; clear n0_ n1_; clear hb ho3; obtain ⟨Ao4, co4, eo4⟩ := Kd.R_slice HO120.out; subst eo4) | ((with_reducible refine gate_callee (f := 18) rfl ?_); refine goesL_ (some 4) rfl rfl Tryd.func18 (by kernel_rfl) rfl #[.agg #[.string (⟨#[97]⟩ : ByteArray), .int .i64 1, .int .i64 0, .slice Ao4 y118.length co4]] rfl (by (try simp only [List.map_toArray, List.map_cons, List.map_nil]); first | done | rfl | (simp only [List.length_drop, List.length_take]; rfl)) ?_; (with_reducible refine (schema_Text.calls k (⟨#[97]⟩ : ByteArray) 1 0 _ _ y118 t121 _ ?side1 ?side2 ?side3 A1.out).mono ?_); (case side1 => exact Gl.below HG.out (by repeat (first | (with_reducible first | exact HB.out | apply below_alloc | apply pw_below_drewN | apply below_drew1) | exact HB.out))); (case side2 => repeat (first | exact (Kd.R_reads' HO120.out).2.2 | (with_reducible refine Kd.C_alloc ?_ _) | (with_reducible refine Kd.C_drewN ?_ _) | (with_reducible refine Kd.C_drew ?_))); (case side3 => exact (Kd.R_reads' HO120.out).2.1); rintro e w5 ⟨rfl, hb⟩; refine ⟨_, rfl, ?_⟩; have n0_ := Aside0.mk (Kd.R_below (by (with_reducible repeat (first | apply Kd.R_alloc | apply Kd.R_drewN | apply Kd.R_drew)); exact HO120.out) hb); have n1_ := Aside0.mk (below_step (by repeat (first | (with_reducible first | exact HB.out | apply below_alloc | apply pw_below_drewN | apply below_drew1) | exact HB.out)) hb); clear HO120; clear HB; have HO120 := n0_; have HB := n1_; clear n0_ n1_; (try clear hb); (try clear hb2); (try clear hk); (try clear hi)))
  go_ret
  exact ⟨by first | rfl | (simp [errW_none, errW_some] <;> rfl) | (simp [*, errW_none, errW_some] <;> rfl), by repeat (first | (with_reducible first | exact HB.out | apply below_alloc | apply pw_below_drewN | apply below_drew1) | exact HB.out)⟩

/-! ### schema_Type: function 10 -/
def typeIdx (a0 : ByteArray) : Int := Lib.idxOfS (List.take 3 (typeNames.drop 1)) a0
def schema_Type.f (a0 : ByteArray) : Option (Int × Bool) := some (typeIdx a0 + 1, decide (typeIdx a0 ≥ 0))
theorem typeIdx_eq (a0 : ByteArray) : typeIdx a0 = if a0 = ⟨#[105, 110, 116]⟩ then 0 else if a0 = ⟨#[116, 101, 120, 116]⟩ then 1 else if a0 = ⟨#[102, 108, 97, 103]⟩ then 2 else -1 := by
  unfold typeIdx typeNames Lib.idxOfS
  simp only [List.drop_succ_cons, List.drop_zero, List.take_succ_cons, List.take_zero, Lib.idxFromS]
  by_cases h1 : a0 = ⟨#[105, 110, 116]⟩
  · subst h1; rfl
  · by_cases h2 : a0 = ⟨#[116, 101, 120, 116]⟩
    · subst h2; rfl
    · by_cases h3 : a0 = ⟨#[102, 108, 97, 103]⟩
      · subst h3; rfl
      · simp [h1, h2, h3, Ne.symm h1, Ne.symm h2, Ne.symm h3]
theorem schema_Type.calls (a0 : ByteArray) (r1 : Int) (r2 : Bool) (w : World) (hG : Gl w) (h : schema_Type.f a0 = some (r1, r2)) :
    Calls Tryd.prog 10 #[.string a0] w fun e w' => e = .returned (.tuple #[.int .i64 r1, .bool r2]) ∧ Drawn0 w w' := by
  unfold schema_Type.f at h
  obtain ⟨rfl, rfl⟩ := Prod.mk.inj (Option.some.inj h)
  clear h
  have hb : -1 ≤ typeIdx a0 ∧ typeIdx a0 ≤ 2 := by
    rw [typeIdx_eq]
    split
    · omega
    · split
      · omega
      · split <;> omega
  have hc : ∀ n, (∀ (j : Nat), j < (typeNames.drop 1).length → (w.drewN n).cell? ⟨0, 1 + j, none⟩ = some (.string ((typeNames.drop 1).getD j ByteArray.empty))) := by
    intro n j hj
    rw [World.var?_cell gTypes (hG.drewN n).types (1 + j)]
    match j, hj with
    | 0, _ => rfl
    | 1, _ => rfl
    | 2, _ => rfl
    | k + 3, h => exact absurd h (by simp [typeNames])
  have HC := Aside0.mk hc
  clear hc
  have hi := Tryd.slices_Index_string 0 1 3 3 (typeNames.drop 1) a0
  rw [show Lib.idxOfS (List.take 3 (typeNames.drop 1)) a0 = typeIdx a0 from rfl] at hi
  generalize typeIdx a0 = I at *
  have HI := Aside0.mk hi
  clear hi
  obtain ⟨hb1, hb2⟩ := hb
  go_enter Tryd.func10, Tryd.ntmps10
  go_wp2_with (go_at_call 36; (refine (HI.out _ (by decide) (by decide) (HC.out 0)).mono ?_); rintro e w' ⟨rfl, rfl⟩)
  go_ret2
  exact ⟨rfl, by repeat (first | exact Drawn0.refl _ | apply Drawn0.step)⟩


end Go.Proofs.YtojiicbdbajljaaDoor.Q
