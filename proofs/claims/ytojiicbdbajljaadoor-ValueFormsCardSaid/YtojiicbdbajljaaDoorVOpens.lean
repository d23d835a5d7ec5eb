/- Arguments opened, type by type (printed by wip/opens.py); no condition. -/
import Derived.Test.YtojiicbdbajljaaDoorOpensP
import Derived.Test.YtojiicbdbajljaaDoorVx0
namespace Go.Proofs.YtojiicbdbajljaaDoor.V
open Go.RowKit Go.Proofs.YtojiicbdbajljaaDoorW.PrintWords Go.Proofs.YtojiicbdbajljaaDoorW.PrintLast Go.Proofs.YtojiicbdbajljaaDoorW.PrintMore

abbrev G3 : (Int) → Prop := (fun n : Int => (Lit.int .i64 n).wf = true)
abbrev G5 : (Int) → Prop := (fun n : Int => (Lit.int .u8 n).wf = true)
abbrev G43 : (List (Int)) → Prop := (fun l : List (Int) => (∀ a ∈ l, G5 a) ∧ l.length * Tryd.prog.bytesOf 5 ≤ 140737488351232 ∧ l.length ≤ 9223372036854775807)
abbrev G9 : (ByteArray) → Prop := (fun s : ByteArray => s.size ≤ 140737488351232)
abbrev G73 : (S73) → Prop := (fun x : S73 => G3 x.f0 ∧ G3 x.f1 ∧ G9 x.f2)
abbrev G44 : (List (S73)) → Prop := (fun l : List (S73) => (∀ a ∈ l, G73 a) ∧ l.length * Tryd.prog.bytesOf 73 ≤ 140737488351232 ∧ l.length ≤ 9223372036854775807)
abbrev G46 : ((Int) × (List (Int)) × (List (S73))) → Prop := (fun x : (Int) × (List (Int)) × (List (S73)) => G3 x.1 ∧ G43 x.2.1 ∧ G44 x.2.2)
theorem opens_3 : Opens Tryd.prog 3 (Kd.int .i64) G3 := Opens.int Tryd.underlying3 (by kernel_rfl)
theorem cells_3 : Tryd.prog.cellsOf 3 = 1 := by kernel_rfl
theorem opens_5 : Opens Tryd.prog 5 (Kd.int .u8) G5 := Opens.int Tryd.underlying5 (by kernel_rfl)
theorem cells_5 : Tryd.prog.cellsOf 5 = 1 := by kernel_rfl
theorem opens_43 : Opens Tryd.prog 43 (Kd.slice 5 (Kd.int .u8)) G43 := Opens.slice Tryd.underlying43 (by kernel_rfl) opens_5 (0 : Int)
theorem cells_43 : Tryd.prog.cellsOf 43 = 1 := by kernel_rfl
theorem opens_9 : Opens Tryd.prog 9 Kd.string G9 := Opens.string Tryd.underlying9 (by kernel_rfl)
theorem cells_9 : Tryd.prog.cellsOf 9 = 1 := by kernel_rfl
theorem cells_73 : Tryd.prog.cellsOf 73 = 3 := by kernel_rfl
set_option maxRecDepth 100000 in
theorem opensP_73 : Opens Tryd.prog 73 (Kd.pair (Kd.int .i64) (Kd.pair (Kd.int .i64) Kd.string)) (fun x : (Int) × (Int) × (ByteArray) => G3 x.1 ∧ G3 x.2.1 ∧ G9 x.2.2) :=
  ⟨by rw [cells_73]; rfl, fun {H enc w base sp held fuel cs x} hd hn => by
    obtain ⟨xs, n, rfl, rfl, hlen, hxl, hf⟩ := DataW.trod_struct Tryd.underlying73 hd
    rw [cells_73] at hlen
    have hw : ∀ (j : Nat) (t : TypeId) (d : DataW H), ([3, 3, 9] : List TypeId)[j]? = some t → (xs.map (·.1))[j]? = some d → Near Tryd.prog t d := fun j t d ht hd k hk => hn k (by simp only [DataW.weights, Tryd.underlying73]; exact DataW.weights_mem_each ht hd k hk)
    match cs, hlen, xs, hxl, hf, hw with
    | [c0, c1, c2], _, [x0, x1, x2], _, hf, hw =>
      have h0 : DataW.trod enc Tryd.prog w base sp held n 3 (([c0, c1, c2].drop 0).take (Tryd.prog.cellsOf 3)) = [x0, x1, x2][0]? := hf 0 _ rfl
      rw [cells_3] at h0
      obtain ⟨a0, k0, g0⟩ := opens_3.op (show DataW.trod enc Tryd.prog w base sp held n 3 [c0] = some x0 from h0) (hw 0 3 _ rfl rfl)
      have h1 : DataW.trod enc Tryd.prog w base sp held n 3 (([c0, c1, c2].drop 1).take (Tryd.prog.cellsOf 3)) = [x0, x1, x2][1]? := hf 1 _ rfl
      rw [cells_3] at h1
      obtain ⟨a1, k1, g1⟩ := opens_3.op (show DataW.trod enc Tryd.prog w base sp held n 3 [c1] = some x1 from h1) (hw 1 3 _ rfl rfl)
      have h2 : DataW.trod enc Tryd.prog w base sp held n 9 (([c0, c1, c2].drop 2).take (Tryd.prog.cellsOf 9)) = [x0, x1, x2][2]? := hf 2 _ rfl
      rw [cells_9] at h2
      obtain ⟨a2, k2, g2⟩ := opens_9.op (show DataW.trod enc Tryd.prog w base sp held n 9 [c2] = some x2 from h2) (hw 2 9 _ rfl rfl)
      exact ⟨(a0, a1, a2), ⟨[c0], [c1, c2], rfl, k0, ⟨[c1], [c2], rfl, k1, k2⟩⟩, ⟨g0, g1, g2⟩⟩⟩
theorem opens_73 : Opens Tryd.prog 73 k73 (fun x => G3 x.f0 ∧ G3 x.f1 ∧ G9 x.f2) :=
  ⟨by rw [cells_73]; rfl, fun hd hn => by
    obtain ⟨a, hK, hG⟩ := opensP_73.op hd hn
    exact ⟨⟨a.1, a.2.1, a.2.2⟩, hK, hG⟩⟩
theorem opens_44 : Opens Tryd.prog 44 (Kd.slice 73 k73) G44 := Opens.slice Tryd.underlying44 (by kernel_rfl) opens_73 z73
theorem cells_44 : Tryd.prog.cellsOf 44 = 1 := by kernel_rfl
theorem cells_46 : Tryd.prog.cellsOf 46 = 3 := by kernel_rfl
set_option maxRecDepth 100000 in
theorem opensP_46 : Opens Tryd.prog 46 (Kd.pair (Kd.int .i64) (Kd.pair (Kd.slice 5 (Kd.int .u8)) (Kd.slice 73 k73))) (fun x : (Int) × (List (Int)) × (List (S73)) => G3 x.1 ∧ G43 x.2.1 ∧ G44 x.2.2) :=
  ⟨by rw [cells_46]; rfl, fun {H enc w base sp held fuel cs x} hd hn => by
    obtain ⟨xs, n, rfl, rfl, hlen, hxl, hf⟩ := DataW.trod_struct Tryd.underlying46 hd
    rw [cells_46] at hlen
    have hw : ∀ (j : Nat) (t : TypeId) (d : DataW H), ([3, 43, 44] : List TypeId)[j]? = some t → (xs.map (·.1))[j]? = some d → Near Tryd.prog t d := fun j t d ht hd k hk => hn k (by simp only [DataW.weights, Tryd.underlying46]; exact DataW.weights_mem_each ht hd k hk)
    match cs, hlen, xs, hxl, hf, hw with
    | [c0, c1, c2], _, [x0, x1, x2], _, hf, hw =>
      have h0 : DataW.trod enc Tryd.prog w base sp held n 3 (([c0, c1, c2].drop 0).take (Tryd.prog.cellsOf 3)) = [x0, x1, x2][0]? := hf 0 _ rfl
      rw [cells_3] at h0
      obtain ⟨a0, k0, g0⟩ := opens_3.op (show DataW.trod enc Tryd.prog w base sp held n 3 [c0] = some x0 from h0) (hw 0 3 _ rfl rfl)
      have h1 : DataW.trod enc Tryd.prog w base sp held n 43 (([c0, c1, c2].drop 1).take (Tryd.prog.cellsOf 43)) = [x0, x1, x2][1]? := hf 1 _ rfl
      rw [cells_43] at h1
      obtain ⟨a1, k1, g1⟩ := opens_43.op (show DataW.trod enc Tryd.prog w base sp held n 43 [c1] = some x1 from h1) (hw 1 43 _ rfl rfl)
      have h2 : DataW.trod enc Tryd.prog w base sp held n 44 (([c0, c1, c2].drop 2).take (Tryd.prog.cellsOf 44)) = [x0, x1, x2][2]? := hf 2 _ rfl
      rw [cells_44] at h2
      obtain ⟨a2, k2, g2⟩ := opens_44.op (show DataW.trod enc Tryd.prog w base sp held n 44 [c2] = some x2 from h2) (hw 2 44 _ rfl rfl)
      exact ⟨(a0, a1, a2), ⟨[c0], [c1, c2], rfl, k0, ⟨[c1], [c2], rfl, k1, k2⟩⟩, ⟨g0, g1, g2⟩⟩⟩
theorem opens_46 : Opens Tryd.prog 46 (Kd.pair (Kd.int .i64) (Kd.pair (Kd.slice 5 (Kd.int .u8)) (Kd.slice 73 k73))) G46 := opensP_46
end Go.Proofs.YtojiicbdbajljaaDoor.V
